/- The reference's Fill, and the law's own 'right'. No statement is proved here. -/
import Derived.Test.YthbbefkmnahnlaaGrid
import Derived.Test.YthbbefkmnahnlaaPure1
import Derived.OwnWalkIn
namespace Go.Proofs.Ythbbefkmnahnlaa
open Go.RowKit Go.Shelf
attribute [local go_sem] Oper.semAt_some

def boxN (c : Crit) : Nat := ((c.hi - c.lo) / c.st + 1).toNat
def boxI (c : Crit) (m : Int) : Nat := ((m - c.lo) / c.st).toNat
def boxF (c : Crit) (m : Int) : List Int := if m = -1 then List.replicate (boxN c) 0 else (List.replicate (boxN c) 0).set (boxI c m) 1
def fillM (c : List Crit) (ks : List Int) : List (List Int) := List.zipWith boxF c ks

theorem fill_snoc {c : List Crit} {ks : List Int} {j : Nat} {x : Crit} {y : Int} (hx : c[j]? = some x) (hy : ks[j]? = some y) : fillM (c.take (j + 1)) (ks.take (j + 1)) = fillM (c.take j) (ks.take j) ++ [boxF x y] := by
  have h1 : j < c.length := (List.getElem?_eq_some_iff.1 hx).1
  have h2 : j < ks.length := (List.getElem?_eq_some_iff.1 hy).1
  unfold fillM
  rw [List.take_add_one, List.take_add_one, hx, hy, Option.toList_some, Option.toList_some, List.zipWith_append (by simp; omega)]
  rfl

theorem scaled_at : ∀ {c : List Crit} {ks : List Int}, scaledM c ks = true → ∀ (j : Nat) (x : Crit) (y : Int), c[j]? = some x → ks[j]? = some y → (y == -1 || onB x y) = true
  | [], _, _, j, x, y, h, _ => by simp at h
  | _ :: _, [], _, j, x, y, _, h => by simp at h
  | c :: a, m :: b, h, j, x, y, h1, h2 => by
    simp only [scaledM, Bool.and_eq_true] at h
    match j, h1, h2 with
    | 0, h1, h2 =>
      simp at h1 h2
      subst h1; subst h2
      exact h.1
    | j + 1, h1, h2 => exact scaled_at h.2 j x y (by simpa using h1) (by simpa using h2)

theorem boxN_facts {c : Crit} (h : rightB c = true) : (c.hi - c.lo) / c.st + 1 = (boxN c : Int) ∧ boxN c ≤ 1001 ∧ 2 ≤ boxN c := by
  obtain ⟨h1, h2, h3, h4, h5, h6⟩ := right_step h
  have := of_decide_eq_true h
  have h7 : (c.hi - c.lo) / c.st ≤ c.hi - c.lo := Int.ediv_le_self _ (by omega)
  unfold boxN
  omega

theorem boxI_facts {c : Crit} (h : rightB c = true) {m : Int} (ho : onB c m = true) : (m - c.lo) / c.st = (boxI c m : Int) ∧ boxI c m < boxN c ∧ c.lo + (boxI c m : Int) * c.st = m ∧ c.lo ≤ m ∧ m ≤ 1000 := by
  obtain ⟨h1, h2, h3, h4, h5, h6⟩ := right_step h
  have hr := of_decide_eq_true h
  have hm := of_decide_eq_true ho
  have h7 : 0 ≤ (m - c.lo) / c.st := Int.ediv_nonneg (by omega) (by omega)
  have h8 : (m - c.lo) / c.st ≤ (c.hi - c.lo) / c.st := Int.ediv_le_ediv (by omega) (by omega)
  have h9 : (m - c.lo) / c.st * c.st = m - c.lo := by
    have := Int.emod_add_mul_ediv (m - c.lo) c.st
    rw [Int.mul_comm] at this; omega
  have hN := (boxN_facts h).1
  have e : (m - c.lo) / c.st = (boxI c m : Int) := by unfold boxI; omega
  refine ⟨e, by omega, ?_, by omega, by omega⟩
  rw [← e, h9]; omega

theorem boxF_len (c : Crit) (m : Int) : (boxF c m).length = boxN c := by
  unfold boxF
  split <;> simp

theorem boxF_01 (c : Crit) (m : Int) : ∀ x, x ∈ boxF c m → x = 0 ∨ x = 1 := by
  intro x hx
  unfold boxF at hx
  split at hx
  · exact .inl (List.eq_of_mem_replicate hx)
  · rcases List.mem_or_eq_of_mem_set hx with hx | hx
    · exact .inl (List.eq_of_mem_replicate hx)
    · exact .inr hx

theorem made_ints (N : Nat) : madeCells (Value.int .i64 0).cells (N * 1) = ((List.replicate N (0 : Int)).map (Value.int .i64)).toArray := by
  apply Array.ext
  · simp [madeCells]
  · intro i h1 h2
    have e : i % 1 = 0 := Nat.mod_one i
    simp [madeCells, Value.cells, e]

theorem mk_ints (N : Nat) (hN : N ≤ 1000000) (w : World) : (Instr.makeSlice 23 (.int .i64 (N : Int)) (.int .i64 (N : Int))).run Try.prog w = .ok (.slice (some ⟨w.heap.size, 0, none⟩) N N) (w.alloc (.cells ((List.replicate N (0 : Int)).map (Value.int .i64)).toArray 3)) := by
  obtain ⟨i0, hi, hz0, hz1, hz2⟩ := info_parts int_info
  have := run_make (P := Try.prog) w 23 3 i0 (.int .i64 0) Try.underlying23 hi hz0 .i64 .i64 (N : Int) (N : Int) (by omega) (Int.le_refl _) (by rw [hz2]; omega) (by omega)
  rw [this, hz1]
  simp only [Int.toNat_natCast, made_ints]

def rightM (c : List Crit) (ks : List Int) : Bool := decide (c.length ≤ 8) && (errM c == 0 && scaledM c ks)

set_option maxHeartbeats 400000 in
theorem right_any {M N : List Nat} (A C : Option Addr) (n cp k cq : Nat) (c : List Crit) (ks : List Int) (w : World) (hx : Sl Crit w M A n cp c) (hz : Sl Int w N C k cq ks) :
    Calls Try.prog 8 #[.slice A n cp, .slice C k cq] w fun e w' => e = .returned (.bool (rightM c ks)) ∧ Below w.heap.size w w' := by
  refine (callsIn_wide (n := 10)).1 ?_
  have hl := hx.len
  have hn := hx.small
  have H := Lib.hid (hx.less (M' := []) (by simp))
  have G := Lib.hid (hz.less (M' := []) (by simp))
  clear hx hz
  by_cases h8 : n ≤ 8
  · generalize he : errM c = eC
    have HE := Lib.hid he
    by_cases h0 : eC = 0
    · subst h0
      have ha : c.all rightB = true := by
        unfold errM at he
        rw [if_neg (by omega)] at he
        by_cases hg : c.all rightB = true
        · exact hg
        · rw [if_neg hg] at he; cases he
      have HA := Lib.hid ha
      have hr : rightM c ks = scaledM c ks := by simp [rightM, hl, h8, he]
      rw [hr]
      clear ha he hr hl
      refine callsIn_of_wp Try.func8 rfl trivial ?_ rfl; simp only [Try.ntmps8, List.size_toArray, List.length_cons, List.length_nil, Nat.reduceAdd, Nat.reduceSub, Array.replicate_succ, Array.replicate_zero, List.push_toArray, List.append_toArray, List.nil_append, List.cons_append]
      gi_wp2_with (first
        | (refine ⟨trivial, ?_⟩; gi_at_call 19; refine (callsIn_wide.2 (error_any A n cp c _ H.out)).mono ?_; rintro e w1 ⟨rfl, hb⟩; rw [HE.out]; have H1 := Lib.hid hb; clear hb)
        | (refine ⟨trivial, ?_⟩; gi_at_call 13; refine (callsIn_wide.2 (scaled_any A C n cp k cq c ks _ (H.out.keep (Keeps.of_below H1.out [])) (G.out.keep (Keeps.of_below H1.out [])) (by omega) HA.out)).mono ?_; rintro e w2 ⟨rfl, hb⟩; have H2 := Lib.hid (H1.out.trans (hb.mono H1.out.size)); clear hb)
        | (refine ⟨trivial, ?_⟩))
      go_ret
      exact ⟨rfl, H2.out⟩
    · have hr : rightM c ks = false := by simp [rightM, he, h0]
      have h1 : (eC == 0) = false := by simpa using h0
      rw [hr]
      clear he hr hl
      refine callsIn_of_wp Try.func8 rfl trivial ?_ rfl; simp only [Try.ntmps8, List.size_toArray, List.length_cons, List.length_nil, Nat.reduceAdd, Nat.reduceSub, Array.replicate_succ, Array.replicate_zero, List.push_toArray, List.append_toArray, List.nil_append, List.cons_append]
      gi_wp2_with (first
        | (refine ⟨trivial, ?_⟩; gi_at_call 19; refine (callsIn_wide.2 (error_any A n cp c _ H.out)).mono ?_; rintro e w1 ⟨rfl, hb⟩; rw [HE.out]; have H1 := Lib.hid hb; clear hb)
        | (refine ⟨trivial, ?_⟩))
      go_ret
      exact ⟨rfl, H1.out⟩
  · have hr : rightM c ks = false := by simp [rightM, hl, h8]
    rw [hr]
    clear hr hl
    refine callsIn_of_wp Try.func8 rfl trivial ?_ rfl; simp only [Try.ntmps8, List.size_toArray, List.length_cons, List.length_nil, Nat.reduceAdd, Nat.reduceSub, Array.replicate_succ, Array.replicate_zero, List.push_toArray, List.append_toArray, List.nil_append, List.cons_append]
    gi_wp2_with (refine ⟨trivial, ?_⟩)
    go_ret
    exact ⟨rfl, Below.refl _ _⟩

set_option maxHeartbeats 1000000 in
theorem fill_any {M N : List Nat} (A C : Option Addr) (n cp cq : Nat) (c : List Crit) (ks : List Int) (w : World) (hx : Sl Crit w M A n cp c) (hz : Sl Int w N C n cq ks) (hn : n ≤ 64) (hR : c.all rightB = true) (hS : scaledM c ks = true) :
    Calls Try.prog 9 #[.slice A n cp, .slice C n cq] w fun e w' => ∃ v rs, e = .returned v ∧ Grid w.heap.size w' v n rs ∧ rs.map Prod.snd = fillM c ks ∧ Below w.heap.size w w' := by
  refine (callsIn_wide (n := 10)).1 ?_
  have hl := hx.len
  have hl2 := hz.len
  have H := Lib.hid (hx.less (M' := []) (by simp))
  have G := Lib.hid (hz.less (M' := []) (by simp))
  have HR := Lib.hid hR
  have HS := Lib.hid hS
  have HL := Lib.hid hl
  have HL2 := Lib.hid hl2
  clear hx hz hR hS hl hl2
  refine callsIn_of_wp Try.func9 rfl trivial ?_ rfl; simp only [Try.ntmps9, List.size_toArray, List.length_cons, List.length_nil, Nat.reduceAdd, Nat.reduceSub, Array.replicate_succ, Array.replicate_zero, List.push_toArray, List.append_toArray, List.nil_append, List.cons_append]
  gi_wp2
  gi_loopw [5, 6] (fun o i wr => ∃ (j : Nat) (rs : List (Nat × List Int)), j ≤ n ∧ i = .int .i64 j ∧ Hid (Grid w.heap.size wr o j rs) ∧ Hid (rs.map Prod.snd = fillM (c.take j) (ks.take j)) ∧ Below w.heap.size w wr) (fun _ i _ => n - (intOf i).toNat)
  case atStart => exact ⟨0, [], by omega, rfl, Lib.hid (Grid.empty w), Lib.hid rfl, (Below.refl _ _).alloc (Nat.le_refl _) _⟩
  case round =>
    obtain ⟨j, rs, hj, rfl, hg, hf, hb⟩ := hrel
    by_cases hlt : j < n
    · obtain ⟨b, o, s, lo, hi, st, how, tr, rv, rfl, hkx, hd, -, c0, c1, c2, c3, c4, c5, c6⟩ := (H.out.keep (Keeps.of_below hb [])).critd hlt
      obtain ⟨b2, o2, y, rfl, hc2, -, hd2, hky⟩ := (G.out.keep (Keeps.of_below hb [])).intd hlt
      have hB : rightB ⟨s, lo, hi, st, how, tr, rv⟩ = true := (List.all_eq_true.1 HR.out) _ (List.mem_of_getElem? hkx)
      have hO := scaled_at HS.out j _ _ hkx hky
      obtain ⟨hN1, hN2, hN3⟩ := boxN_facts hB
      have HB := Lib.hid hB
      have HN1 := Lib.hid hN1
      have HF := Lib.hid (fill_snoc hkx hky)
      have HBL := Lib.hid hb
      have HO := Lib.hid hO
      generalize hN : boxN ⟨s, lo, hi, st, how, tr, rv⟩ = N at *
      have HN := Lib.hid hN
      clear hd hd2 hB hN1 hb hkx hky hN hO
      by_cases hy : y = -1
      · subst hy
        gi_wp2_with (first
          | (gi_at_builtin; refine wpListIn_plain rfl fun K hK' => ?_; refine wpIn_append _ _ _ rfl rfl rfl HAP.out (hK' _ _ ?_); clear hK' K)
          | (refine ⟨trivial, ?_⟩; gi_at_call 20; refine (callsIn_wide.2 (marks54_any s lo hi st how tr rv _ HB.out)).mono ?_; rintro e w1 ⟨rfl, hb1⟩; rw [show (hi - lo) / st + 1 = (N : Int) from HN1.out]; have hmk := mk_ints N (by omega) w1; obtain ⟨W2, hW2⟩ : ∃ W2 : World, w1.alloc (.cells ((List.replicate N (0 : Int)).map (Value.int .i64)).toArray 3) = W2 := ⟨_, rfl⟩; rw [hW2] at hmk; have hb2 : Below wr.heap.size wr W2 := (by rw [← hW2]; exact hb1.alloc hb1.size _); have hbk : W2.heap[w1.heap.size]? = some (.cells ((List.replicate N (0 : Int)).map (Value.int .i64)).toArray 3 (0, 0)) := (by rw [← hW2]; exact heap_alloc_new w1 _); have HBK := Lib.hid hbk; have HB2 := Lib.hid hb2; have HB1 := Lib.hid hb1.size; have m2 : W2.cell? ⟨b2, o2 + j, none⟩ = some (.int .i64 (-1)) := (Keeps.of_below hb2 []).cell (by simp) hc2; obtain ⟨v3, W3, hap, hg3, hb3, hs3⟩ := hg.out.step HBL.out.size (by omega) hb2 hb1.size (List.length_replicate) hbk (fun x hx => .inl (List.eq_of_mem_replicate hx)) (by omega); have HAP := Lib.hid hap; have HG3 := Lib.hid hg3; have HB3 := Lib.hid (hb2.mono HBL.out.size |>.trans hb3); clear hb1 hb2 hbk hap hg3 hb3 c0 c1 c2 c3 c4 c5 c6 hc2 hW2)
          | fail)
        refine ⟨⟨j + 1, rs ++ [(w1.heap.size, List.replicate N 0)], by omega, by go_num, HG3, Lib.hid ?_, HBL.out.trans HB3.out⟩, by simp [intOf]; omega⟩
        rw [List.map_append, hf.out, HF.out]
        simp [boxF, HN.out]
      · have hy2 : (y != -1) = true := by simpa using hy
        have hO2 : onB ⟨s, lo, hi, st, how, tr, rv⟩ y = true := by
          have := HO.out
          rw [show (y == -1) = false by simpa using hy, Bool.false_or] at this
          exact this
        obtain ⟨hI1, hI2, hI3, hI4, hI5⟩ := boxI_facts HB.out hO2
        rw [HN.out] at hI2
        have hF2 : boxF ⟨s, lo, hi, st, how, tr, rv⟩ y = (List.replicate N 0).set (boxI ⟨s, lo, hi, st, how, tr, rv⟩ y) 1 := by rw [boxF, if_neg hy, HN.out]
        have HF2 := Lib.hid hF2
        generalize boxI ⟨s, lo, hi, st, how, tr, rv⟩ y = I at *
        obtain ⟨⟨r1, r2, r3⟩, r4, -, -, -, -⟩ := rightB_facts HB.out
        simp only at r1 r2 r3 r4 hI1 hI3 hI4
        have HI1 := Lib.hid hI1
        clear hO2 hI3 hF2 hI1
        gi_wp2_with (first
          | (refine ⟨trivial, ?_⟩; gi_at_call 20; refine (callsIn_wide.2 (marks54_any s lo hi st how tr rv _ HB.out)).mono ?_; rintro e w1 ⟨rfl, hb1⟩; rw [show (hi - lo) / st + 1 = (N : Int) from HN1.out]; have hmk := mk_ints N (by omega) w1; obtain ⟨W2, hW2⟩ : ∃ W2 : World, w1.alloc (.cells ((List.replicate N (0 : Int)).map (Value.int .i64)).toArray 3) = W2 := ⟨_, rfl⟩; rw [hW2] at hmk; have hb2 : Below wr.heap.size wr W2 := (by rw [← hW2]; exact hb1.alloc hb1.size _); have hbk : W2.heap[w1.heap.size]? = some (.cells ((List.replicate N (0 : Int)).map (Value.int .i64)).toArray 3 (0, 0)) := (by rw [← hW2]; exact heap_alloc_new w1 _); have HBK := Lib.hid hbk; have HB2 := Lib.hid hb2; have HB1 := Lib.hid hb1.size; have m2 : W2.cell? ⟨b2, o2 + j, none⟩ = some (.int .i64 y) := (Keeps.of_below hb2 []).cell (by simp) hc2; have d1 : W2.cell? ⟨b, o + j * 7 + 1, none⟩ = some (.int .i64 lo) := (Keeps.of_below hb2 []).cell (by simp) c1; have d3 : W2.cell? ⟨b, o + j * 7 + 3, none⟩ = some (.int .i64 st) := (Keeps.of_below hb2 []).cell (by simp) c3; have e1 : W2.cell? ⟨w1.heap.size, I, none⟩ = some (.int .i64 0) := (by simp [World.cell?, hbk, hI2]); have e2 : W2.frozen? ⟨w1.heap.size, I, none⟩ = false := (by simp [World.frozen?, hbk]); clear hb1 hb2 hbk c0 c1 c2 c3 c4 c5 c6 hc2 hW2)
          | fail)
        have v1 := stays_drew d1
        have v3 := stays_drew d3
        have v5 := stays_drew m2
        have k0 : ¬ st = 0 := by omega
        have k1 : IntKind.i64.wrap (y - lo) = y - lo := by rw [IntKind.wrap_i64]; omega
        have k2 : (y - lo).tdiv st = (I : Int) := by rw [Int.tdiv_eq_ediv_of_nonneg (by omega)]; exact HI1.out
        have k3 : IntKind.i64.wrap (I : Int) = (I : Int) := by rw [IntKind.wrap_i64]; omega
        refine region_E_np [] 18 (by kernel_rfl) (by kernel_rfl) ?_
        refine E_read 0 (by kernel_rfl) rfl rfl ?_ np_panic ?_; (focus (first | exact wanted_none rfl | (refine wanted_yes rfl ?_; (focus (simp [yielded]; done))))); apply Exists.intro; refine ⟨fun w' hk Z hZ => ?_, ?_⟩; (focus (simp only [execOp]; (repeat conv in Act.eval _ _ => whnf); (try go_simp); exact hZ)); (try simp only [Act.put, List.setIfInBounds_toArray, List.set_cons_succ, List.set_cons_zero])
        refine E_read 1 (by kernel_rfl) rfl rfl ?_ np_panic ?_; (focus (first | exact wanted_none rfl | (refine wanted_yes rfl ?_; (focus (simp [yielded]; done))))); apply Exists.intro; refine ⟨fun w' hk Z hZ => ?_, ?_⟩; (focus (simp only [execOp]; (repeat conv in Act.eval _ _ => whnf); (try go_simp); exact hZ)); (try simp only [Act.put, List.setIfInBounds_toArray, List.set_cons_succ, List.set_cons_zero])
        refine E_read 2 (by kernel_rfl) rfl rfl ?_ np_panic ?_; (focus (first | exact wanted_none rfl | (refine wanted_yes rfl ?_; (focus (simp [yielded]; done))))); apply Exists.intro; refine ⟨fun w' hk Z hZ => ?_, ?_⟩; (focus (simp only [execOp]; (repeat conv in Act.eval _ _ => whnf); (try go_simp); exact hZ)); (try simp only [Act.put, List.setIfInBounds_toArray, List.set_cons_succ, List.set_cons_zero])
        refine E_read 3 (by kernel_rfl) rfl rfl ?_ np_panic ?_; (focus (first | exact wanted_none rfl | (refine wanted_yes rfl ?_; (focus (simp [yielded]; done))))); apply Exists.intro; refine ⟨fun w' hk Z hZ => ?_, ?_⟩; (focus (simp only [execOp]; (repeat conv in Act.eval _ _ => whnf); (try go_simp); exact hZ)); (try simp only [Act.put, List.setIfInBounds_toArray, List.set_cons_succ, List.set_cons_zero])
        refine E_read 4 (by kernel_rfl) rfl rfl ?_ np_panic ?_; (focus (first | exact wanted_none rfl | (refine wanted_yes rfl ?_; (focus (simp [yielded]; done))))); apply Exists.intro; refine ⟨fun w' hk Z hZ => ?_, ?_⟩; (focus (simp only [execOp]; (repeat conv in Act.eval _ _ => whnf); (try go_simp); exact hZ)); (try simp only [Act.put, List.setIfInBounds_toArray, List.set_cons_succ, List.set_cons_zero])
        refine E_read 5 (by kernel_rfl) rfl rfl ?_ np_panic ?_; (focus (first | exact wanted_none rfl | (refine wanted_yes rfl ?_; (focus (simp [yielded]; done))))); apply Exists.intro; refine ⟨fun w' hk Z hZ => ?_, ?_⟩; (focus (simp only [execOp]; (repeat conv in Act.eval _ _ => whnf); (try go_simp); exact hZ)); (try simp only [Act.put, List.setIfInBounds_toArray, List.set_cons_succ, List.set_cons_zero])
        refine E_read 6 (by kernel_rfl) rfl rfl ?_ np_panic ?_; (focus (first | exact wanted_none rfl | (refine wanted_yes rfl ?_; (focus (simp [yielded]; done))))); apply Exists.intro; refine ⟨fun w' hk Z hZ => ?_, ?_⟩; (focus (simp only [execOp]; (repeat conv in Act.eval _ _ => whnf); (try go_simp); exact hZ)); (try simp only [Act.put, List.setIfInBounds_toArray, List.set_cons_succ, List.set_cons_zero])
        refine E_read 7 (by kernel_rfl) rfl rfl ?_ np_panic ?_; (focus (first | exact wanted_none rfl | (refine wanted_yes rfl ?_; (focus (simp [yielded]; done))))); apply Exists.intro; refine ⟨fun w' hk Z hZ => ?_, ?_⟩; (focus (simp only [execOp]; (repeat conv in Act.eval _ _ => whnf); (try go_simp); exact hZ)); (try simp only [Act.put, List.setIfInBounds_toArray, List.set_cons_succ, List.set_cons_zero])
        refine E_read 8 (by kernel_rfl) rfl rfl ?_ np_panic ?_; (focus (first | exact wanted_none rfl | (refine wanted_yes rfl ?_; (focus (simp [yielded]; done))))); apply Exists.intro; refine ⟨fun w' hk Z hZ => ?_, ?_⟩; (focus (simp only [execOp]; (repeat conv in Act.eval _ _ => whnf); (try go_simp); exact hZ)); (try simp only [Act.put, List.setIfInBounds_toArray, List.set_cons_succ, List.set_cons_zero])
        refine E_read 9 (by kernel_rfl) rfl rfl ?_ np_panic ?_; (focus (first | exact wanted_none rfl | (refine wanted_yes rfl ?_; (focus (simp [yielded]; done))))); apply Exists.intro; refine ⟨fun w' hk Z hZ => ?_, ?_⟩; (focus (simp only [execOp]; (repeat conv in Act.eval _ _ => whnf); (try go_simp); exact hZ)); (try simp only [Act.put, List.setIfInBounds_toArray, List.set_cons_succ, List.set_cons_zero])
        refine E_read 10 (by kernel_rfl) rfl rfl ?_ np_panic ?_; (focus (first | exact wanted_none rfl | (refine wanted_yes rfl ?_; (focus (simp [yielded]; done))))); apply Exists.intro; refine ⟨fun w' hk Z hZ => ?_, ?_⟩; (focus (simp only [execOp]; (repeat conv in Act.eval _ _ => whnf); (try go_simp); exact hZ)); (try simp only [Act.put, List.setIfInBounds_toArray, List.set_cons_succ, List.set_cons_zero])
        refine E_read 11 (by kernel_rfl) rfl rfl ?_ np_panic ?_; (focus (first | exact wanted_none rfl | (refine wanted_yes rfl ?_; (focus (simp [yielded]; done))))); apply Exists.intro; refine ⟨fun w' hk Z hZ => ?_, ?_⟩; (focus (simp only [execOp]; (repeat conv in Act.eval _ _ => whnf); (try go_simp); exact hZ)); (try simp only [Act.put, List.setIfInBounds_toArray, List.set_cons_succ, List.set_cons_zero])
        refine E_read 12 (by kernel_rfl) rfl rfl ?_ np_panic ?_; (focus (first | exact wanted_none rfl | (refine wanted_yes rfl ?_; (focus (simp [yielded]; done))))); apply Exists.intro; refine ⟨fun w' hk Z hZ => ?_, ?_⟩; (focus (simp only [execOp]; (repeat conv in Act.eval _ _ => whnf); (try go_simp); exact hZ)); (try simp only [Act.put, List.setIfInBounds_toArray, List.set_cons_succ, List.set_cons_zero])
        refine E_read 13 (by kernel_rfl) rfl rfl ?_ np_panic ?_; (focus (first | exact wanted_none rfl | (refine wanted_yes rfl ?_; (focus (simp [yielded]; done))))); apply Exists.intro; refine ⟨fun w' hk Z hZ => ?_, ?_⟩; (focus (simp only [execOp]; (repeat conv in Act.eval _ _ => whnf); (try go_simp); exact hZ)); (try simp only [Act.put, List.setIfInBounds_toArray, List.set_cons_succ, List.set_cons_zero])
        refine E_read 14 (by kernel_rfl) rfl rfl ?_ np_panic ?_; (focus (first | exact wanted_none rfl | (refine wanted_yes rfl ?_; (focus (simp [yielded]; done))))); apply Exists.intro; refine ⟨fun w' hk Z hZ => ?_, ?_⟩; (focus (simp only [execOp]; (repeat conv in Act.eval _ _ => whnf); (try go_simp); exact hZ)); (try simp only [Act.put, List.setIfInBounds_toArray, List.set_cons_succ, List.set_cons_zero])
        refine E_read 15 (by kernel_rfl) rfl rfl ?_ np_panic ?_; (focus (first | exact wanted_none rfl | (refine wanted_yes rfl ?_; (focus (simp [yielded]; done))))); apply Exists.intro; refine ⟨fun w' hk Z hZ => ?_, ?_⟩; (focus (simp only [execOp]; (repeat conv in Act.eval _ _ => whnf); (try go_simp); exact hZ)); (try simp only [Act.put, List.setIfInBounds_toArray, List.set_cons_succ, List.set_cons_zero])
        refine E_read 16 (by kernel_rfl) rfl rfl ?_ np_panic ?_; (focus (first | exact wanted_none rfl | (refine wanted_yes rfl ?_; (focus (simp [yielded]; done))))); apply Exists.intro; refine ⟨fun w' hk Z hZ => ?_, ?_⟩; (focus (simp only [execOp]; (repeat conv in Act.eval _ _ => whnf); (try go_simp); exact hZ)); (try simp only [Act.put, List.setIfInBounds_toArray, List.set_cons_succ, List.set_cons_zero])
        refine E_read 17 (by kernel_rfl) rfl rfl ?_ np_panic ?_; (focus (first | exact wanted_none rfl | (refine wanted_yes rfl ?_; (focus (simp [yielded]; done))))); apply Exists.intro; refine ⟨fun w' hk Z hZ => ?_, ?_⟩; (focus (simp only [execOp]; (repeat conv in Act.eval _ _ => whnf); (try go_simp); exact hZ)); (try simp only [Act.put, List.setIfInBounds_toArray, List.set_cons_succ, List.set_cons_zero])
        refine E_nil 1 (by kernel_rfl) rfl ?_
        refine tail_step fun K hK => ?_; refine tailStep_op rfl ?_ (fun K' hK' => ?_); (focus (first | exact wanted_none rfl | (refine wanted_yes rfl ?_; (focus (simp [yielded]; done))))); gi_wp2
        refine tail_nil _ ?_
        simp only [npost]
        obtain ⟨W4, hW4⟩ : ∃ W4 : World, (W2.setCell ⟨w1.heap.size, I, none⟩ (.int .i64 1)).drew = W4 := ⟨_, rfl⟩
        rw [hW4]
        have hb4 : Below wr.heap.size wr W4 := by rw [← hW4]; exact (HB2.out.setCell (p := ⟨w1.heap.size, I, none⟩) HB1.out _).drew
        have hbk4 : W4.heap[w1.heap.size]? = some (.cells (((List.replicate N (0 : Int)).set I 1).map (Value.int .i64)).toArray 3 (0, 0)) := by
          rw [← hW4]
          have := HBK.out
          simp only [World.setCell, World.drew, Array.getElem?_modify, if_true]
          rw [this]
          simp only [Option.map_some, Option.isSome_none, Bool.false_eq_true, if_false, List.setIfInBounds_toArray, List.map_set]
        clear hW4 v1 v3 v5 d1 d3 m2 e1 e2
        obtain ⟨v3, W3, hap, hg3, hb3, hs3⟩ := hg.out.step HBL.out.size (by omega) hb4 HB1.out (show ((List.replicate N (0 : Int)).set I 1).length = N by simp) hbk4 (fun x hx => by
          rcases List.mem_or_eq_of_mem_set hx with hx | hx
          · exact .inl (List.eq_of_mem_replicate hx)
          · exact .inr hx) (by omega)
        have HAP := Lib.hid hap
        have HG3 := Lib.hid hg3
        have HB3 := Lib.hid (hb4.mono HBL.out.size |>.trans hb3)
        clear hb4 hbk4 hap hg3 hb3
        gi_wp2_with (gi_at_builtin; refine wpListIn_plain rfl fun K hK' => ?_; refine wpIn_append _ _ _ rfl rfl rfl HAP.out (hK' _ _ ?_); clear hK' K)
        refine ⟨⟨j + 1, rs ++ [(w1.heap.size, (List.replicate N 0).set I 1)], by omega, by go_num, HG3, Lib.hid ?_, HBL.out.trans HB3.out⟩, by simp [intOf]; omega⟩
        rw [List.map_append, hf.out, HF.out, HF2.out]
        rfl
    · have hjn : j = n := by omega
      subst hjn
      have hf2 := hf.out
      rw [List.take_of_length_le (by rw [HL.out]; exact Nat.le_refl _), List.take_of_length_le (by rw [HL2.out]; exact Nat.le_refl _)] at hf2
      have HF2 := Lib.hid hf2
      clear hf2
      gi_wp2
      go_ret
      exact ⟨_, rs, rfl, hg.out, HF2.out, hb⟩
end Go.Proofs.Ythbbefkmnahnlaa
