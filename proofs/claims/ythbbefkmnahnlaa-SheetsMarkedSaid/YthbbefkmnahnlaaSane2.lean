/- podiumlaw54.sane. No statement is proved here. -/
import Derived.Test.YthbbefkmnahnlaaSane
import Derived.Sort.CutIn
namespace Go.Proofs.Ythbbefkmnahnlaa
open Go.RowKit Go.Shelf
attribute [local go_sem] Oper.semAt_some

theorem ex1 : readsM 4 0 [0, 1, 0] = true := by decide +kernel
theorem ex2 : readsM (-1) 2 [1, 1, 0] = true := by decide +kernel
theorem ex3 : readsM (-1) 1 [0, 0, 0] = true := by decide +kernel
theorem ex4 : readsM (-1) 3 [1, 1, 2] = true := by decide +kernel
theorem ex5 : agreesM [] ⟨0, 0, 0, 0, []⟩ [] = (true, 0) := by decide +kernel
abbrev fourS : Sheet := ⟨0, 0, 0, 0, [[0, 1, 0]]⟩
theorem ex6 : agreesM [scaleC] fourS [4] = (true, 0) := by decide +kernel
theorem ex7 : agreesM [scaleC] fourS [-1] = (false, 0) := by decide +kernel
theorem ex8 : agreesM [scaleC] fourS [5] = (false, 540) := by decide +kernel
theorem ex9 : (readM [scaleC] ⟨0, 0, 0, 0, [[]]⟩).2.2 = 540 := by decide +kernel
abbrev zeroC : Crit := ⟨⟨#[]⟩, 0, 0, 0, 0, 0, false⟩
abbrev oneC : Crit := ⟨⟨#[]⟩, 0, 1, 0, 1, 0, false⟩
theorem ex10 : (readM [oneC] fourS).2.2 = 150 := by decide +kernel
theorem ex11 : (readM (List.replicate 65 zeroC) fourS).2.2 = 2 := by decide +kernel
theorem ex12 : checkM [scaleC] fourS = 0 := by decide +kernel

theorem Sl.nilG {α : Type} [Rep α] {w : World} {M : List Nat} : Sl α w M none 0 0 [] := ⟨rfl, Nat.le_refl _, by simp [capOk], by omega, .inl rfl⟩

/-- The sheet 'four' lies at S. -/
structure Box (S : Nat) (w : World) : Prop where
  c0 : w.cell? ⟨S + 1 + 1, 0, none⟩ = some (.int .i64 0)
  c1 : w.cell? ⟨S + 1 + 1, 1, none⟩ = some (.int .i64 0)
  c2 : w.cell? ⟨S + 1 + 1, 2, none⟩ = some (.int .i64 0)
  c3 : w.cell? ⟨S + 1 + 1, 3, none⟩ = some (.int .i64 0)
  c4 : w.cell? ⟨S + 1 + 1, 4, none⟩ = some (.slice (some ⟨S + 1, 0, none⟩) 1 1)
  sl : Sl (List Int) w [] (some ⟨S + 1, 0, none⟩) 1 1 [[0, 1, 0]]

theorem Box.keep {S : Nat} {w w' : World} (h : Box S w) (k : Keeps [] w w') : Box S w' :=
  ⟨k.cell (by simp) h.c0, k.cell (by simp) h.c1, k.cell (by simp) h.c2, k.cell (by simp) h.c3, k.cell (by simp) h.c4, h.sl.keep k⟩

theorem small_i64 {xs : List Int} (h : xs.all (fun x => decide (-10 ≤ x ∧ x ≤ 10)) = true) : ∀ x, x ∈ xs → i64 x := by
  intro x hx
  have := of_decide_eq_true (List.all_eq_true.1 h x hx)
  unfold i64
  omega

theorem Box.make (w : World) : Box w.heap.size (((w.alloc (.cells #[.int .i64 0, .int .i64 1, .int .i64 0] 3)).alloc (.cells #[.slice (some ⟨w.heap.size, 0, none⟩) 3 3] 23)).alloc (.cells #[.int .i64 0, .int .i64 0, .int .i64 0, .int .i64 0, .slice (some ⟨w.heap.size + 1, 0, none⟩) 1 1] 29)) := by
  refine ⟨by simp [go_sem], by simp [go_sem], by simp [go_sem], by simp [go_sem], by simp [go_sem], ?_⟩
  have h1 := Sl.ints w 3 [0, 1, 0] 3 rfl (by omega) (small_i64 rfl)
  have h2 := Sl.list1 23 h1
  rw [show (w.alloc (.cells ([0, 1, 0].map (Value.int .i64)).toArray 3)).heap.size = w.heap.size + 1 by simp] at h2
  exact h2.keep ((Keeps.refl _ _).alloc _)

theorem emptyBox (w : World) : Sl (List Int) ((w.alloc (.cells #[] 3)).alloc (.cells #[.slice (some ⟨w.heap.size, 0, none⟩) 0 0] 23)) [] (some ⟨w.heap.size + 1, 0, none⟩) 1 1 [[]] := by
  have h1 := Sl.ints w 3 [] 0 rfl (by omega) (small_i64 rfl)
  have h2 := Sl.list1 23 h1
  rw [show (w.alloc (.cells (([] : List Int).map (Value.int .i64)).toArray 3)).heap.size = w.heap.size + 1 by simp] at h2
  exact h2

theorem flat_get (L : List Value) (hL : L.length = 7) : ∀ n k j, k < n → j < 7 → (List.replicate n L).flatten[k * 7 + j]? = L[j]?
  | n + 1, 0, j, _, hj => by
    rw [List.replicate_succ, List.flatten_cons, Nat.zero_mul, Nat.zero_add, List.getElem?_append_left (by omega)]
  | n + 1, k + 1, j, h, hj => by
    rw [List.replicate_succ, List.flatten_cons, List.getElem?_append_right (by omega), hL, show (k + 1) * 7 + j - 7 = k * 7 + j by omega]
    exact flat_get L hL n k j (by omega) hj

theorem mk65 (w : World) : (Instr.makeSlice 22 (.int .i64 65) (.int .i64 65)).run Try.prog w = .ok (.slice (some ⟨w.heap.size, 0, none⟩) 65 65) (w.alloc (.cells ((List.replicate 65 [Value.string ⟨#[]⟩, .int .i64 0, .int .i64 0, .int .i64 0, .int .i64 0, .int .i64 0, .bool false]).flatten.toArray) 39)) := by
  kernel_rfl

/-- The 65 criteria that make lays down. -/
abbrev zeros : List Value := (List.replicate 65 [Value.string ⟨#[]⟩, .int .i64 0, .int .i64 0, .int .i64 0, .int .i64 0, .int .i64 0, .bool false]).flatten

theorem mk65_sl (w : World) : Sl Crit (w.alloc (.cells zeros.toArray 39)) [] (some ⟨w.heap.size, 0, none⟩) 65 65 (List.replicate 65 zeroC) := by
  refine Sl.ofCells 65 (by rw [List.length_replicate]) (by omega) ?_
  intro k x hk
  have hk' : k < 65 := by have := (List.getElem?_eq_some_iff.1 hk).1; rw [List.length_replicate] at this; exact this
  have hx : x = zeroC := by have := (List.getElem?_eq_some_iff.1 hk).2; rw [List.getElem_replicate] at this; exact this.symm
  subst hx
  refine ⟨_, ⟨rfl, ⟨by unfold i64; decide, by unfold i64; decide, by unfold i64; decide, by unfold i64; decide, by unfold i64; decide⟩⟩, ?_⟩
  intro j u hu
  have hj : j < 7 := (List.getElem?_eq_some_iff.1 hu).1
  have key : ∀ k, k < 65 → ∀ j, j < 7 → zeros[k * 7 + j]? = zeroC.cells[j]? := fun k hk j hj => flat_get _ rfl 65 k j hk hj
  rw [show Rep.sz Crit = 7 from rfl, key k hk' j hj, hu]

set_option maxRecDepth 100000 in
set_option maxHeartbeats 8000000 in
theorem sane_any (w : World) : Calls Try.prog 7 #[] w fun e w' => e = .returned (.bool true) ∧ Below w.heap.size w w' := by
  refine (callsIn_wide (n := 10)).1 ?_
  refine callsIn_of_wp Try.func7 rfl trivial ?_ rfl; simp only [Try.ntmps7, List.size_toArray, List.length_nil, Nat.reduceSub, Array.replicate_succ, Array.replicate_zero, List.push_toArray, List.append_toArray, List.nil_append, List.cons_append]
  gi_wp2_with (first
    | (have g3 := HB3.out; clear g3; refine ⟨trivial, ?_⟩; gi_at_call 16; refine (callsIn_wide.2 (reads_any (-1) 3 (by unfold i64; decide) (by unfold i64; decide) _ 3 3 [1, 1, 2] _ (Sl.ints _ _ [1, 1, 2] 3 rfl (by omega) (small_i64 rfl)))).mono ?_; rintro e w4 ⟨rfl, hb⟩; rw [ex4]; have HB4 := Lib.hid (HB3.out.trans (((Below.refl _ w3).alloc (Nat.le_refl _) _ |>.trans (hb.mono (by simp))).mono HB3.out.size)); clear hb)
    | (have g2 := HB2.out; clear g2; refine ⟨trivial, ?_⟩; gi_at_call 16; refine (callsIn_wide.2 (reads_any (-1) 1 (by unfold i64; decide) (by unfold i64; decide) _ 3 3 [0, 0, 0] _ (Sl.ints _ _ [0, 0, 0] 3 rfl (by omega) (small_i64 rfl)))).mono ?_; rintro e w3 ⟨rfl, hb⟩; rw [ex3]; have HB3 := Lib.hid (HB2.out.trans (((Below.refl _ w2).alloc (Nat.le_refl _) _ |>.trans (hb.mono (by simp))).mono HB2.out.size)); clear hb)
    | (have g1 := HB1.out; clear g1; refine ⟨trivial, ?_⟩; gi_at_call 16; refine (callsIn_wide.2 (reads_any (-1) 2 (by unfold i64; decide) (by unfold i64; decide) _ 3 3 [1, 1, 0] _ (Sl.ints _ _ [1, 1, 0] 3 rfl (by omega) (small_i64 rfl)))).mono ?_; rintro e w2 ⟨rfl, hb⟩; rw [ex2]; have HB2 := Lib.hid (HB1.out.trans (((Below.refl _ w1).alloc (Nat.le_refl _) _ |>.trans (hb.mono (by simp))).mono HB1.out.size)); clear hb)
    | (refine ⟨trivial, ?_⟩; gi_at_call 16; refine (callsIn_wide.2 (reads_any 4 0 (by unfold i64; decide) (by unfold i64; decide) _ 3 3 [0, 1, 0] _ (Sl.ints _ _ [0, 1, 0] 3 rfl (by omega) (small_i64 rfl)))).mono ?_; rintro e w1 ⟨rfl, hb⟩; rw [ex1]; have HB1 := Lib.hid ((Below.refl _ w).alloc (Nat.le_refl _) _ |>.trans (hb.mono (by simp))); clear hb)
    | (refine ⟨trivial, ?_⟩; gi_at_call 11; refine (callsIn_wide.2 (agrees_any none 0 0 [] 0 0 0 0 none 0 0 [] none 0 0 [] _ (Sl.nilG (M := [])) (Sl.nilG (M := [])) (Sl.nilG (M := [])))).mono ?_; rintro e w5 ⟨rfl, hb⟩; rw [ex5]; have HX := Lib.hid (Box.make w4); have HK5 := Lib.hid hb; clear hb))
  obtain ⟨S, hS⟩ : ∃ S : Nat, w4.heap.size = S := ⟨_, rfl⟩
  rw [hS]
  have HB5 : Hid (Box S w5 ∧ Below w.heap.size w w5) := by
    have h1 := HX.out.keep (Keeps.of_below HK5.out [])
    rw [hS] at h1
    exact ⟨h1, (((HB4.out.alloc HB4.out.size _).alloc (by have := HB4.out.size; simp; omega) _).alloc (by have := HB4.out.size; simp; omega) _).trans (HK5.out.mono (by have := HB4.out.size; simp; omega))⟩
  clear HX HK5 HB1 HB2 HB3 HB4
  gi_cut [4, 5] from 45 (fun s4 s5 wc => s4 = .bool true ∧ s5 = .int .i64 0 ∧ Box S wc ∧ Below w.heap.size w wc)
  case first =>
    obtain ⟨hbx, hbl⟩ := HB5.out
    have v0 := stays_drew hbx.c0
    have v1 := stays_drew hbx.c1
    have v2 := stays_drew hbx.c2
    have v3 := stays_drew hbx.c3
    have v4 := stays_drew hbx.c4
    have HBX := Lib.hid hbx
    clear hbx HB5
    refine region_E_np [] 9 (by kernel_rfl) (by kernel_rfl) ?_
    refine E_read 1 (by kernel_rfl) rfl rfl ?_ np_panic ?_; (focus (first | exact wanted_none rfl | (refine wanted_yes rfl ?_; (focus (simp [yielded]; done))))); apply Exists.intro; refine ⟨fun w' hk Z hZ => ?_, ?_⟩; (focus (simp only [execOp]; (repeat conv in Act.eval _ _ => whnf); (try go_simp); exact hZ)); (try simp only [Act.put, List.setIfInBounds_toArray, List.set_cons_succ, List.set_cons_zero])
    clear v0 v1 v2 v3 v4
    refine E_all 0 [2] (by kernel_rfl) (AllE_cons (by decide) rfl ?_ (fun K hK => ?_) (AllE_cons (by decide) rfl ?_ (fun K hK => ?_) AllE_nil))
    · (first | exact wanted_none rfl | (refine wanted_yes rfl ?_; (focus (simp [yielded]; done))))
    · gi_wp2
      refine ⟨trivial, (callsIn_wide.2 (scale_any _)).mono ?_⟩
      rintro e w6 ⟨A, c, rfl, hs, hb⟩
      refine hK _ _ ⟨Keeps.of_below hb [], ?_⟩
      clear hK K
      have HB6 : Hid (Box S w6 ∧ Below w.heap.size w w6) := ⟨HBX.out.keep ((Keeps.refl _ _).drew.trans (Keeps.of_below hb [])), hbl.drew.trans (hb.mono hbl.size)⟩
      have HS6 := Lib.hid hs
      clear hs hb
      (try simp only [Act.put, List.setIfInBounds_toArray, List.set_cons_succ, List.set_cons_zero])
      refine E_all 2 [] (by kernel_rfl) (AllE_cons (by decide) rfl ?_ (fun K hK => ?_) AllE_nil)
      · (first | exact wanted_none rfl | (refine wanted_yes rfl ?_; (focus (simp [yielded]; done))))
      gi_wp2
      refine ⟨(Keeps.refl _ _).alloc _, ?_⟩
      have HI := Lib.hid (Sl.ints w6 3 [4] 1 rfl (by omega) (small_i64 rfl))
      have HSC := Lib.hid (HS6.out.keep ((Keeps.refl [] w6).alloc (.cells #[.int .i64 4] 3)))
      have HB7 := Lib.hid (And.intro (HB6.out.1.keep ((Keeps.refl [] w6).alloc (.cells #[.int .i64 4] 3))) (HB6.out.2.alloc HB6.out.2.size (.cells #[.int .i64 4] 3)))
      (try simp only [Act.put, List.setIfInBounds_toArray, List.set_cons_succ, List.set_cons_zero])
      refine E_all 3 [] (by kernel_rfl) (AllE_cons (by decide) rfl ?_ (fun K hK => ?_) AllE_nil)
      · (first | exact wanted_none rfl | (refine wanted_yes rfl ?_; (focus (simp [yielded]; done))))
      · gi_wp2
        refine ⟨trivial, (callsIn_wide.2 (agrees_any A 1 c [scaleC] 0 0 0 0 (some ⟨S + 1, 0, none⟩) 1 1 [[0, 1, 0]] _ 1 1 [4] _ HSC.out HB7.out.1.sl HI.out)).mono ?_⟩
        rintro e w8 ⟨rfl, hb8⟩
        rw [show agreesM [scaleC] ⟨0, 0, 0, 0, [[0, 1, 0]]⟩ [4] = (true, 0) from ex6]
        refine hK _ _ ⟨Keeps.of_below hb8 [], ?_⟩
        clear hK K
        have HB8 : Hid (Box S w8 ∧ Below w.heap.size w w8) := ⟨HB7.out.1.keep (Keeps.of_below hb8 []), HB7.out.2.trans (hb8.mono HB7.out.2.size)⟩
        clear hb8
        refine E_read 4 (by kernel_rfl) rfl rfl ?_ np_panic ?_; (focus (first | exact wanted_none rfl | (refine wanted_yes rfl ?_; (focus (simp [yielded]; done))))); apply Exists.intro; refine ⟨fun w' hk Z hZ => ?_, ?_⟩; (focus (simp only [execOp]; (repeat conv in Act.eval _ _ => whnf); (try go_simp); exact hZ)); (try simp only [Act.put, List.setIfInBounds_toArray, List.set_cons_succ, List.set_cons_zero])
        refine E_read 5 (by kernel_rfl) rfl rfl ?_ np_panic ?_; (focus (first | exact wanted_none rfl | (refine wanted_yes rfl ?_; (focus (simp [yielded]; done))))); apply Exists.intro; refine ⟨fun w' hk Z hZ => ?_, ?_⟩; (focus (simp only [execOp]; (repeat conv in Act.eval _ _ => whnf); (try go_simp); exact hZ)); (try simp only [Act.put, List.setIfInBounds_toArray, List.set_cons_succ, List.set_cons_zero])
        refine E_read 6 (by kernel_rfl) rfl rfl ?_ np_panic ?_; (focus (first | exact wanted_none rfl | (refine wanted_yes rfl ?_; (focus (simp [yielded]; done))))); apply Exists.intro; refine ⟨fun w' hk Z hZ => ?_, ?_⟩; (focus (simp only [execOp]; (repeat conv in Act.eval _ _ => whnf); (try go_simp); exact hZ)); (try simp only [Act.put, List.setIfInBounds_toArray, List.set_cons_succ, List.set_cons_zero])
        refine E_read 7 (by kernel_rfl) rfl rfl ?_ np_panic ?_; (focus (first | exact wanted_none rfl | (refine wanted_yes rfl ?_; (focus (simp [yielded]; done))))); apply Exists.intro; refine ⟨fun w' hk Z hZ => ?_, ?_⟩; (focus (simp only [execOp]; (repeat conv in Act.eval _ _ => whnf); (try go_simp); exact hZ)); (try simp only [Act.put, List.setIfInBounds_toArray, List.set_cons_succ, List.set_cons_zero])
        refine E_read 8 (by kernel_rfl) rfl rfl ?_ np_panic ?_; (focus (first | exact wanted_none rfl | (refine wanted_yes rfl ?_; (focus (simp [yielded]; done))))); apply Exists.intro; refine ⟨fun w' hk Z hZ => ?_, ?_⟩; (focus (simp only [execOp]; (repeat conv in Act.eval _ _ => whnf); (try go_simp); exact hZ)); (try simp only [Act.put, List.setIfInBounds_toArray, List.set_cons_succ, List.set_cons_zero])
        refine E_nil 0 (by kernel_rfl) rfl ?_
        refine tail_nil _ ?_
        simp only [npost]
        gi_wp2
        gi_meet
        case rel => exact ⟨rfl, rfl, HB8.out⟩
    · (first | exact wanted_none rfl | (refine wanted_yes rfl ?_; (focus (simp [yielded]; done))))
    · gi_wp2
      refine ⟨((Keeps.refl _ _).alloc _).drew.drewL, ?_⟩
      (try simp only [Act.put, List.setIfInBounds_toArray, List.set_cons_succ, List.set_cons_zero])
      refine E_all 0 [] (by kernel_rfl) (AllE_cons (by decide) rfl ?_ (fun K hK => ?_) AllE_nil)
      · (first | exact wanted_none rfl | (refine wanted_yes rfl ?_; (focus (simp [yielded]; done))))
      gi_wp2
      refine ⟨trivial, (callsIn_wide.2 (scale_any _)).mono ?_⟩
      rintro e w6 ⟨A, c, rfl, hs, hb⟩
      refine hK _ _ ⟨Keeps.of_below hb [], ?_⟩
      clear hK K
      have kx : Keeps [] (w5.alloc (.cells #[.int .i64 4] 3)) w6 := (Keeps.refl _ _).drew.trans (Keeps.of_below hb [])
      have HI := Lib.hid ((Sl.ints w5 3 [4] 1 rfl (by omega) (small_i64 rfl)).keep kx)
      have HSC := Lib.hid hs
      have HB7 : Hid (Box S w6 ∧ Below w.heap.size w w6) := ⟨(HBX.out.keep ((Keeps.refl _ _).alloc _)).keep kx, (hbl.alloc hbl.size _).drew.trans (hb.mono (by have := hbl.size; simp; omega))⟩
      clear hs hb kx
      (try simp only [Act.put, List.setIfInBounds_toArray, List.set_cons_succ, List.set_cons_zero])
      refine E_all 3 [] (by kernel_rfl) (AllE_cons (by decide) rfl ?_ (fun K hK => ?_) AllE_nil)
      · (first | exact wanted_none rfl | (refine wanted_yes rfl ?_; (focus (simp [yielded]; done))))
      · gi_wp2
        refine ⟨trivial, (callsIn_wide.2 (agrees_any A 1 c [scaleC] 0 0 0 0 (some ⟨S + 1, 0, none⟩) 1 1 [[0, 1, 0]] _ 1 1 [4] _ HSC.out HB7.out.1.sl HI.out)).mono ?_⟩
        rintro e w8 ⟨rfl, hb8⟩
        rw [show agreesM [scaleC] ⟨0, 0, 0, 0, [[0, 1, 0]]⟩ [4] = (true, 0) from ex6]
        refine hK _ _ ⟨Keeps.of_below hb8 [], ?_⟩
        clear hK K
        have HB8 : Hid (Box S w8 ∧ Below w.heap.size w w8) := ⟨HB7.out.1.keep (Keeps.of_below hb8 []), HB7.out.2.trans (hb8.mono HB7.out.2.size)⟩
        clear hb8
        refine E_read 4 (by kernel_rfl) rfl rfl ?_ np_panic ?_; (focus (first | exact wanted_none rfl | (refine wanted_yes rfl ?_; (focus (simp [yielded]; done))))); apply Exists.intro; refine ⟨fun w' hk Z hZ => ?_, ?_⟩; (focus (simp only [execOp]; (repeat conv in Act.eval _ _ => whnf); (try go_simp); exact hZ)); (try simp only [Act.put, List.setIfInBounds_toArray, List.set_cons_succ, List.set_cons_zero])
        refine E_read 5 (by kernel_rfl) rfl rfl ?_ np_panic ?_; (focus (first | exact wanted_none rfl | (refine wanted_yes rfl ?_; (focus (simp [yielded]; done))))); apply Exists.intro; refine ⟨fun w' hk Z hZ => ?_, ?_⟩; (focus (simp only [execOp]; (repeat conv in Act.eval _ _ => whnf); (try go_simp); exact hZ)); (try simp only [Act.put, List.setIfInBounds_toArray, List.set_cons_succ, List.set_cons_zero])
        refine E_read 6 (by kernel_rfl) rfl rfl ?_ np_panic ?_; (focus (first | exact wanted_none rfl | (refine wanted_yes rfl ?_; (focus (simp [yielded]; done))))); apply Exists.intro; refine ⟨fun w' hk Z hZ => ?_, ?_⟩; (focus (simp only [execOp]; (repeat conv in Act.eval _ _ => whnf); (try go_simp); exact hZ)); (try simp only [Act.put, List.setIfInBounds_toArray, List.set_cons_succ, List.set_cons_zero])
        refine E_read 7 (by kernel_rfl) rfl rfl ?_ np_panic ?_; (focus (first | exact wanted_none rfl | (refine wanted_yes rfl ?_; (focus (simp [yielded]; done))))); apply Exists.intro; refine ⟨fun w' hk Z hZ => ?_, ?_⟩; (focus (simp only [execOp]; (repeat conv in Act.eval _ _ => whnf); (try go_simp); exact hZ)); (try simp only [Act.put, List.setIfInBounds_toArray, List.set_cons_succ, List.set_cons_zero])
        refine E_read 8 (by kernel_rfl) rfl rfl ?_ np_panic ?_; (focus (first | exact wanted_none rfl | (refine wanted_yes rfl ?_; (focus (simp [yielded]; done))))); apply Exists.intro; refine ⟨fun w' hk Z hZ => ?_, ?_⟩; (focus (simp only [execOp]; (repeat conv in Act.eval _ _ => whnf); (try go_simp); exact hZ)); (try simp only [Act.put, List.setIfInBounds_toArray, List.set_cons_succ, List.set_cons_zero])
        refine E_nil 0 (by kernel_rfl) rfl ?_
        refine tail_nil _ ?_
        simp only [npost]
        gi_wp2
        gi_meet
        case rel => exact ⟨rfl, rfl, HB8.out⟩
  case rest =>
  obtain ⟨rfl, rfl, hcut⟩ := hcut
  rename World => wa
  have HC1 := Lib.hid hcut
  clear hcut HB5
  gi_wp2
  gi_cut [6, 7] from 52 (fun s6 s7 wc => s6 = .bool false ∧ s7 = .int .i64 0 ∧ Box S wc ∧ Below w.heap.size w wc)
  case first =>
    obtain ⟨hbx, hbl⟩ := HC1.out
    have v0 := stays_drew hbx.c0
    have v1 := stays_drew hbx.c1
    have v2 := stays_drew hbx.c2
    have v3 := stays_drew hbx.c3
    have v4 := stays_drew hbx.c4
    have HBX := Lib.hid hbx
    clear hbx HC1
    refine region_E_np [] 9 (by kernel_rfl) (by kernel_rfl) ?_
    refine E_read 1 (by kernel_rfl) rfl rfl ?_ np_panic ?_; (focus (first | exact wanted_none rfl | (refine wanted_yes rfl ?_; (focus (simp [yielded]; done))))); apply Exists.intro; refine ⟨fun w' hk Z hZ => ?_, ?_⟩; (focus (simp only [execOp]; (repeat conv in Act.eval _ _ => whnf); (try go_simp); exact hZ)); (try simp only [Act.put, List.setIfInBounds_toArray, List.set_cons_succ, List.set_cons_zero])
    clear v0 v1 v2 v3 v4
    refine E_all 0 [2] (by kernel_rfl) (AllE_cons (by decide) rfl ?_ (fun K hK => ?_) (AllE_cons (by decide) rfl ?_ (fun K hK => ?_) AllE_nil))
    · (first | exact wanted_none rfl | (refine wanted_yes rfl ?_; (focus (simp [yielded]; done))))
    · gi_wp2
      refine ⟨trivial, (callsIn_wide.2 (scale_any _)).mono ?_⟩
      rintro e w6 ⟨A, c, rfl, hs, hb⟩
      refine hK _ _ ⟨Keeps.of_below hb [], ?_⟩
      clear hK K
      have HB6 : Hid (Box S w6 ∧ Below w.heap.size w w6) := ⟨HBX.out.keep ((Keeps.refl _ _).drew.trans (Keeps.of_below hb [])), hbl.drew.trans (hb.mono hbl.size)⟩
      have HS6 := Lib.hid hs
      clear hs hb
      (try simp only [Act.put, List.setIfInBounds_toArray, List.set_cons_succ, List.set_cons_zero])
      refine E_all 2 [] (by kernel_rfl) (AllE_cons (by decide) rfl ?_ (fun K hK => ?_) AllE_nil)
      · (first | exact wanted_none rfl | (refine wanted_yes rfl ?_; (focus (simp [yielded]; done))))
      gi_wp2
      refine ⟨(Keeps.refl _ _).alloc _, ?_⟩
      have HI := Lib.hid (Sl.ints w6 3 [(-1)] 1 rfl (by omega) (small_i64 rfl))
      have HSC := Lib.hid (HS6.out.keep ((Keeps.refl [] w6).alloc (.cells #[.int .i64 (-1)] 3)))
      have HB7 := Lib.hid (And.intro (HB6.out.1.keep ((Keeps.refl [] w6).alloc (.cells #[.int .i64 (-1)] 3))) (HB6.out.2.alloc HB6.out.2.size (.cells #[.int .i64 (-1)] 3)))
      (try simp only [Act.put, List.setIfInBounds_toArray, List.set_cons_succ, List.set_cons_zero])
      refine E_all 3 [] (by kernel_rfl) (AllE_cons (by decide) rfl ?_ (fun K hK => ?_) AllE_nil)
      · (first | exact wanted_none rfl | (refine wanted_yes rfl ?_; (focus (simp [yielded]; done))))
      · gi_wp2
        refine ⟨trivial, (callsIn_wide.2 (agrees_any A 1 c [scaleC] 0 0 0 0 (some ⟨S + 1, 0, none⟩) 1 1 [[0, 1, 0]] _ 1 1 [(-1)] _ HSC.out HB7.out.1.sl HI.out)).mono ?_⟩
        rintro e w8 ⟨rfl, hb8⟩
        rw [show agreesM [scaleC] ⟨0, 0, 0, 0, [[0, 1, 0]]⟩ [(-1)] = (false, 0) from ex7]
        refine hK _ _ ⟨Keeps.of_below hb8 [], ?_⟩
        clear hK K
        have HB8 : Hid (Box S w8 ∧ Below w.heap.size w w8) := ⟨HB7.out.1.keep (Keeps.of_below hb8 []), HB7.out.2.trans (hb8.mono HB7.out.2.size)⟩
        clear hb8
        refine E_read 4 (by kernel_rfl) rfl rfl ?_ np_panic ?_; (focus (first | exact wanted_none rfl | (refine wanted_yes rfl ?_; (focus (simp [yielded]; done))))); apply Exists.intro; refine ⟨fun w' hk Z hZ => ?_, ?_⟩; (focus (simp only [execOp]; (repeat conv in Act.eval _ _ => whnf); (try go_simp); exact hZ)); (try simp only [Act.put, List.setIfInBounds_toArray, List.set_cons_succ, List.set_cons_zero])
        refine E_read 5 (by kernel_rfl) rfl rfl ?_ np_panic ?_; (focus (first | exact wanted_none rfl | (refine wanted_yes rfl ?_; (focus (simp [yielded]; done))))); apply Exists.intro; refine ⟨fun w' hk Z hZ => ?_, ?_⟩; (focus (simp only [execOp]; (repeat conv in Act.eval _ _ => whnf); (try go_simp); exact hZ)); (try simp only [Act.put, List.setIfInBounds_toArray, List.set_cons_succ, List.set_cons_zero])
        refine E_read 6 (by kernel_rfl) rfl rfl ?_ np_panic ?_; (focus (first | exact wanted_none rfl | (refine wanted_yes rfl ?_; (focus (simp [yielded]; done))))); apply Exists.intro; refine ⟨fun w' hk Z hZ => ?_, ?_⟩; (focus (simp only [execOp]; (repeat conv in Act.eval _ _ => whnf); (try go_simp); exact hZ)); (try simp only [Act.put, List.setIfInBounds_toArray, List.set_cons_succ, List.set_cons_zero])
        refine E_read 7 (by kernel_rfl) rfl rfl ?_ np_panic ?_; (focus (first | exact wanted_none rfl | (refine wanted_yes rfl ?_; (focus (simp [yielded]; done))))); apply Exists.intro; refine ⟨fun w' hk Z hZ => ?_, ?_⟩; (focus (simp only [execOp]; (repeat conv in Act.eval _ _ => whnf); (try go_simp); exact hZ)); (try simp only [Act.put, List.setIfInBounds_toArray, List.set_cons_succ, List.set_cons_zero])
        refine E_read 8 (by kernel_rfl) rfl rfl ?_ np_panic ?_; (focus (first | exact wanted_none rfl | (refine wanted_yes rfl ?_; (focus (simp [yielded]; done))))); apply Exists.intro; refine ⟨fun w' hk Z hZ => ?_, ?_⟩; (focus (simp only [execOp]; (repeat conv in Act.eval _ _ => whnf); (try go_simp); exact hZ)); (try simp only [Act.put, List.setIfInBounds_toArray, List.set_cons_succ, List.set_cons_zero])
        refine E_nil 0 (by kernel_rfl) rfl ?_
        refine tail_nil _ ?_
        simp only [npost]
        gi_wp2
        gi_meet
        case rel => exact ⟨rfl, rfl, HB8.out⟩
    · (first | exact wanted_none rfl | (refine wanted_yes rfl ?_; (focus (simp [yielded]; done))))
    · gi_wp2
      refine ⟨((Keeps.refl _ _).alloc _).drew.drewL, ?_⟩
      (try simp only [Act.put, List.setIfInBounds_toArray, List.set_cons_succ, List.set_cons_zero])
      refine E_all 0 [] (by kernel_rfl) (AllE_cons (by decide) rfl ?_ (fun K hK => ?_) AllE_nil)
      · (first | exact wanted_none rfl | (refine wanted_yes rfl ?_; (focus (simp [yielded]; done))))
      gi_wp2
      refine ⟨trivial, (callsIn_wide.2 (scale_any _)).mono ?_⟩
      rintro e w6 ⟨A, c, rfl, hs, hb⟩
      refine hK _ _ ⟨Keeps.of_below hb [], ?_⟩
      clear hK K
      have kx : Keeps [] (wa.alloc (.cells #[.int .i64 (-1)] 3)) w6 := (Keeps.refl _ _).drew.trans (Keeps.of_below hb [])
      have HI := Lib.hid ((Sl.ints wa 3 [(-1)] 1 rfl (by omega) (small_i64 rfl)).keep kx)
      have HSC := Lib.hid hs
      have HB7 : Hid (Box S w6 ∧ Below w.heap.size w w6) := ⟨(HBX.out.keep ((Keeps.refl _ _).alloc _)).keep kx, (hbl.alloc hbl.size _).drew.trans (hb.mono (by have := hbl.size; simp; omega))⟩
      clear hs hb kx
      (try simp only [Act.put, List.setIfInBounds_toArray, List.set_cons_succ, List.set_cons_zero])
      refine E_all 3 [] (by kernel_rfl) (AllE_cons (by decide) rfl ?_ (fun K hK => ?_) AllE_nil)
      · (first | exact wanted_none rfl | (refine wanted_yes rfl ?_; (focus (simp [yielded]; done))))
      · gi_wp2
        refine ⟨trivial, (callsIn_wide.2 (agrees_any A 1 c [scaleC] 0 0 0 0 (some ⟨S + 1, 0, none⟩) 1 1 [[0, 1, 0]] _ 1 1 [(-1)] _ HSC.out HB7.out.1.sl HI.out)).mono ?_⟩
        rintro e w8 ⟨rfl, hb8⟩
        rw [show agreesM [scaleC] ⟨0, 0, 0, 0, [[0, 1, 0]]⟩ [(-1)] = (false, 0) from ex7]
        refine hK _ _ ⟨Keeps.of_below hb8 [], ?_⟩
        clear hK K
        have HB8 : Hid (Box S w8 ∧ Below w.heap.size w w8) := ⟨HB7.out.1.keep (Keeps.of_below hb8 []), HB7.out.2.trans (hb8.mono HB7.out.2.size)⟩
        clear hb8
        refine E_read 4 (by kernel_rfl) rfl rfl ?_ np_panic ?_; (focus (first | exact wanted_none rfl | (refine wanted_yes rfl ?_; (focus (simp [yielded]; done))))); apply Exists.intro; refine ⟨fun w' hk Z hZ => ?_, ?_⟩; (focus (simp only [execOp]; (repeat conv in Act.eval _ _ => whnf); (try go_simp); exact hZ)); (try simp only [Act.put, List.setIfInBounds_toArray, List.set_cons_succ, List.set_cons_zero])
        refine E_read 5 (by kernel_rfl) rfl rfl ?_ np_panic ?_; (focus (first | exact wanted_none rfl | (refine wanted_yes rfl ?_; (focus (simp [yielded]; done))))); apply Exists.intro; refine ⟨fun w' hk Z hZ => ?_, ?_⟩; (focus (simp only [execOp]; (repeat conv in Act.eval _ _ => whnf); (try go_simp); exact hZ)); (try simp only [Act.put, List.setIfInBounds_toArray, List.set_cons_succ, List.set_cons_zero])
        refine E_read 6 (by kernel_rfl) rfl rfl ?_ np_panic ?_; (focus (first | exact wanted_none rfl | (refine wanted_yes rfl ?_; (focus (simp [yielded]; done))))); apply Exists.intro; refine ⟨fun w' hk Z hZ => ?_, ?_⟩; (focus (simp only [execOp]; (repeat conv in Act.eval _ _ => whnf); (try go_simp); exact hZ)); (try simp only [Act.put, List.setIfInBounds_toArray, List.set_cons_succ, List.set_cons_zero])
        refine E_read 7 (by kernel_rfl) rfl rfl ?_ np_panic ?_; (focus (first | exact wanted_none rfl | (refine wanted_yes rfl ?_; (focus (simp [yielded]; done))))); apply Exists.intro; refine ⟨fun w' hk Z hZ => ?_, ?_⟩; (focus (simp only [execOp]; (repeat conv in Act.eval _ _ => whnf); (try go_simp); exact hZ)); (try simp only [Act.put, List.setIfInBounds_toArray, List.set_cons_succ, List.set_cons_zero])
        refine E_read 8 (by kernel_rfl) rfl rfl ?_ np_panic ?_; (focus (first | exact wanted_none rfl | (refine wanted_yes rfl ?_; (focus (simp [yielded]; done))))); apply Exists.intro; refine ⟨fun w' hk Z hZ => ?_, ?_⟩; (focus (simp only [execOp]; (repeat conv in Act.eval _ _ => whnf); (try go_simp); exact hZ)); (try simp only [Act.put, List.setIfInBounds_toArray, List.set_cons_succ, List.set_cons_zero])
        refine E_nil 0 (by kernel_rfl) rfl ?_
        refine tail_nil _ ?_
        simp only [npost]
        gi_wp2
        gi_meet
        case rel => exact ⟨rfl, rfl, HB8.out⟩
  case rest =>
  obtain ⟨rfl, rfl, hcut⟩ := hcut
  rename World => wb
  have HC2 := Lib.hid hcut
  clear hcut HC1
  gi_wp2
  gi_cut [8, 9] from 59 (fun s8 s9 wc => s8 = .bool false ∧ s9 = .int .i64 540 ∧ Box S wc ∧ Below w.heap.size w wc)
  case first =>
    obtain ⟨hbx, hbl⟩ := HC2.out
    have v0 := stays_drew hbx.c0
    have v1 := stays_drew hbx.c1
    have v2 := stays_drew hbx.c2
    have v3 := stays_drew hbx.c3
    have v4 := stays_drew hbx.c4
    have HBX := Lib.hid hbx
    clear hbx HC2
    refine region_E_np [] 9 (by kernel_rfl) (by kernel_rfl) ?_
    refine E_read 1 (by kernel_rfl) rfl rfl ?_ np_panic ?_; (focus (first | exact wanted_none rfl | (refine wanted_yes rfl ?_; (focus (simp [yielded]; done))))); apply Exists.intro; refine ⟨fun w' hk Z hZ => ?_, ?_⟩; (focus (simp only [execOp]; (repeat conv in Act.eval _ _ => whnf); (try go_simp); exact hZ)); (try simp only [Act.put, List.setIfInBounds_toArray, List.set_cons_succ, List.set_cons_zero])
    clear v0 v1 v2 v3 v4
    refine E_all 0 [2] (by kernel_rfl) (AllE_cons (by decide) rfl ?_ (fun K hK => ?_) (AllE_cons (by decide) rfl ?_ (fun K hK => ?_) AllE_nil))
    · (first | exact wanted_none rfl | (refine wanted_yes rfl ?_; (focus (simp [yielded]; done))))
    · gi_wp2
      refine ⟨trivial, (callsIn_wide.2 (scale_any _)).mono ?_⟩
      rintro e w6 ⟨A, c, rfl, hs, hb⟩
      refine hK _ _ ⟨Keeps.of_below hb [], ?_⟩
      clear hK K
      have HB6 : Hid (Box S w6 ∧ Below w.heap.size w w6) := ⟨HBX.out.keep ((Keeps.refl _ _).drew.trans (Keeps.of_below hb [])), hbl.drew.trans (hb.mono hbl.size)⟩
      have HS6 := Lib.hid hs
      clear hs hb
      (try simp only [Act.put, List.setIfInBounds_toArray, List.set_cons_succ, List.set_cons_zero])
      refine E_all 2 [] (by kernel_rfl) (AllE_cons (by decide) rfl ?_ (fun K hK => ?_) AllE_nil)
      · (first | exact wanted_none rfl | (refine wanted_yes rfl ?_; (focus (simp [yielded]; done))))
      gi_wp2
      refine ⟨(Keeps.refl _ _).alloc _, ?_⟩
      have HI := Lib.hid (Sl.ints w6 3 [5] 1 rfl (by omega) (small_i64 rfl))
      have HSC := Lib.hid (HS6.out.keep ((Keeps.refl [] w6).alloc (.cells #[.int .i64 5] 3)))
      have HB7 := Lib.hid (And.intro (HB6.out.1.keep ((Keeps.refl [] w6).alloc (.cells #[.int .i64 5] 3))) (HB6.out.2.alloc HB6.out.2.size (.cells #[.int .i64 5] 3)))
      (try simp only [Act.put, List.setIfInBounds_toArray, List.set_cons_succ, List.set_cons_zero])
      refine E_all 3 [] (by kernel_rfl) (AllE_cons (by decide) rfl ?_ (fun K hK => ?_) AllE_nil)
      · (first | exact wanted_none rfl | (refine wanted_yes rfl ?_; (focus (simp [yielded]; done))))
      · gi_wp2
        refine ⟨trivial, (callsIn_wide.2 (agrees_any A 1 c [scaleC] 0 0 0 0 (some ⟨S + 1, 0, none⟩) 1 1 [[0, 1, 0]] _ 1 1 [5] _ HSC.out HB7.out.1.sl HI.out)).mono ?_⟩
        rintro e w8 ⟨rfl, hb8⟩
        rw [show agreesM [scaleC] ⟨0, 0, 0, 0, [[0, 1, 0]]⟩ [5] = (false, 540) from ex8]
        refine hK _ _ ⟨Keeps.of_below hb8 [], ?_⟩
        clear hK K
        have HB8 : Hid (Box S w8 ∧ Below w.heap.size w w8) := ⟨HB7.out.1.keep (Keeps.of_below hb8 []), HB7.out.2.trans (hb8.mono HB7.out.2.size)⟩
        clear hb8
        refine E_read 4 (by kernel_rfl) rfl rfl ?_ np_panic ?_; (focus (first | exact wanted_none rfl | (refine wanted_yes rfl ?_; (focus (simp [yielded]; done))))); apply Exists.intro; refine ⟨fun w' hk Z hZ => ?_, ?_⟩; (focus (simp only [execOp]; (repeat conv in Act.eval _ _ => whnf); (try go_simp); exact hZ)); (try simp only [Act.put, List.setIfInBounds_toArray, List.set_cons_succ, List.set_cons_zero])
        refine E_read 5 (by kernel_rfl) rfl rfl ?_ np_panic ?_; (focus (first | exact wanted_none rfl | (refine wanted_yes rfl ?_; (focus (simp [yielded]; done))))); apply Exists.intro; refine ⟨fun w' hk Z hZ => ?_, ?_⟩; (focus (simp only [execOp]; (repeat conv in Act.eval _ _ => whnf); (try go_simp); exact hZ)); (try simp only [Act.put, List.setIfInBounds_toArray, List.set_cons_succ, List.set_cons_zero])
        refine E_read 6 (by kernel_rfl) rfl rfl ?_ np_panic ?_; (focus (first | exact wanted_none rfl | (refine wanted_yes rfl ?_; (focus (simp [yielded]; done))))); apply Exists.intro; refine ⟨fun w' hk Z hZ => ?_, ?_⟩; (focus (simp only [execOp]; (repeat conv in Act.eval _ _ => whnf); (try go_simp); exact hZ)); (try simp only [Act.put, List.setIfInBounds_toArray, List.set_cons_succ, List.set_cons_zero])
        refine E_read 7 (by kernel_rfl) rfl rfl ?_ np_panic ?_; (focus (first | exact wanted_none rfl | (refine wanted_yes rfl ?_; (focus (simp [yielded]; done))))); apply Exists.intro; refine ⟨fun w' hk Z hZ => ?_, ?_⟩; (focus (simp only [execOp]; (repeat conv in Act.eval _ _ => whnf); (try go_simp); exact hZ)); (try simp only [Act.put, List.setIfInBounds_toArray, List.set_cons_succ, List.set_cons_zero])
        refine E_read 8 (by kernel_rfl) rfl rfl ?_ np_panic ?_; (focus (first | exact wanted_none rfl | (refine wanted_yes rfl ?_; (focus (simp [yielded]; done))))); apply Exists.intro; refine ⟨fun w' hk Z hZ => ?_, ?_⟩; (focus (simp only [execOp]; (repeat conv in Act.eval _ _ => whnf); (try go_simp); exact hZ)); (try simp only [Act.put, List.setIfInBounds_toArray, List.set_cons_succ, List.set_cons_zero])
        refine E_nil 0 (by kernel_rfl) rfl ?_
        refine tail_nil _ ?_
        simp only [npost]
        gi_wp2
        gi_meet
        case rel => exact ⟨rfl, rfl, HB8.out⟩
    · (first | exact wanted_none rfl | (refine wanted_yes rfl ?_; (focus (simp [yielded]; done))))
    · gi_wp2
      refine ⟨((Keeps.refl _ _).alloc _).drew.drewL, ?_⟩
      (try simp only [Act.put, List.setIfInBounds_toArray, List.set_cons_succ, List.set_cons_zero])
      refine E_all 0 [] (by kernel_rfl) (AllE_cons (by decide) rfl ?_ (fun K hK => ?_) AllE_nil)
      · (first | exact wanted_none rfl | (refine wanted_yes rfl ?_; (focus (simp [yielded]; done))))
      gi_wp2
      refine ⟨trivial, (callsIn_wide.2 (scale_any _)).mono ?_⟩
      rintro e w6 ⟨A, c, rfl, hs, hb⟩
      refine hK _ _ ⟨Keeps.of_below hb [], ?_⟩
      clear hK K
      have kx : Keeps [] (wb.alloc (.cells #[.int .i64 5] 3)) w6 := (Keeps.refl _ _).drew.trans (Keeps.of_below hb [])
      have HI := Lib.hid ((Sl.ints wb 3 [5] 1 rfl (by omega) (small_i64 rfl)).keep kx)
      have HSC := Lib.hid hs
      have HB7 : Hid (Box S w6 ∧ Below w.heap.size w w6) := ⟨(HBX.out.keep ((Keeps.refl _ _).alloc _)).keep kx, (hbl.alloc hbl.size _).drew.trans (hb.mono (by have := hbl.size; simp; omega))⟩
      clear hs hb kx
      (try simp only [Act.put, List.setIfInBounds_toArray, List.set_cons_succ, List.set_cons_zero])
      refine E_all 3 [] (by kernel_rfl) (AllE_cons (by decide) rfl ?_ (fun K hK => ?_) AllE_nil)
      · (first | exact wanted_none rfl | (refine wanted_yes rfl ?_; (focus (simp [yielded]; done))))
      · gi_wp2
        refine ⟨trivial, (callsIn_wide.2 (agrees_any A 1 c [scaleC] 0 0 0 0 (some ⟨S + 1, 0, none⟩) 1 1 [[0, 1, 0]] _ 1 1 [5] _ HSC.out HB7.out.1.sl HI.out)).mono ?_⟩
        rintro e w8 ⟨rfl, hb8⟩
        rw [show agreesM [scaleC] ⟨0, 0, 0, 0, [[0, 1, 0]]⟩ [5] = (false, 540) from ex8]
        refine hK _ _ ⟨Keeps.of_below hb8 [], ?_⟩
        clear hK K
        have HB8 : Hid (Box S w8 ∧ Below w.heap.size w w8) := ⟨HB7.out.1.keep (Keeps.of_below hb8 []), HB7.out.2.trans (hb8.mono HB7.out.2.size)⟩
        clear hb8
        refine E_read 4 (by kernel_rfl) rfl rfl ?_ np_panic ?_; (focus (first | exact wanted_none rfl | (refine wanted_yes rfl ?_; (focus (simp [yielded]; done))))); apply Exists.intro; refine ⟨fun w' hk Z hZ => ?_, ?_⟩; (focus (simp only [execOp]; (repeat conv in Act.eval _ _ => whnf); (try go_simp); exact hZ)); (try simp only [Act.put, List.setIfInBounds_toArray, List.set_cons_succ, List.set_cons_zero])
        refine E_read 5 (by kernel_rfl) rfl rfl ?_ np_panic ?_; (focus (first | exact wanted_none rfl | (refine wanted_yes rfl ?_; (focus (simp [yielded]; done))))); apply Exists.intro; refine ⟨fun w' hk Z hZ => ?_, ?_⟩; (focus (simp only [execOp]; (repeat conv in Act.eval _ _ => whnf); (try go_simp); exact hZ)); (try simp only [Act.put, List.setIfInBounds_toArray, List.set_cons_succ, List.set_cons_zero])
        refine E_read 6 (by kernel_rfl) rfl rfl ?_ np_panic ?_; (focus (first | exact wanted_none rfl | (refine wanted_yes rfl ?_; (focus (simp [yielded]; done))))); apply Exists.intro; refine ⟨fun w' hk Z hZ => ?_, ?_⟩; (focus (simp only [execOp]; (repeat conv in Act.eval _ _ => whnf); (try go_simp); exact hZ)); (try simp only [Act.put, List.setIfInBounds_toArray, List.set_cons_succ, List.set_cons_zero])
        refine E_read 7 (by kernel_rfl) rfl rfl ?_ np_panic ?_; (focus (first | exact wanted_none rfl | (refine wanted_yes rfl ?_; (focus (simp [yielded]; done))))); apply Exists.intro; refine ⟨fun w' hk Z hZ => ?_, ?_⟩; (focus (simp only [execOp]; (repeat conv in Act.eval _ _ => whnf); (try go_simp); exact hZ)); (try simp only [Act.put, List.setIfInBounds_toArray, List.set_cons_succ, List.set_cons_zero])
        refine E_read 8 (by kernel_rfl) rfl rfl ?_ np_panic ?_; (focus (first | exact wanted_none rfl | (refine wanted_yes rfl ?_; (focus (simp [yielded]; done))))); apply Exists.intro; refine ⟨fun w' hk Z hZ => ?_, ?_⟩; (focus (simp only [execOp]; (repeat conv in Act.eval _ _ => whnf); (try go_simp); exact hZ)); (try simp only [Act.put, List.setIfInBounds_toArray, List.set_cons_succ, List.set_cons_zero])
        refine E_nil 0 (by kernel_rfl) rfl ?_
        refine tail_nil _ ?_
        simp only [npost]
        gi_wp2
        gi_meet
        case rel => exact ⟨rfl, rfl, HB8.out⟩
  case rest =>
  obtain ⟨rfl, rfl, hcut⟩ := hcut
  rename World => wd
  have HC3 := Lib.hid hcut
  clear hcut HC2
  gi_wp2_with (first
    | (have g := HB9.out; clear g; refine ⟨trivial, ?_⟩; gi_at_call 10; refine (callsIn_wide.2 (read_any (some ⟨w8.heap.size, 0, none⟩) 1 1 [oneC] 0 0 0 0 (some ⟨S + 1, 0, none⟩) 1 1 [[0, 1, 0]] _ (Sl.crit1 w8 _ oneC ⟨by unfold i64; decide, by unfold i64; decide, by unfold i64; decide, by unfold i64; decide, by unfold i64; decide⟩) (HB9.out.1.keep ((Keeps.refl _ _).alloc _)).sl)).mono ?_; rintro e w9 ⟨A4, n4, c4, A5, n5, c5, rfl, -, hb⟩; rw [show (readM [oneC] ⟨0, 0, 0, 0, [[0, 1, 0]]⟩).2.2 = 150 from ex10]; have HB10 : Hid (Box S w9 ∧ Below w.heap.size w w9) := (And.intro ((HB9.out.1.keep ((Keeps.refl _ _).alloc _)).keep (Keeps.of_below hb [])) ((HB9.out.2.alloc HB9.out.2.size _).trans (hb.mono (by have := HB9.out.2.size; simp; omega)))); clear hb)
    | (have g := HB8.out; clear g; refine ⟨trivial, ?_⟩; gi_at_call 10; refine (callsIn_wide.2 (read_any A6 1 c6 [scaleC] 0 0 0 0 (some ⟨w6.heap.size + 1, 0, none⟩) 1 1 [[]] _ ((HS6.out.keep ((Keeps.refl _ _).alloc _)).keep ((Keeps.refl _ _).alloc _)) (emptyBox w6))).mono ?_; rintro e w8 ⟨A4, n4, c4, A5, n5, c5, rfl, -, hb⟩; rw [ex9]; have HB9 : Hid (Box S w8 ∧ Below w.heap.size w w8) := (And.intro (((HB8.out.1.keep ((Keeps.refl _ _).alloc _)).keep ((Keeps.refl _ _).alloc _)).keep (Keeps.of_below hb [])) (((HB8.out.2.alloc HB8.out.2.size _).alloc (by have := HB8.out.2.size; simp; omega) _).trans (hb.mono (by have := HB8.out.2.size; simp; omega)))); clear hb; obtain ⟨z0, z1, z2, z3, z4, -⟩ := HB9.out.1.keep ((Keeps.refl _ w8).alloc (.cells #[.string ⟨#[]⟩, .int .i64 0, .int .i64 1, .int .i64 0, .int .i64 1, .int .i64 0, .bool false] 39)))
    | (refine ⟨trivial, ?_⟩; gi_at_call 17; refine (callsIn_wide.2 (scale_any _)).mono ?_; rintro e w6 ⟨A6, c6, rfl, hs, hb⟩; have HS6 := Lib.hid hs; have HB8 : Hid (Box S w6 ∧ Below w.heap.size w w6) := (And.intro (HC3.out.1.keep (Keeps.of_below hb [])) (HC3.out.2.trans (hb.mono HC3.out.2.size))); clear hs hb))
  obtain ⟨hbx, hbl⟩ := HB10.out
  clear z0 z1 z2 z3 z4
  have v0 := stays_drew hbx.c0
  have v1 := stays_drew hbx.c1
  have v2 := stays_drew hbx.c2
  have v3 := stays_drew hbx.c3
  have v4 := stays_drew hbx.c4
  have HBX := Lib.hid hbx
  clear hbx HC3 HB8 HB9 HS6 HB10
  obtain ⟨W9, hW9⟩ : ∃ W9 : World, w9.drew.alloc (.cells zeros.toArray 39) = W9 := ⟨_, rfl⟩
  have hmk := mk65 w9.drew
  have k9 : Keeps [] w9.drew W9 := by rw [← hW9]; exact (Keeps.refl _ _).alloc _
  have HM := Lib.hid (mk65_sl w9.drew)
  rw [show (w9.drew.alloc (.cells (List.replicate 65 [Value.string ⟨#[]⟩, .int .i64 0, .int .i64 0, .int .i64 0, .int .i64 0, .int .i64 0, .bool false]).flatten.toArray 39)) = W9 from hW9] at hmk
  rw [hW9] at HM
  have HW9 : Hid (Below w.heap.size w W9) := by rw [← hW9]; exact hbl.drew.alloc hbl.size _
  have HK9 := Lib.hid k9
  clear hW9 k9
  refine region_E_np [] 10 (by kernel_rfl) (by kernel_rfl) ?_
  refine E_read 1 (by kernel_rfl) rfl rfl ?_ np_panic ?_; (focus (first | exact wanted_none rfl | (refine wanted_yes rfl ?_; (focus (simp [yielded]; done))))); apply Exists.intro; refine ⟨fun w' hk Z hZ => ?_, ?_⟩; (focus (simp only [execOp]; (repeat conv in Act.eval _ _ => whnf); (try go_simp); exact hZ)); (try simp only [Act.put, List.setIfInBounds_toArray, List.set_cons_succ, List.set_cons_zero])
  clear v0 v1 v2 v3 v4
  refine E_all 0 [] (by kernel_rfl) (AllE_cons (by decide) rfl ?_ (fun K hK => ?_) AllE_nil)
  · (first | exact wanted_none rfl | (refine wanted_yes rfl ?_; (focus (simp [yielded]; done))))
  gi_wp2
  refine ⟨HK9.out, ?_⟩
  clear hmk
  (try simp only [Act.put, List.setIfInBounds_toArray, List.set_cons_succ, List.set_cons_zero])
  refine E_all 2 [] (by kernel_rfl) (AllE_cons (by decide) rfl ?_ (fun K hK => ?_) AllE_nil)
  · (first | exact wanted_none rfl | (refine wanted_yes rfl ?_; (focus (simp [yielded]; done))))
  gi_wp2
  refine ⟨trivial, (callsIn_wide.2 (read_any _ 65 65 (List.replicate 65 zeroC) 0 0 0 0 (some ⟨S + 1, 0, none⟩) 1 1 [[0, 1, 0]] _ HM.out (HBX.out.keep ((Keeps.refl [] w9).drew.trans HK9.out)).sl)).mono ?_⟩
  rintro e wf ⟨A7, n7, c7, A8, n8, c8, rfl, -, hb⟩
  rw [show (readM (List.replicate 65 zeroC) ⟨0, 0, 0, 0, [[0, 1, 0]]⟩).2.2 = 2 from ex11]
  refine hK _ _ ⟨Keeps.of_below hb [], ?_⟩
  clear hK K
  have HF : Hid (Box S wf ∧ Below w.heap.size w wf) := ⟨(HBX.out.keep ((Keeps.refl [] w9).drew.trans HK9.out)).keep (Keeps.of_below hb []), HW9.out.trans (hb.mono HW9.out.size)⟩
  clear hb
  (try simp only [Act.put, List.setIfInBounds_toArray, List.set_cons_succ, List.set_cons_zero])
  refine E_read 3 (by kernel_rfl) rfl rfl ?_ np_panic ?_; (focus (first | exact wanted_none rfl | (refine wanted_yes rfl ?_; (focus (simp [yielded]; done))))); apply Exists.intro; refine ⟨fun w' hk Z hZ => ?_, ?_⟩; (focus (simp only [execOp]; (repeat conv in Act.eval _ _ => whnf); (try go_simp); exact hZ)); (try simp only [Act.put, List.setIfInBounds_toArray, List.set_cons_succ, List.set_cons_zero])
  refine E_read 4 (by kernel_rfl) rfl rfl ?_ np_panic ?_; (focus (first | exact wanted_none rfl | (refine wanted_yes rfl ?_; (focus (simp [yielded]; done))))); apply Exists.intro; refine ⟨fun w' hk Z hZ => ?_, ?_⟩; (focus (simp only [execOp]; (repeat conv in Act.eval _ _ => whnf); (try go_simp); exact hZ)); (try simp only [Act.put, List.setIfInBounds_toArray, List.set_cons_succ, List.set_cons_zero])
  refine E_read 5 (by kernel_rfl) rfl rfl ?_ np_panic ?_; (focus (first | exact wanted_none rfl | (refine wanted_yes rfl ?_; (focus (simp [yielded]; done))))); apply Exists.intro; refine ⟨fun w' hk Z hZ => ?_, ?_⟩; (focus (simp only [execOp]; (repeat conv in Act.eval _ _ => whnf); (try go_simp); exact hZ)); (try simp only [Act.put, List.setIfInBounds_toArray, List.set_cons_succ, List.set_cons_zero])
  refine E_read 6 (by kernel_rfl) rfl rfl ?_ np_panic ?_; (focus (first | exact wanted_none rfl | (refine wanted_yes rfl ?_; (focus (simp [yielded]; done))))); apply Exists.intro; refine ⟨fun w' hk Z hZ => ?_, ?_⟩; (focus (simp only [execOp]; (repeat conv in Act.eval _ _ => whnf); (try go_simp); exact hZ)); (try simp only [Act.put, List.setIfInBounds_toArray, List.set_cons_succ, List.set_cons_zero])
  refine E_read 7 (by kernel_rfl) rfl rfl ?_ np_panic ?_; (focus (first | exact wanted_none rfl | (refine wanted_yes rfl ?_; (focus (simp [yielded]; done))))); apply Exists.intro; refine ⟨fun w' hk Z hZ => ?_, ?_⟩; (focus (simp only [execOp]; (repeat conv in Act.eval _ _ => whnf); (try go_simp); exact hZ)); (try simp only [Act.put, List.setIfInBounds_toArray, List.set_cons_succ, List.set_cons_zero])
  refine E_read 8 (by kernel_rfl) rfl rfl ?_ np_panic ?_; (focus (first | exact wanted_none rfl | (refine wanted_yes rfl ?_; (focus (simp [yielded]; done))))); apply Exists.intro; refine ⟨fun w' hk Z hZ => ?_, ?_⟩; (focus (simp only [execOp]; (repeat conv in Act.eval _ _ => whnf); (try go_simp); exact hZ)); (try simp only [Act.put, List.setIfInBounds_toArray, List.set_cons_succ, List.set_cons_zero])
  refine E_read 9 (by kernel_rfl) rfl rfl ?_ np_panic ?_; (focus (first | exact wanted_none rfl | (refine wanted_yes rfl ?_; (focus (simp [yielded]; done))))); apply Exists.intro; refine ⟨fun w' hk Z hZ => ?_, ?_⟩; (focus (simp only [execOp]; (repeat conv in Act.eval _ _ => whnf); (try go_simp); exact hZ)); (try simp only [Act.put, List.setIfInBounds_toArray, List.set_cons_succ, List.set_cons_zero])
  refine E_nil 0 (by kernel_rfl) rfl ?_
  refine tail_nil _ ?_
  simp only [npost]
  gi_wp2
  obtain ⟨hfx, hfl⟩ := HF.out
  have v0 := stays_drew hfx.c0
  have v1 := stays_drew hfx.c1
  have v2 := stays_drew hfx.c2
  have v3 := stays_drew hfx.c3
  have v4 := stays_drew hfx.c4
  have HFX := Lib.hid hfx
  have HFL := Lib.hid hfl
  clear hfx hfl HBX HM HW9 HK9 HF
  refine wpIn_region_all [] [0,1,2,3,4,5,6,7,8,9,10,11,12,13,14,15,16,17,18,19,20,21,22,23,24,25,26,27,28,29,30,31,32,33,34,35,36,38,37,39,40,41,42] (by kernel_rfl) (by kernel_rfl) ?_
  repeat (refine ord_step fun K hK => ?_; (first | (refine ordStep_read rfl rfl ?_ ?_; (focus (first | exact wanted_none rfl | (refine wanted_yes rfl ?_; (focus (simp [yielded]; done))))); apply Exists.intro; refine ⟨fun w' hk Z hZ => ?_, hK _ _ ?_⟩; (focus (simp only [execOp]; (repeat conv in Act.eval _ _ => whnf); (try go_simp); exact hZ))) | (refine ordStep_skip rfl rfl ?_ (hK _ _ ?_); (focus (first | (refine wanted_no rfl ?_; (focus (simp [yielded]; done))) | (refine wanted_un rfl ?_; (focus (simp [yielded]; done)))))) | (refine ordStep_callskip rfl rfl ?_ (fun _ => trivial) (hK _ _ ?_); (focus (first | (refine wanted_no rfl ?_; (focus (simp [yielded]; done))) | (refine wanted_un rfl ?_; (focus (simp [yielded]; done))))))); clear hK K; (try simp only [Act.put, List.setIfInBounds_toArray, List.set_cons_succ, List.set_cons_zero]))
  refine ord_step fun K hK => ?_; refine ordStep_call rfl rfl ?_ (fun K' hK' => ?_); (focus (first | exact wanted_none rfl | (refine wanted_yes rfl ?_; (focus (simp [yielded]; done))))); gi_wp2
  refine ⟨trivial, (callsIn_wide.2 (scale_any _)).mono ?_⟩
  rintro e wg ⟨A6, c6, rfl, hs, hb⟩
  refine hK' _ _ ⟨?_, hK _ _ ?_⟩; clear hK' K' hK K
  · exact Keeps.of_below hb []
  (try simp only [Act.put, List.setIfInBounds_toArray, List.set_cons_succ, List.set_cons_zero])
  have HG : Hid (Box S wg ∧ Below w.heap.size w wg) := And.intro (HFX.out.keep ((Keeps.refl [] wf).drew.trans (Keeps.of_below hb []))) (HFL.out.drew.trans (hb.mono HFL.out.size))
  have HSG := Lib.hid hs
  clear hb hs v0 v1 v2 v3 v4
  refine ord_step fun K hK => ?_; refine ordStep_call rfl rfl ?_ (fun K' hK' => ?_); (focus (first | exact wanted_none rfl | (refine wanted_yes rfl ?_; (focus (simp [yielded]; done))))); gi_wp2
  refine ⟨trivial, (callsIn_wide.2 (check_any A6 1 c6 [scaleC] 0 0 0 0 (some ⟨S + 1, 0, none⟩) 1 1 [[0, 1, 0]] _ HSG.out HG.out.1.sl)).mono ?_⟩
  rintro e wh ⟨rfl, hb⟩
  rw [show checkM [scaleC] ⟨0, 0, 0, 0, [[0, 1, 0]]⟩ = 0 from ex12]
  refine hK' _ _ ⟨?_, hK _ _ ?_⟩; clear hK' K' hK K
  · exact Keeps.of_below hb []
  (try simp only [Act.put, List.setIfInBounds_toArray, List.set_cons_succ, List.set_cons_zero])
  have HH := Lib.hid (HG.out.2.trans (hb.mono HG.out.2.size))
  clear hb
  repeat (refine ord_step fun K hK => ?_; (first | (refine ordStep_read rfl rfl ?_ ?_; (focus (first | exact wanted_none rfl | (refine wanted_yes rfl ?_; (focus (simp [yielded]; done))))); apply Exists.intro; refine ⟨fun w' hk Z hZ => ?_, hK _ _ ?_⟩; (focus (simp only [execOp]; (repeat conv in Act.eval _ _ => whnf); (try go_simp); exact hZ))) | (refine ordStep_skip rfl rfl ?_ (hK _ _ ?_); (focus (first | (refine wanted_no rfl ?_; (focus (simp [yielded]; done))) | (refine wanted_un rfl ?_; (focus (simp [yielded]; done)))))) | (refine ordStep_callskip rfl rfl ?_ (fun _ => trivial) (hK _ _ ?_); (focus (first | (refine wanted_no rfl ?_; (focus (simp [yielded]; done))) | (refine wanted_un rfl ?_; (focus (simp [yielded]; done))))))); clear hK K; (try simp only [Act.put, List.setIfInBounds_toArray, List.set_cons_succ, List.set_cons_zero]))
  refine ord_nil ?_; (try simp only [Act.put, List.setIfInBounds_toArray, List.set_cons_succ, List.set_cons_zero])
  gi_wp2
  go_ret
  exact ⟨rfl, HH.out⟩
end Go.Proofs.Ythbbefkmnahnlaa
