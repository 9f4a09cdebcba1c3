/- sheets.Read where the sheet is right. No statement is proved here. -/
import Derived.Test.YthbbefkmnahnlaaRead
namespace Go.Proofs.Ythbbefkmnahnlaa
open Go.RowKit Go.Shelf
attribute [local go_sem] Oper.semAt_some

theorem count_snoc (bx : List Int) (q : Nat) (y x : Int) (h : bx[q]? = some y) : (bx.take (q + 1)).count x = (bx.take q).count x + if y = x then 1 else 0 := by
  rw [List.take_add_one, h, List.count_append]
  simp [List.count_singleton]

theorem lastM_le : ∀ (bx : List Int) (i acc : Nat), acc ≤ i → lastM bx i acc ≤ i + bx.length - 1 ∨ lastM bx i acc = acc
  | [], i, acc, h => .inr rfl
  | b :: r, i, acc, h => by
    simp only [lastM, List.length_cons]
    by_cases hb : b = 1
    · rw [if_pos hb]
      rcases lastM_le r (i + 1) i (by omega) with g | g
      · left; omega
      · left; omega
    · rw [if_neg hb]
      rcases lastM_le r (i + 1) acc (by omega) with g | g
      · left; omega
      · exact .inr g

theorem one_rng {c : Crit} {bx : List Int} (hc : rightB c = true) (hb : boxOk c bx = true) : (-1 ≤ (oneM c bx).1 ∧ (oneM c bx).1 ≤ 1000) ∧ (0 ≤ (oneM c bx).2 ∧ (oneM c bx).2 ≤ 3) ∧ (0 ≤ (lastM bx 0 0 : Int) * c.st ∧ c.lo + (lastM bx 0 0 : Int) * c.st ≤ c.hi) := by
  obtain ⟨⟨h1, h2, h3⟩, h4, -, -, -, h5⟩ := rightB_facts hc
  simp only [boxOk, Bool.and_eq_true, decide_eq_true_eq] at hb
  have hlen : ((bx.length : Int) - 1) * c.st = c.hi - c.lo := (len_iff h4 h5).2 hb.1
  have hl : (lastM bx 0 0 : Int) ≤ bx.length - 1 := by
    have hpos : 1 ≤ bx.length := by
      rcases Nat.eq_zero_or_pos bx.length with h | h
      · rw [h] at hlen; simp at hlen; omega
      · exact h
    rcases lastM_le bx 0 0 (Nat.le_refl _) with g | g <;> omega
  have hm : (lastM bx 0 0 : Int) * c.st ≤ ((bx.length : Int) - 1) * c.st := Int.mul_le_mul_of_nonneg_right hl (by omega)
  have h0 : 0 ≤ (lastM bx 0 0 : Int) * c.st := Int.mul_nonneg (by omega) (by omega)
  refine ⟨?_, ?_, h0, by omega⟩
  · simp only [oneM]; split <;> omega
  · simp only [oneM, classM]; repeat' split
    all_goals omega

theorem boxesOk_at : ∀ {c : List Crit} {bs : List (List Int)}, boxesOk c bs = true → ∀ (k : Nat) (x : Crit) (b : List Int), c[k]? = some x → bs[k]? = some b → boxOk x b = true
  | [], [], _, k, x, b, h, _ => by simp at h
  | y :: c, z :: bs, h, k, x, b, h1, h2 => by
    simp only [boxesOk, Bool.and_eq_true] at h
    match k with
    | 0 => simp at h1 h2; subst h1; subst h2; exact h.1
    | k + 1 => exact boxesOk_at h.2 k x b (by simpa using h1) (by simpa using h2)

theorem read_rng {c : List Crit} {bs : List (List Int)} (hc : c.all rightB = true) (hb : boxesOk c bs = true) : (∀ x, x ∈ marksM c bs → i64 x) ∧ (∀ x, x ∈ classesM c bs → i64 x) := by
  have key : ∀ (k : Nat) (x : Crit) (b : List Int), c[k]? = some x → bs[k]? = some b → i64 (oneM x b).1 ∧ i64 (oneM x b).2 := by
    intro k x b h1 h2
    have := one_rng ((List.all_eq_true.1 hc) _ (List.mem_of_getElem? h1)) (boxesOk_at hb k x b h1 h2)
    unfold i64
    omega
  constructor
  · intro x hx
    obtain ⟨k, hk⟩ := List.getElem?_of_mem hx
    simp only [marksM, List.getElem?_zipWith] at hk
    split at hk
    · rename_i a b h1 h2; cases hk; exact (key k a b h1 h2).1
    · cases hk
  · intro x hx
    obtain ⟨k, hk⟩ := List.getElem?_of_mem hx
    simp only [classesM, List.getElem?_zipWith] at hk
    split at hk
    · rename_i a b h1 h2; cases hk; exact (key k a b h1 h2).2
    · cases hk

set_option maxHeartbeats 4000000 in
theorem read_ok {M M2 : List Nat} (A : Option Addr) (n cp : Nat) (c : List Crit) (no rd en ju : Int) (B : Option Addr) (m d : Nat) (bs : List (List Int)) (w : World) (hx : Sl Crit w M A n cp c) (hy : Sl (List Int) w M2 B m d bs)
    (he : checkM c ⟨no, rd, en, ju, bs⟩ = 0) :
    Calls Try.prog 10 #[.slice A n cp, .agg #[.int .i64 no, .int .i64 rd, .int .i64 en, .int .i64 ju, .slice B m d]] w (ReadR w (readM c ⟨no, rd, en, ju, bs⟩)) := by
  refine (callsIn_wide (n := 10)).1 ?_
  have H := Lib.hid hx
  have G := Lib.hid hy
  have hr : readM c ⟨no, rd, en, ju, bs⟩ = (marksM c bs, classesM c bs, 0) := by simp [readM, he]
  rw [hr]
  have HQ := Lib.hid he
  have hal : c.all rightB = true ∧ n ≤ 64 ∧ m = n ∧ boxesOk c bs = true := by
    have h1 := hx.len
    have h2 := hy.len
    have he := he
    unfold checkM errM at he
    by_cases g1 : 64 < c.length
    · simp [g1] at he
    · by_cases g2 : c.all rightB = true
      · simp only [g1, g2, if_false, if_true, ne_eq, not_true_eq_false] at he
        by_cases g3 : (headOk c.length ⟨no, rd, en, ju, bs⟩ && boxesOk c bs) = true
        · simp only [Bool.and_eq_true] at g3
          refine ⟨g2, by omega, ?_, g3.2⟩
          have := g3.1
          simp only [headOk, Bool.and_eq_true, decide_eq_true_eq] at this
          omega
        · simp [g3] at he
      · simp [g1, g2] at he
  obtain ⟨ha, hn64, hmn, hbo⟩ := hal
  obtain rfl : n = m := hmn.symm
  clear hmn
  have HA := Lib.hid ha
  have HBO := Lib.hid hbo
  trace "x1"
  generalize hR : ReadR w (marksM c bs, classesM c bs, 0) = R
  have HR := Lib.hid hR
  clear hx hy hr he ha hbo hR
  trace "x2"
  refine callsIn_of_wp_marks Try.func10 rfl trivial ?_ rfl; simp only [Try.ntmps10, List.size_toArray, List.length_cons, List.length_nil, Nat.reduceAdd, Nat.reduceSub, Array.replicate_succ, Array.replicate_zero, List.push_toArray, List.append_toArray, List.nil_append, List.cons_append]
  trace "x3"
  gi_wp2_with (first
    | (refine ⟨trivial, ?_⟩; gi_at_call 18; refine (callsIn_wide.2 (check_any A n cp c no rd en ju B n d bs _ ((((H.out.less (M' := []) (by simp)).keep ((Keeps.refl _ _).alloc _)).keep ((Keeps.refl _ _).alloc _)).keep ((Keeps.refl _ _).alloc _)) ((((G.out.less (M' := []) (by simp)).keep ((Keeps.refl _ _).alloc _)).keep ((Keeps.refl _ _).alloc _)).keep ((Keeps.refl _ _).alloc _)))).mono ?_; rintro e w1 ⟨rfl, hb1⟩; rw [HQ.out]; have c0 : w1.cell? ⟨w.heap.size, 4, none⟩ = some (.slice B n d) := (hb1.cell (p := ⟨w.heap.size, 4, none⟩) (by simp; omega)).trans (by simp [go_sem]); have c1 : w1.cell? ⟨w.heap.size + 1, 0, none⟩ = some (.slice none 0 0) := (hb1.cell (p := ⟨w.heap.size + 1, 0, none⟩) (by simp)).trans (by simp [go_sem]); have c2 : w1.cell? ⟨w.heap.size + 1 + 1, 0, none⟩ = some (.slice none 0 0) := (hb1.cell (p := ⟨w.heap.size + 1 + 1, 0, none⟩) (by simp)).trans (by simp [go_sem]); have f1 : w1.frozen? ⟨w.heap.size + 1, 0, none⟩ = false := (hb1.frozen (p := ⟨w.heap.size + 1, 0, none⟩) (by simp)).trans (by simp [go_sem]); have f2 : w1.frozen? ⟨w.heap.size + 1 + 1, 0, none⟩ = false := (hb1.frozen (p := ⟨w.heap.size + 1 + 1, 0, none⟩) (by simp)).trans (by simp [go_sem]); have hbb := Lib.hid ((((Below.refl w.heap.size w).alloc (Nat.le_refl _) _).alloc (by simp) _).alloc (by simp; omega) _ |>.trans (hb1.mono (by simp; omega))); have hsz1 : w.heap.size + 1 + 1 < w1.heap.size := by (have := hb1.size; simp at this; omega))
    | (refine ⟨trivial, ?_⟩; gi_at_call 21; refine (callsIn_wide.2 (zipL_any _ _ _ _ _ _ _)).mono ?_; rintro e w2 ⟨rfl, rfl⟩))
  trace "x4"
  obtain ⟨W2, hW2⟩ : ∃ W2 : World, (w1.alloc (.cells #[.slice A n cp] 22)).alloc (.cells #[.slice B n d] 26) = W2 := ⟨_, rfl⟩
  rw [hW2]
  have hs2 : W2.heap.size = w1.heap.size + 2 := by rw [← hW2]; simp
  have k2 : Keeps [] w1 W2 := by rw [← hW2]; exact ((Keeps.refl [] w1).alloc _).alloc _
  have b2 : Below w.heap.size w W2 := by rw [← hW2]; exact (hbb.out.alloc (by omega) _).alloc (by simp; omega) _
  have z1 : W2.cell? ⟨w1.heap.size, 0, none⟩ = some (.slice A n cp) := by rw [← hW2]; simp [go_sem]
  have z2 : W2.cell? ⟨w1.heap.size + 1, 0, none⟩ = some (.slice B n d) := by rw [← hW2]; simp [go_sem]
  have e1 : W2.cell? ⟨w.heap.size + 1, 0, none⟩ = some (.slice none 0 0) := k2.cell (by simp) c1
  have e2 : W2.cell? ⟨w.heap.size + 1 + 1, 0, none⟩ = some (.slice none 0 0) := k2.cell (by simp) c2
  have g1 : W2.frozen? ⟨w.heap.size + 1, 0, none⟩ = false := by rw [← hW2]; exact free_al _ (cell_al _ c1) (free_al _ c1 f1)
  have g2 : W2.frozen? ⟨w.heap.size + 1 + 1, 0, none⟩ = false := by rw [← hW2]; exact free_al _ (cell_al _ c2) (free_al _ c2 f2)
  clear hW2 k2
  have HS2 := Lib.hid hs2
  have X2 : Sl Crit W2 [w.heap.size + 1, w.heap.size + 1 + 1] A n cp c := (((H.out.less (M' := []) (by simp)).more (b := w.heap.size + 1 + 1) (by omega)).more (b := w.heap.size + 1) (by omega)).keep (Keeps.of_below b2 _)
  have Y2 : Sl (List Int) W2 [w.heap.size + 1, w.heap.size + 1 + 1] B n d bs := (((G.out.less (M' := []) (by simp)).more (b := w.heap.size + 1 + 1) (by omega)).more (b := w.heap.size + 1) (by omega)).keep (Keeps.of_below b2 _)
  trace "x5"
  obtain ⟨us, U2, UU⟩ := Y2.rowV rfl
  clear hs2
  refine wp_rangeFunc (M := [w.heap.size + 1, w.heap.size + 1 + 1]) (w0 := W2) rfl rfl trivial (enters_of Try.func28 (by kernel_rfl) rfl)
    (zip1L_yields z1 (by simp; omega) z2 (by simp; omega) X2 U2 ?hus (by omega) (by omega)) (Keeps.refl _ _) ?hM ?hps
    (fun s rest W => ∃ (k : Nat) (v1 v2 : Value), (k ≤ n ∧ rest = (zipV c us).drop k ∧ (v1.ownBlock = none ∨ v1.ownBlock ≠ v2.ownBlock)) ∧ RInv w w.heap.size s v1 v2 v1 v2 ((marksM c bs).take k) ((classesM c bs).take k) W)
    (fun j W => False)
    (fun _ _ => stab_ex fun _ => stab_ex fun _ => stab_ex fun _ => (stab_pure _ _).and (RInv.stab (Nat.le_refl _) (by rw [HS2.out]; omega)))
    (fun _ => stab_pure _ _)
    (fun s _ => ⟨0, .slice none 0 0, .slice none 0 0, ⟨by omega, rfl, .inl rfl⟩, ⟨⟨e1, g1⟩, ⟨e2, g2⟩⟩, ⟨World.ownsRow_nil _ _ _ _, World.ownsRow_nil _ _ _ _⟩, b2⟩) ?round ?done ?stop
  trace "x6"
  case hM =>
    intro q hq
    have : q = w.heap.size + 1 ∨ q = w.heap.size + 1 + 1 := by simpa using hq
    rw [HS2.out]
    omega
  case hus =>
    intro u hu
    obtain ⟨j, hj⟩ := List.getElem?_of_mem hu
    have hjl : j < bs.length := by
      have h1 := U2.len
      have h2 := G.out.len
      rcases Nat.lt_or_ge j us.length with h' | h'
      · omega
      · rw [List.getElem?_eq_none h'] at hj; cases hj
    obtain ⟨v, hv, A', n', c', he, _⟩ := UU j _ (List.getElem?_eq_getElem hjl)
    rw [hj] at hv
    cases hv
    injection he with he
    exact ⟨A', n', c', he⟩
  case hps =>
    intro x hx
    obtain ⟨j, hj⟩ := List.getElem?_of_mem hx
    simp only [zipV, List.getElem?_zipWith] at hj
    split at hj
    · cases hj; rfl
    · cases hj
  case stop =>
    rintro D j W hD hf
    exact hf.elim
  case done =>
    rintro D s W hD hDs ⟨k', v1, v2, ⟨hk', hrest, hdis⟩, hinv⟩ hdef
    have hl1 := H.out.len
    have hl2 := G.out.len
    have hl3 := U2.len
    have hkn : n ≤ k' := by
      have := congrArg List.length hrest
      simp only [zipV, List.length_drop, List.length_zipWith, List.length_nil] at this
      omega
    have hm1 : (marksM c bs).length = n := by simp [marksM, hl1, hl2]
    have hm2 : (classesM c bs).length = n := by simp [classesM, hl1, hl2]
    rw [List.take_of_length_le (by omega), List.take_of_length_le (by omega)] at hinv
    obtain ⟨r1, r2⟩ := read_rng HA.out HBO.out
    rw [HS2.out] at hD
    obtain ⟨A1, d1, rfl, -⟩ := Sl.of_own (M := []) hinv.2.1.1 r1 (by omega) (by simp)
    obtain ⟨A2, d2, rfl, -⟩ := Sl.of_own (M := []) hinv.2.1.2 r2 (by omega) (by simp)
    have h1 := hinv.1.1.1
    have h2 := hinv.1.1.2
    have h3 := hinv.1.2.1
    have h4 := hinv.1.2.2
    have HF := Lib.hid ((RInv.stab (w := w) (S := w.heap.size) (s := s) (u1 := .slice A1 (marksM c bs).length d1) (u2 := .slice A2 (classesM c bs).length d2) (Nat.le_refl _) (Nat.le_refl _)).put (l := D) (.deferred none) ((hinv.set1 (by omega) (.slice A1 (marksM c bs).length d1)).set2 (by omega) (.slice A2 (classesM c bs).length d2)).drew (by omega) (set_deferred (set_deferred hdef)) rfl)
    have q1 := stays_drew hinv.1.1.1
    have q2 := stays_m (Mr := [w.heap.size + 1]) (by simp) hinv.1.2.1
    have HM1 := Lib.hid hm1
    have HM2 := Lib.hid hm2
    clear hl1 hl2 hl3 hrest hm1 hm2
    gi_wp2
    refine region_E_np [w.heap.size + 1] 3 (by kernel_rfl) (by kernel_rfl) ?_
    refine E_read 1 (by kernel_rfl) rfl rfl ?_ np_panic ?_; (focus (first | exact wanted_none rfl | (refine wanted_yes rfl ?_; (focus (simp [yielded]; done))))); apply Exists.intro; refine ⟨fun w' hk Z hZ => ?_, ?_⟩; (focus (simp only [execOp]; (repeat conv in Act.eval _ _ => whnf); (try go_simp); exact hZ)); (try simp only [Act.put, List.setIfInBounds_toArray, List.set_cons_succ, List.set_cons_zero])
    refine E_all 0 [] (by kernel_rfl) (AllE_cons (by decide) rfl ?_ (fun K hK => ?_) AllE_nil); (focus (first | exact wanted_none rfl | (refine wanted_yes rfl ?_; (focus (simp [yielded]; done))))); gi_wp2
    refine ⟨?_, ?_⟩
    · exact Keeps.refl _ _
    refine E_all 2 [] (by kernel_rfl) (AllE_cons (by decide) rfl ?_ (fun K hK => ?_) AllE_nil); (focus (first | exact wanted_none rfl | (refine wanted_yes rfl ?_; (focus (simp [yielded]; done))))); gi_wp2
    refine ⟨?_, ?_⟩
    · exact (Keeps.refl _ _).setCell (p := ⟨w.heap.size + 1, 0, none⟩) (.inl (by simp)) _
    refine E_nil 2 (by kernel_rfl) rfl ?_
    refine tail_step fun K hK => ?_; refine tailStep_op rfl ?_ (fun K' hK' => ?_); (focus (first | exact wanted_none rfl | (refine wanted_yes rfl ?_; (focus (simp [yielded]; done))))); gi_wp2
    refine tail_step fun K hK => ?_; refine tailStep_op rfl ?_ (fun K' hK' => ?_); (focus (first | exact wanted_none rfl | (refine wanted_yes rfl ?_; (focus (simp [yielded]; done))))); gi_wp2
    refine tail_nil _ ?_
    simp only [npost]
    gi_wp2
    refine ⟨by simp, .inl ⟨_, _, rfl, run_takeDeferred (set_deferred (set_deferred hdef)), ?_⟩⟩
    have w1 := HF.out.1.1.1
    have w2 := HF.out.1.2.1
    refine ⟨.tuple #[.slice A1 (marksM c bs).length d1, .slice A2 (classesM c bs).length d2, .int .i64 0], by simp [results, go_sem, w1, w2], ?_⟩
    rw [← HR.out]
    refine ⟨A1, _, d1, A2, _, d2, rfl, fun M' hM' => ?_, HF.out.2.2⟩
    obtain ⟨_, _, q1, q2⟩ := Sl.of_own (M := M') HF.out.2.1.1 r1 (by have := HM1.out; omega) (fun k hk => by have := hM' k hk; omega)
    obtain ⟨_, _, q3, q4⟩ := Sl.of_own (M := M') HF.out.2.1.2 r2 (by have := HM2.out; omega) (fun k hk => by have := hM' k hk; omega)
    cases q1
    cases q3
    exact ⟨q2, q4⟩
  case round =>
    rintro l s x rest W ⟨pre, hpre⟩ hl hls hsW hrec hkW ⟨k', v1, v2, ⟨hk', hrest, hdis⟩, hinv⟩
    have hkn : k' < n := by
      rcases Nat.lt_or_ge k' n with h' | h'
      · exact h'
      · rw [List.drop_of_length_le (by simp only [zipV, List.length_zipWith, H.out.len]; omega)] at hrest; cases hrest
    have hlx : k' < c.length := by rw [H.out.len]; exact hkn
    have hlu : k' < us.length := by rw [U2.len]; omega
    have hlb : k' < bs.length := by rw [G.out.len]; omega
    rw [zipV_drop c us hlx hlu] at hrest
    injection hrest with hx hr'
    obtain ⟨v, hv, A', n', c', he, hsl⟩ := UU k' _ (List.getElem?_eq_getElem hlb)
    rw [List.getElem?_eq_getElem hlu] at hv
    injection hv with hv
    injection he with he
    rw [hv, he] at hx
    subst hx
    have hRx : rightB c[k'] = true := (List.all_eq_true.1 HA.out) _ (List.getElem_mem hlx)
    have hBx : boxOk c[k'] bs[k'] = true := boxesOk_at HBO.out k' _ _ (List.getElem?_eq_getElem hlx) (List.getElem?_eq_getElem hlb)
    have ht1 : (marksM c bs).take (k' + 1) = (marksM c bs).take k' ++ [(oneM c[k'] bs[k']).1] := by
      rw [List.take_add_one, marksM, List.getElem?_zipWith, List.getElem?_eq_getElem hlx, List.getElem?_eq_getElem hlb]; rfl
    have ht2 : (classesM c bs).take (k' + 1) = (classesM c bs).take k' ++ [(oneM c[k'] bs[k']).2] := by
      rw [List.take_add_one, classesM, List.getElem?_zipWith, List.getElem?_eq_getElem hlx, List.getElem?_eq_getElem hlb]; rfl
    have hlen1 : ((marksM c bs).take k').length ≤ 1000 := by rw [List.length_take]; omega
    have hlen2 : ((classesM c bs).take k').length ≤ 1000 := by rw [List.length_take]; omega
    generalize (marksM c bs).take k' = l1 at *
    generalize (classesM c bs).take k' = l2 at *
    have hsl := hsl.keep hkW
    generalize c[k'] = cx at *
    generalize bs[k'] = bx at *
    have hrg := one_rng hRx hBx
    obtain ⟨s0, lo, hi, st, how, tr, rv⟩ := cx
    have HR' := Lib.hid hr'
    have HSL := Lib.hid hsl
    have HT1 := Lib.hid ht1
    have HT2 := Lib.hid ht2
    have HHE := Lib.hid he
    have HINV := Lib.hid hinv
    have HDIS := Lib.hid hdis
    obtain ⟨⟨⟨gg1, gg2, gg3⟩, gg4, -, -, -, -⟩, ⟨rg1, rg2⟩⟩ := And.intro (rightB_facts hRx) hrg.2.2
    simp only at gg1 gg2 gg3 gg4 rg1 rg2
    have hSW : w.heap.size ≤ W.heap.size := hinv.2.2.size
    have hsS : w.heap.size + 1 + 1 < s := by have := HS2.out; omega
    clear hr' hsl hRx hBx he hv hpre ht1 ht2 hinv hdis hrg
    gi_wp2
    refine ⟨((Keeps.refl _ W).alloc _).to hsW, fun W'' =>
      (W''.cell? ⟨W.heap.size, 1, none⟩ = some (.int .i64 lo) ∧ W''.cell? ⟨W.heap.size, 3, none⟩ = some (.int .i64 st)) ∧ RInv w w.heap.size s v1 v2 v1 v2 l1 l2 W'' ∧
      (∀ (j : Nat) (y : Int), bx[j]? = some y → ∃ b o, A' = some ⟨b, o, none⟩ ∧ W''.cell? ⟨b, o + j, none⟩ = some (.int .i64 y) ∧ i64 y), ?_, ?_, ?_⟩
    · exact ((stab_cell _ _ _).and (stab_cell _ _ _)).and ((RInv.stab (Nat.le_refl _) (by have := HS2.out; omega)).and
        (fun A A' row hs hg hr => fun j y hy => by obtain ⟨b, o, h1, h2, h3⟩ := hs j y hy; exact ⟨b, o, h1, cell_kept h2 hg (fun r e => (hr r e).2), h3⟩))
    · refine ⟨⟨by simp [go_sem], by simp [go_sem]⟩, HINV.out.alloc hSW _, ?_⟩
      intro j y hy
      obtain ⟨b, o, y', h1, h2, h4, -, h3⟩ := HSL.out.intd (k := j) (by rw [← HSL.out.len]; exact (List.getElem?_eq_some_iff.1 hy).1)
      rw [hy] at h3
      cases h3
      exact ⟨b, o, h1, cell_al _ h2, h4⟩
    · rintro W'' xl hxl hsz'' ⟨⟨x1, x3⟩, hinv2, hel⟩
      have HEL := Lib.hid hel
      have HXL := Lib.hid hxl
      have HSZ := Lib.hid hsz''
      have HINV2 := Lib.hid hinv2
      have hn1 : n' ≤ 140737488355328 := HSL.out.small
      have HLN := Lib.hid HSL.out.len
      clear hel hxl hsz'' hinv2
      have hmm := @run_makeMap Try.prog
      gi_wp2
      obtain ⟨W3, hW3⟩ : ∃ W3 : World, W''.alloc (.map #[] 0) = W3 := ⟨_, rfl⟩
      rw [hW3]
      have hm0 : MapI W3 W''.heap.size 0 (fun _ => 0) := by rw [← hW3]; exact MapI.new W''
      have hSW2 : w.heap.size ≤ W''.heap.size := HINV2.out.2.2.size
      have HI3 : Hid (RInv w w.heap.size s v1 v2 v1 v2 l1 l2 W3) := by rw [← hW3]; exact HINV2.out.alloc hSW2 _
      have y1 : W3.cell? ⟨W.heap.size, 1, none⟩ = some (.int .i64 lo) := by rw [← hW3]; exact cell_al _ x1
      have y3 : W3.cell? ⟨W.heap.size, 3, none⟩ = some (.int .i64 st) := by rw [← hW3]; exact cell_al _ x3
      have HK3 : Hid (KeepsTo s [w.heap.size + 1, w.heap.size + 1 + 1] W'' W3) := by rw [← hW3]; exact (KeepsTo.refl _ _ _).alloc (by have := HSZ.out; omega) _
      have HE3 : Hid (∀ (j : Nat) (y : Int), bx[j]? = some y → ∃ b o, A' = some ⟨b, o, none⟩ ∧ W3.cell? ⟨b, o + j, none⟩ = some (.int .i64 y) ∧ b < W''.heap.size ∧ i64 y) := by
        intro j y hy
        obtain ⟨b, o, h1, h2, h3⟩ := HEL.out j y hy
        exact ⟨b, o, h1, by rw [← hW3]; exact cell_al _ h2, World.block_lt_of_cell? _ _ h2, h3⟩
      have hs3 : Hid (W3.heap.size = W''.heap.size + 1) := by rw [← hW3]; exact World.size_alloc _ _
      clear hW3 x1 x3 hmm
      gi_loopw [11, 31] (fun lv i wr => ∃ (q acc : Nat) (f : Int → Int), (q ≤ n' ∧ acc ≤ n') ∧ i = .int .i64 q ∧ lv = .int .i64 acc ∧ Hid (MapI wr W''.heap.size q f) ∧ Hid (∀ y, f y = (bx.take q).count y) ∧ Hid (W3.grownBy wr (some W''.heap.size)) ∧ Hid (lastM (bx.drop q) q acc = lastM bx 0 0)) (fun _ i _ => n' - (intOf i).toNat)
      case atStart => exact ⟨0, 0, fun _ => 0, ⟨by omega, by omega⟩, rfl, rfl, hm0, fun y => by simp, World.grownBy.refl _ _, rfl⟩
      case round =>
        obtain ⟨q, acc, f, ⟨hqn, hacc⟩, rfl, rfl, hmp, hf, hg3, hla⟩ := hrel
        by_cases hlt2 : q < n'
        · have hqx : q < bx.length := by rw [HLN.out]; exact hlt2
          obtain ⟨b', o', hA', hcq, hblt, hy64⟩ := HE3.out q _ (List.getElem?_eq_getElem hqx)
          have hla2 := hla.out
          rw [List.drop_eq_getElem_cons hqx, lastM] at hla2
          have hcs := count_snoc bx q bx[q]
          have hget := List.getElem?_eq_getElem hqx
          have hcq2 := hg3.out.cell hcq (by simp; omega)
          generalize bx[q] = y at *
          have hwf : (Lit.int .i64 y).wf = true := WalkArith.wf_i64 hy64
          have hfy := hf.out y
          have hcl : (bx.take q).count y ≤ q := Nat.le_trans (List.count_le_length) (by rw [List.length_take]; omega)
          have hlk := hmp.out.lookup y hwf
          rw [hfy] at hlk
          obtain ⟨w', hup, hmp', hgu⟩ := hmp.out.update y (((bx.take q).count y : Nat) + 1) hwf (WalkArith.wf_i64 (by omega)) (by unfold maxLen; omega)
          have HMP := Lib.hid hmp'
          have HG4 := Lib.hid (hg3.out.trans' hgu)
          have HCS := Lib.hid (fun x => hcs x hget)
          have HLA := Lib.hid hla2
          have HFY := Lib.hid hfy
          clear hmp' hgu hcs hget hla2 hfy hcq hwf
          generalize htt : (bx.take q).count y = t at *
          have HTT := Lib.hid htt
          clear htt
          subst hA'
          by_cases hy1 : y = 1
          · subst hy1
            gi_wp2
            go_roundw
            case rel => exact ⟨q + 1, q, _, ⟨by omega, by omega⟩, by go_num, rfl, HMP.out, fun z => (by
              have := HCS.out z
              by_cases hz : z = 1
              · subst hz; rw [if_pos rfl, this, if_pos rfl, HTT.out]; omega
              · rw [if_neg hz, this, if_neg (fun e => hz e.symm), hf.out z]; omega), HG4.out, by have := HLA.out; rwa [if_pos rfl] at this⟩
            case measure => simp [intOf]; omega
          · gi_wp2
            go_roundw
            case rel => exact ⟨q + 1, acc, _, ⟨by omega, by omega⟩, by go_num, rfl, HMP.out, fun z => (by
              have := HCS.out z
              by_cases hz : z = y
              · subst hz; rw [if_pos rfl, this, if_pos rfl, HTT.out]; omega
              · rw [if_neg hz, this, if_neg (fun e => hz e.symm), hf.out z]; omega), HG4.out, by have := HLA.out; rwa [if_neg hy1] at this⟩
            case measure => simp [intOf]; omega
        · have hqe : n' ≤ q := by omega
          have hla2 := hla.out
          rw [List.drop_of_length_le (by rw [HLN.out]; exact hqe), lastM] at hla2
          have hf2 := hf.out 2
          have hf1 := hf.out 1
          rw [List.take_of_length_le (by rw [HLN.out]; exact hqe)] at hf1 hf2
          have b1 : bx.count 1 ≤ n' := by have := List.count_le_length (a := (1 : Int)) (l := bx); rw [HLN.out] at this; exact this
          have b2' : bx.count 2 ≤ n' := by have := List.count_le_length (a := (2 : Int)) (l := bx); rw [HLN.out] at this; exact this
          have hcla := class_any wr W''.heap.size q f hmp.out (by omega) (by omega) (by omega)
          rw [hf1, hf2] at hcla
          have HCL := Lib.hid hcla
          have HF1 := Lib.hid hf1
          have HF2 := Lib.hid hf2
          have HLA := Lib.hid hla2
          have t1 := hg3.out.cell y1 (by have := HSZ.out; simp; omega)
          have t3 := hg3.out.cell y3 (by have := HSZ.out; simp; omega)
          rw [← hla2] at rg1 rg2
          have hI4 : Hid (RInv w w.heap.size s v1 v2 v1 v2 l1 l2 wr) := HI3.out.grown hg3.out (by have := hs3.out; omega) (fun k e => by cases e; have := HSZ.out; omega) (fun k e => by
            cases e
            exact ⟨fun e => by have := (HINV2.out.2.1.1.lt _ e).2; omega, fun e => by have := (HINV2.out.2.1.2.lt _ e).2; omega⟩)
          have hK4 : Hid (KeepsTo s [w.heap.size + 1, w.heap.size + 1 + 1] W'' wr) := HK3.out.grown (by have := hs3.out; have := HSZ.out; omega) hg3.out (fun k e => by cases e; have := HSZ.out; right; omega)
          have hsr : s ≤ wr.heap.size := by have := hg3.out.size; have := hs3.out; have := HSZ.out; omega
          clear y1 y3
          clear hcla hf1 hf2 hla2
          generalize hcm : classM (bx.count 2) (bx.count 1) = cm at *
          have HCM := Lib.hid hcm
          clear hcm
          by_cases hcz : cm = 0
          · subst hcz
            gi_wp2_with (refine ⟨trivial, ?_⟩; gi_at_call 22; refine ((callsIn_wide.2 HCL.out).inRound l).mono ?_; rintro e w5 ⟨rfl, rfl⟩)
            have hrow : ∀ b, b ≤ w.heap.size + 1 + 1 → b ∉ v1.ownBlock.toList ++ v2.ownBlock.toList := fun b hb hm => by
              rcases List.mem_append.1 hm with hm | hm
              · have := (hI4.out.2.1.1.lt b (by simpa using hm)).1; omega
              · have := (hI4.out.2.1.2.lt b (by simpa using hm)).1; omega
            have r1 := stays_m (hrow _ (by omega)) hI4.out.1.1.1
            have r2 := stays_m (hrow _ (Nat.le_refl _)) hI4.out.1.2.1
            refine region_E_np (v1.ownBlock.toList ++ v2.ownBlock.toList) 8 (by kernel_rfl) (by kernel_rfl) ?_
            refine E_read 0 (by kernel_rfl) rfl rfl ?_ np_panic ?_; (focus (first | exact wanted_none rfl | (refine wanted_yes rfl ?_; (focus (simp [yielded]; done))))); apply Exists.intro; refine ⟨fun w' hk Z hZ => ?_, ?_⟩; (focus (simp only [execOp]; (repeat conv in Act.eval _ _ => whnf); (try go_simp); exact hZ)); (try simp only [Act.put, List.setIfInBounds_toArray, List.set_cons_succ, List.set_cons_zero])
            refine E_read 1 (by kernel_rfl) rfl rfl ?_ np_panic ?_; (focus (first | exact wanted_none rfl | (refine wanted_yes rfl ?_; (focus (simp [yielded]; done))))); apply Exists.intro; refine ⟨fun w' hk Z hZ => ?_, ?_⟩; (focus (simp only [execOp]; (repeat conv in Act.eval _ _ => whnf); (try go_simp); exact hZ)); (try simp only [Act.put, List.setIfInBounds_toArray, List.set_cons_succ, List.set_cons_zero])
            refine E_read 4 (by kernel_rfl) rfl rfl ?_ np_panic ?_; (focus (first | exact wanted_none rfl | (refine wanted_yes rfl ?_; (focus (simp [yielded]; done))))); apply Exists.intro; refine ⟨fun w' hk Z hZ => ?_, ?_⟩; (focus (simp only [execOp]; (repeat conv in Act.eval _ _ => whnf); (try go_simp); exact hZ)); (try simp only [Act.put, List.setIfInBounds_toArray, List.set_cons_succ, List.set_cons_zero])
            refine E_read 5 (by kernel_rfl) rfl rfl ?_ np_panic ?_; (focus (first | exact wanted_none rfl | (refine wanted_yes rfl ?_; (focus (simp [yielded]; done))))); apply Exists.intro; refine ⟨fun w' hk Z hZ => ?_, ?_⟩; (focus (simp only [execOp]; (repeat conv in Act.eval _ _ => whnf); (try go_simp); exact hZ)); (try simp only [Act.put, List.setIfInBounds_toArray, List.set_cons_succ, List.set_cons_zero])
            clear r1 r2
            refine E_all 2 [6] (by kernel_rfl) (AllE_cons (by decide) rfl ?_ (fun K hK => ?_) (AllE_cons (by decide) rfl ?_ (fun K hK => ?_) AllE_nil))
            · (first | exact wanted_none rfl | (refine wanted_yes rfl ?_; (focus (simp [yielded]; done))))
            · gi_wp2
              refine ⟨((Keeps.refl _ _).alloc _).drew.drewL, ?_⟩
              obtain ⟨W1, hW1⟩ : ∃ W1 : World, wr.alloc (.cells #[.int .i64 ((lo : Int) + ((acc : Nat) : Int) * st)] 3) = W1 := ⟨_, rfl⟩
              rw [hW1]
              have iv1 := Lib.hid ((hI4.out).alloc (by omega) (.cells #[.int .i64 ((lo : Int) + ((acc : Nat) : Int) * st)] 3))
              have kt1 := Lib.hid ((hK4.out).alloc hsr (.cells #[.int .i64 ((lo : Int) + ((acc : Nat) : Int) * st)] 3))
              have sz1 : s ≤ (wr.alloc (.cells #[.int .i64 ((lo : Int) + ((acc : Nat) : Int) * st)] 3)).heap.size := by rw [World.size_alloc]; omega
              have lt1 : wr.heap.size < (wr.alloc (.cells #[.int .i64 ((lo : Int) + ((acc : Nat) : Int) * st)] 3)).heap.size := by rw [World.size_alloc]; omega
              have ce1 : (wr.alloc (.cells #[.int .i64 ((lo : Int) + ((acc : Nat) : Int) * st)] 3)).cell? ⟨wr.heap.size, 0, none⟩ = some (.int .i64 ((lo : Int) + ((acc : Nat) : Int) * st)) := by simp [go_sem]
              rw [hW1] at iv1 kt1 sz1 lt1 ce1
              clear hW1
              refine E_all 3 [6] (by kernel_rfl) (AllE_cons (by decide) rfl ?_ (fun K hK => ?_) (AllE_cons (by decide) rfl ?_ (fun K hK => ?_) AllE_nil))
              · (first | exact wanted_none rfl | (refine wanted_yes rfl ?_; (focus (simp [yielded]; done))))
              · obtain ⟨va2, W2, hr2, hi2, hg2, hl2, hd2, ga2, ca2, hv2⟩ := (iv1.out).drew.app1 (HDIS.out) sz1 (by omega) (by omega) (wr.heap.size) ((lo : Int) + ((acc : Nat) : Int) * st) (by exact ce1)
                subst hv2
                have iv2 := Lib.hid hi2
                have hgh2 := Lib.hid hg2
                have dd2 := Lib.hid hd2
                have kt2 := Lib.hid (KeepsTo.grown ((kt1.out).drew) (sz1) hg2 (fun k e => .inr (hl2 k e)))
                have sz2 : s ≤ W2.heap.size := Nat.le_trans sz1 hg2.size
                have hlh2 := Lib.hid hl2
                clear hi2 hg2 hl2 hd2
                refine wpIn_append _ _ _ rfl rfl rfl hr2 (hK _ _ ⟨?_, ?_⟩)
                · exact (Keeps.refl _ _).grown hgh2.out (fun k e => .inl (by rw [e]; simp))
                (try simp only [Act.put, List.setIfInBounds_toArray, List.set_cons_succ, List.set_cons_zero])
                refine E_all 6 [] (by kernel_rfl) (AllE_cons (by decide) rfl ?_ (fun K hK => ?_) AllE_nil); (focus (first | exact wanted_none rfl | (refine wanted_yes rfl ?_; (focus (simp [yielded]; done))))); gi_wp2
                refine ⟨(Keeps.refl _ _).alloc _, ?_⟩
                obtain ⟨W3, hW3⟩ : ∃ W3 : World, W2.alloc (.cells #[.int .i64 (0)] 3) = W3 := ⟨_, rfl⟩
                rw [hW3]
                have iv3 := Lib.hid ((iv2.out).alloc (by omega) (.cells #[.int .i64 (0)] 3))
                have kt3 := Lib.hid ((kt2.out).alloc sz2 (.cells #[.int .i64 (0)] 3))
                have sz3 : s ≤ (W2.alloc (.cells #[.int .i64 (0)] 3)).heap.size := by rw [World.size_alloc]; omega
                have lt3 : W2.heap.size < (W2.alloc (.cells #[.int .i64 (0)] 3)).heap.size := by rw [World.size_alloc]; omega
                have ce3 : (W2.alloc (.cells #[.int .i64 (0)] 3)).cell? ⟨W2.heap.size, 0, none⟩ = some (.int .i64 (0)) := by simp [go_sem]
                rw [hW3] at iv3 kt3 sz3 lt3 ce3
                clear hW3
                obtain ⟨va4, W4, hr4, hi4, hg4, hl4, hd4, ga4, ca4, hv4⟩ := (iv3.out).app2 (dd2.out) sz3 (by omega) (by omega) (W2.heap.size) (0) (by exact ce3)
                subst hv4
                have iv4 := Lib.hid hi4
                have hgh4 := Lib.hid hg4
                have dd4 := Lib.hid hd4
                have kt4 := Lib.hid (KeepsTo.grown ((kt3.out)) (sz3) hg4 (fun k e => .inr (hl4 k e)))
                have sz4 : s ≤ W4.heap.size := Nat.le_trans sz3 hg4.size
                have hlh4 := Lib.hid hl4
                clear hi4 hg4 hl4 hd4
                refine E_all 7 [] (by kernel_rfl) (AllE_cons (by decide) rfl ?_ (fun K hK => ?_) AllE_nil); (focus (first | exact wanted_none rfl | (refine wanted_yes rfl ?_; (focus (simp [yielded]; done))))); refine wpIn_append _ _ _ rfl rfl rfl hr4 (hK _ _ ⟨?_, ?_⟩)
                · exact (Keeps.refl _ _).grown hgh4.out (fun k e => .inl (by rw [e]; simp))
                (try simp only [Act.put, List.setIfInBounds_toArray, List.set_cons_succ, List.set_cons_zero])
                refine E_nil 2 (by kernel_rfl) rfl ?_
                have fa := (iv4.out).1.1.1
                have fb := (iv4.out).1.1.2
                have fc := (iv4.out).1.2.1
                have fd := (iv4.out).1.2.2
                refine tail_step fun K hK => ?_; refine tailStep_op rfl ?_ (fun K' hK' => ?_); (focus (first | exact wanted_none rfl | (refine wanted_yes rfl ?_; (focus (simp [yielded]; done))))); gi_wp2
                refine tail_step fun K hK => ?_; refine tailStep_op rfl ?_ (fun K' hK' => ?_); (focus (first | exact wanted_none rfl | (refine wanted_yes rfl ?_; (focus (simp [yielded]; done))))); gi_wp2
                refine tail_nil _ ?_
                simp only [npost]
                gi_wp2
                refine ⟨((kt4.out).setCell (p := ⟨w.heap.size + 1, 0, none⟩) (.inl (by simp)) _).setCell (p := ⟨w.heap.size + 1 + 1, 0, none⟩) (.inl (by simp)) _, k' + 1, .slice (some ⟨ga2, 0, none⟩) (l1.length + 1) ca2, .slice (some ⟨ga4, 0, none⟩) (l2.length + 1) ca4, ⟨by omega, HR'.out, dd4.out⟩, ?_⟩
                rw [HT1.out, HT2.out]
                have hmk : (oneM ⟨s0, lo, hi, st, how, tr, rv⟩ bx).1 = lo + ↑acc * st ∧ (oneM ⟨s0, lo, hi, st, how, tr, rv⟩ bx).2 = 0 := by simp [oneM, HCM.out, HLA.out]
                rw [hmk.1, hmk.2]
                exact ((iv4.out).set1 (by omega) _).set2 (by omega) _
              · (first | exact wanted_none rfl | (refine wanted_yes rfl ?_; (focus (simp [yielded]; done))))
              · gi_wp2
                refine ⟨((Keeps.refl _ _).alloc _).drew.drewL, ?_⟩
                obtain ⟨W2, hW2⟩ : ∃ W2 : World, W1.alloc (.cells #[.int .i64 (0)] 3) = W2 := ⟨_, rfl⟩
                rw [hW2]
                have iv2 := Lib.hid ((iv1.out).alloc (by omega) (.cells #[.int .i64 (0)] 3))
                have kt2 := Lib.hid ((kt1.out).alloc sz1 (.cells #[.int .i64 (0)] 3))
                have sz2 : s ≤ (W1.alloc (.cells #[.int .i64 (0)] 3)).heap.size := by rw [World.size_alloc]; omega
                have lt2 : W1.heap.size < (W1.alloc (.cells #[.int .i64 (0)] 3)).heap.size := by rw [World.size_alloc]; omega
                have ce2 : (W1.alloc (.cells #[.int .i64 (0)] 3)).cell? ⟨W1.heap.size, 0, none⟩ = some (.int .i64 (0)) := by simp [go_sem]
                have cm2 := cell_al (.cells #[.int .i64 (0)] 3) ce1
                rw [hW2] at iv2 kt2 sz2 lt2 ce2 cm2
                clear hW2
                obtain ⟨va3, W3, hr3, hi3, hg3, hl3, hd3, ga3, ca3, hv3⟩ := (iv2.out).drew.app1 (HDIS.out) sz2 (by omega) (by omega) (wr.heap.size) ((lo : Int) + ((acc : Nat) : Int) * st) (by exact cm2)
                subst hv3
                have iv3 := Lib.hid hi3
                have hgh3 := Lib.hid hg3
                have dd3 := Lib.hid hd3
                have kt3 := Lib.hid (KeepsTo.grown ((kt2.out).drew) (sz2) hg3 (fun k e => .inr (hl3 k e)))
                have sz3 : s ≤ W3.heap.size := Nat.le_trans sz2 hg3.size
                have hlh3 := Lib.hid hl3
                clear hi3 hg3 hl3 hd3
                refine E_all 3 [] (by kernel_rfl) (AllE_cons (by decide) rfl ?_ (fun K hK => ?_) AllE_nil); (focus (first | exact wanted_none rfl | (refine wanted_yes rfl ?_; (focus (simp [yielded]; done))))); refine wpIn_append _ _ _ rfl rfl rfl hr3 (hK _ _ ⟨?_, ?_⟩)
                · exact (Keeps.refl _ _).grown hgh3.out (fun k e => .inl (by rw [e]; simp))
                (try simp only [Act.put, List.setIfInBounds_toArray, List.set_cons_succ, List.set_cons_zero])
                have cc3 := hgh3.out.cell (a := ⟨W1.heap.size, 0, none⟩) ce2 (fun e => by have := (hI4.out.2.1.1.lt _ e.symm).2; simp only at this; omega)
                obtain ⟨va4, W4, hr4, hi4, hg4, hl4, hd4, ga4, ca4, hv4⟩ := (iv3.out).app2 (dd3.out) sz3 (by omega) (by omega) (W1.heap.size) (0) (by exact cc3)
                subst hv4
                have iv4 := Lib.hid hi4
                have hgh4 := Lib.hid hg4
                have dd4 := Lib.hid hd4
                have kt4 := Lib.hid (KeepsTo.grown ((kt3.out)) (sz3) hg4 (fun k e => .inr (hl4 k e)))
                have sz4 : s ≤ W4.heap.size := Nat.le_trans sz3 hg4.size
                have hlh4 := Lib.hid hl4
                clear hi4 hg4 hl4 hd4
                refine E_all 7 [] (by kernel_rfl) (AllE_cons (by decide) rfl ?_ (fun K hK => ?_) AllE_nil); (focus (first | exact wanted_none rfl | (refine wanted_yes rfl ?_; (focus (simp [yielded]; done))))); refine wpIn_append _ _ _ rfl rfl rfl hr4 (hK _ _ ⟨?_, ?_⟩)
                · exact (Keeps.refl _ _).grown hgh4.out (fun k e => .inl (by rw [e]; simp))
                (try simp only [Act.put, List.setIfInBounds_toArray, List.set_cons_succ, List.set_cons_zero])
                refine E_nil 2 (by kernel_rfl) rfl ?_
                have fa := (iv4.out).1.1.1
                have fb := (iv4.out).1.1.2
                have fc := (iv4.out).1.2.1
                have fd := (iv4.out).1.2.2
                refine tail_step fun K hK => ?_; refine tailStep_op rfl ?_ (fun K' hK' => ?_); (focus (first | exact wanted_none rfl | (refine wanted_yes rfl ?_; (focus (simp [yielded]; done))))); gi_wp2
                refine tail_step fun K hK => ?_; refine tailStep_op rfl ?_ (fun K' hK' => ?_); (focus (first | exact wanted_none rfl | (refine wanted_yes rfl ?_; (focus (simp [yielded]; done))))); gi_wp2
                refine tail_nil _ ?_
                simp only [npost]
                gi_wp2
                refine ⟨((kt4.out).setCell (p := ⟨w.heap.size + 1, 0, none⟩) (.inl (by simp)) _).setCell (p := ⟨w.heap.size + 1 + 1, 0, none⟩) (.inl (by simp)) _, k' + 1, .slice (some ⟨ga3, 0, none⟩) (l1.length + 1) ca3, .slice (some ⟨ga4, 0, none⟩) (l2.length + 1) ca4, ⟨by omega, HR'.out, dd4.out⟩, ?_⟩
                rw [HT1.out, HT2.out]
                have hmk : (oneM ⟨s0, lo, hi, st, how, tr, rv⟩ bx).1 = lo + ↑acc * st ∧ (oneM ⟨s0, lo, hi, st, how, tr, rv⟩ bx).2 = 0 := by simp [oneM, HCM.out, HLA.out]
                rw [hmk.1, hmk.2]
                exact ((iv4.out).set1 (by omega) _).set2 (by omega) _
            · (first | exact wanted_none rfl | (refine wanted_yes rfl ?_; (focus (simp [yielded]; done))))
            · gi_wp2
              refine ⟨((Keeps.refl _ _).alloc _).drew.drewL, ?_⟩
              obtain ⟨W1, hW1⟩ : ∃ W1 : World, wr.alloc (.cells #[.int .i64 (0)] 3) = W1 := ⟨_, rfl⟩
              rw [hW1]
              have iv1 := Lib.hid ((hI4.out).alloc (by omega) (.cells #[.int .i64 (0)] 3))
              have kt1 := Lib.hid ((hK4.out).alloc hsr (.cells #[.int .i64 (0)] 3))
              have sz1 : s ≤ (wr.alloc (.cells #[.int .i64 (0)] 3)).heap.size := by rw [World.size_alloc]; omega
              have lt1 : wr.heap.size < (wr.alloc (.cells #[.int .i64 (0)] 3)).heap.size := by rw [World.size_alloc]; omega
              have ce1 : (wr.alloc (.cells #[.int .i64 (0)] 3)).cell? ⟨wr.heap.size, 0, none⟩ = some (.int .i64 (0)) := by simp [go_sem]
              rw [hW1] at iv1 kt1 sz1 lt1 ce1
              clear hW1
              refine E_all 2 [] (by kernel_rfl) (AllE_cons (by decide) rfl ?_ (fun K hK => ?_) AllE_nil); (focus (first | exact wanted_none rfl | (refine wanted_yes rfl ?_; (focus (simp [yielded]; done))))); gi_wp2
              refine ⟨((Keeps.refl _ _).alloc _).drew.drewL, ?_⟩
              obtain ⟨W2, hW2⟩ : ∃ W2 : World, W1.alloc (.cells #[.int .i64 ((lo : Int) + ((acc : Nat) : Int) * st)] 3) = W2 := ⟨_, rfl⟩
              rw [hW2]
              have iv2 := Lib.hid ((iv1.out).alloc (by omega) (.cells #[.int .i64 ((lo : Int) + ((acc : Nat) : Int) * st)] 3))
              have kt2 := Lib.hid ((kt1.out).alloc sz1 (.cells #[.int .i64 ((lo : Int) + ((acc : Nat) : Int) * st)] 3))
              have sz2 : s ≤ (W1.alloc (.cells #[.int .i64 ((lo : Int) + ((acc : Nat) : Int) * st)] 3)).heap.size := by rw [World.size_alloc]; omega
              have lt2 : W1.heap.size < (W1.alloc (.cells #[.int .i64 ((lo : Int) + ((acc : Nat) : Int) * st)] 3)).heap.size := by rw [World.size_alloc]; omega
              have ce2 : (W1.alloc (.cells #[.int .i64 ((lo : Int) + ((acc : Nat) : Int) * st)] 3)).cell? ⟨W1.heap.size, 0, none⟩ = some (.int .i64 ((lo : Int) + ((acc : Nat) : Int) * st)) := by simp [go_sem]
              have cc2 := cell_al (.cells #[.int .i64 ((lo : Int) + ((acc : Nat) : Int) * st)] 3) ce1
              rw [hW2] at iv2 kt2 sz2 lt2 ce2 cc2
              clear hW2
              obtain ⟨va3, W3, hr3, hi3, hg3, hl3, hd3, ga3, ca3, hv3⟩ := (iv2.out).drew.app1 (HDIS.out) sz2 (by omega) (by omega) (W1.heap.size) ((lo : Int) + ((acc : Nat) : Int) * st) (by exact ce2)
              subst hv3
              have iv3 := Lib.hid hi3
              have hgh3 := Lib.hid hg3
              have dd3 := Lib.hid hd3
              have kt3 := Lib.hid (KeepsTo.grown ((kt2.out).drew) (sz2) hg3 (fun k e => .inr (hl3 k e)))
              have sz3 : s ≤ W3.heap.size := Nat.le_trans sz2 hg3.size
              have hlh3 := Lib.hid hl3
              clear hi3 hg3 hl3 hd3
              refine E_all 3 [] (by kernel_rfl) (AllE_cons (by decide) rfl ?_ (fun K hK => ?_) AllE_nil); (focus (first | exact wanted_none rfl | (refine wanted_yes rfl ?_; (focus (simp [yielded]; done))))); refine wpIn_append _ _ _ rfl rfl rfl hr3 (hK _ _ ⟨?_, ?_⟩)
              · exact (Keeps.refl _ _).grown hgh3.out (fun k e => .inl (by rw [e]; simp))
              (try simp only [Act.put, List.setIfInBounds_toArray, List.set_cons_succ, List.set_cons_zero])
              have cc3 := hgh3.out.cell (a := ⟨wr.heap.size, 0, none⟩) cc2 (fun e => by have := (hI4.out.2.1.1.lt _ e.symm).2; simp only at this; omega)
              obtain ⟨va4, W4, hr4, hi4, hg4, hl4, hd4, ga4, ca4, hv4⟩ := (iv3.out).app2 (dd3.out) sz3 (by omega) (by omega) (wr.heap.size) (0) (by exact cc3)
              subst hv4
              have iv4 := Lib.hid hi4
              have hgh4 := Lib.hid hg4
              have dd4 := Lib.hid hd4
              have kt4 := Lib.hid (KeepsTo.grown ((kt3.out)) (sz3) hg4 (fun k e => .inr (hl4 k e)))
              have sz4 : s ≤ W4.heap.size := Nat.le_trans sz3 hg4.size
              have hlh4 := Lib.hid hl4
              clear hi4 hg4 hl4 hd4
              refine E_all 7 [] (by kernel_rfl) (AllE_cons (by decide) rfl ?_ (fun K hK => ?_) AllE_nil); (focus (first | exact wanted_none rfl | (refine wanted_yes rfl ?_; (focus (simp [yielded]; done))))); refine wpIn_append _ _ _ rfl rfl rfl hr4 (hK _ _ ⟨?_, ?_⟩)
              · exact (Keeps.refl _ _).grown hgh4.out (fun k e => .inl (by rw [e]; simp))
              (try simp only [Act.put, List.setIfInBounds_toArray, List.set_cons_succ, List.set_cons_zero])
              refine E_nil 2 (by kernel_rfl) rfl ?_
              have fa := (iv4.out).1.1.1
              have fb := (iv4.out).1.1.2
              have fc := (iv4.out).1.2.1
              have fd := (iv4.out).1.2.2
              refine tail_step fun K hK => ?_; refine tailStep_op rfl ?_ (fun K' hK' => ?_); (focus (first | exact wanted_none rfl | (refine wanted_yes rfl ?_; (focus (simp [yielded]; done))))); gi_wp2
              refine tail_step fun K hK => ?_; refine tailStep_op rfl ?_ (fun K' hK' => ?_); (focus (first | exact wanted_none rfl | (refine wanted_yes rfl ?_; (focus (simp [yielded]; done))))); gi_wp2
              refine tail_nil _ ?_
              simp only [npost]
              gi_wp2
              refine ⟨((kt4.out).setCell (p := ⟨w.heap.size + 1, 0, none⟩) (.inl (by simp)) _).setCell (p := ⟨w.heap.size + 1 + 1, 0, none⟩) (.inl (by simp)) _, k' + 1, .slice (some ⟨ga3, 0, none⟩) (l1.length + 1) ca3, .slice (some ⟨ga4, 0, none⟩) (l2.length + 1) ca4, ⟨by omega, HR'.out, dd4.out⟩, ?_⟩
              rw [HT1.out, HT2.out]
              have hmk : (oneM ⟨s0, lo, hi, st, how, tr, rv⟩ bx).1 = lo + ↑acc * st ∧ (oneM ⟨s0, lo, hi, st, how, tr, rv⟩ bx).2 = 0 := by simp [oneM, HCM.out, HLA.out]
              rw [hmk.1, hmk.2]
              exact ((iv4.out).set1 (by omega) _).set2 (by omega) _
          · have hcz1 : (cm == 0) = false := by simpa using hcz
            gi_wp2_with (refine ⟨trivial, ?_⟩; gi_at_call 22; refine ((callsIn_wide.2 HCL.out).inRound l).mono ?_; rintro e w5 ⟨rfl, rfl⟩)
            have hrow : ∀ b, b ≤ w.heap.size + 1 + 1 → b ∉ v1.ownBlock.toList ++ v2.ownBlock.toList := fun b hb hm => by
              rcases List.mem_append.1 hm with hm | hm
              · have := (hI4.out.2.1.1.lt b (by simpa using hm)).1; omega
              · have := (hI4.out.2.1.2.lt b (by simpa using hm)).1; omega
            have r1 := stays_m (hrow _ (by omega)) hI4.out.1.1.1
            have r2 := stays_m (hrow _ (Nat.le_refl _)) hI4.out.1.2.1
            refine region_E_np (v1.ownBlock.toList ++ v2.ownBlock.toList) 8 (by kernel_rfl) (by kernel_rfl) ?_
            refine E_read 0 (by kernel_rfl) rfl rfl ?_ np_panic ?_; (focus (first | exact wanted_none rfl | (refine wanted_yes rfl ?_; (focus (simp [yielded]; done))))); apply Exists.intro; refine ⟨fun w' hk Z hZ => ?_, ?_⟩; (focus (simp only [execOp]; (repeat conv in Act.eval _ _ => whnf); (try go_simp); exact hZ)); (try simp only [Act.put, List.setIfInBounds_toArray, List.set_cons_succ, List.set_cons_zero])
            refine E_read 1 (by kernel_rfl) rfl rfl ?_ np_panic ?_; (focus (first | exact wanted_none rfl | (refine wanted_yes rfl ?_; (focus (simp [yielded]; done))))); apply Exists.intro; refine ⟨fun w' hk Z hZ => ?_, ?_⟩; (focus (simp only [execOp]; (repeat conv in Act.eval _ _ => whnf); (try go_simp); exact hZ)); (try simp only [Act.put, List.setIfInBounds_toArray, List.set_cons_succ, List.set_cons_zero])
            refine E_read 4 (by kernel_rfl) rfl rfl ?_ np_panic ?_; (focus (first | exact wanted_none rfl | (refine wanted_yes rfl ?_; (focus (simp [yielded]; done))))); apply Exists.intro; refine ⟨fun w' hk Z hZ => ?_, ?_⟩; (focus (simp only [execOp]; (repeat conv in Act.eval _ _ => whnf); (try go_simp); exact hZ)); (try simp only [Act.put, List.setIfInBounds_toArray, List.set_cons_succ, List.set_cons_zero])
            refine E_read 5 (by kernel_rfl) rfl rfl ?_ np_panic ?_; (focus (first | exact wanted_none rfl | (refine wanted_yes rfl ?_; (focus (simp [yielded]; done))))); apply Exists.intro; refine ⟨fun w' hk Z hZ => ?_, ?_⟩; (focus (simp only [execOp]; (repeat conv in Act.eval _ _ => whnf); (try go_simp); exact hZ)); (try simp only [Act.put, List.setIfInBounds_toArray, List.set_cons_succ, List.set_cons_zero])
            clear r1 r2
            refine E_all 2 [6] (by kernel_rfl) (AllE_cons (by decide) rfl ?_ (fun K hK => ?_) (AllE_cons (by decide) rfl ?_ (fun K hK => ?_) AllE_nil))
            · (first | exact wanted_none rfl | (refine wanted_yes rfl ?_; (focus (simp [yielded]; done))))
            · gi_wp2
              refine ⟨((Keeps.refl _ _).alloc _).drew.drewL, ?_⟩
              obtain ⟨W1, hW1⟩ : ∃ W1 : World, wr.alloc (.cells #[.int .i64 (-1)] 3) = W1 := ⟨_, rfl⟩
              rw [hW1]
              have iv1 := Lib.hid ((hI4.out).alloc (by omega) (.cells #[.int .i64 (-1)] 3))
              have kt1 := Lib.hid ((hK4.out).alloc hsr (.cells #[.int .i64 (-1)] 3))
              have sz1 : s ≤ (wr.alloc (.cells #[.int .i64 (-1)] 3)).heap.size := by rw [World.size_alloc]; omega
              have lt1 : wr.heap.size < (wr.alloc (.cells #[.int .i64 (-1)] 3)).heap.size := by rw [World.size_alloc]; omega
              have ce1 : (wr.alloc (.cells #[.int .i64 (-1)] 3)).cell? ⟨wr.heap.size, 0, none⟩ = some (.int .i64 (-1)) := by simp [go_sem]
              rw [hW1] at iv1 kt1 sz1 lt1 ce1
              clear hW1
              refine E_all 3 [6] (by kernel_rfl) (AllE_cons (by decide) rfl ?_ (fun K hK => ?_) (AllE_cons (by decide) rfl ?_ (fun K hK => ?_) AllE_nil))
              · (first | exact wanted_none rfl | (refine wanted_yes rfl ?_; (focus (simp [yielded]; done))))
              · obtain ⟨va2, W2, hr2, hi2, hg2, hl2, hd2, ga2, ca2, hv2⟩ := (iv1.out).drew.app1 (HDIS.out) sz1 (by omega) (by omega) (wr.heap.size) (-1) (by exact ce1)
                subst hv2
                have iv2 := Lib.hid hi2
                have hgh2 := Lib.hid hg2
                have dd2 := Lib.hid hd2
                have kt2 := Lib.hid (KeepsTo.grown ((kt1.out).drew) (sz1) hg2 (fun k e => .inr (hl2 k e)))
                have sz2 : s ≤ W2.heap.size := Nat.le_trans sz1 hg2.size
                have hlh2 := Lib.hid hl2
                clear hi2 hg2 hl2 hd2
                refine wpIn_append _ _ _ rfl rfl rfl hr2 (hK _ _ ⟨?_, ?_⟩)
                · exact (Keeps.refl _ _).grown hgh2.out (fun k e => .inl (by rw [e]; simp))
                (try simp only [Act.put, List.setIfInBounds_toArray, List.set_cons_succ, List.set_cons_zero])
                refine E_all 6 [] (by kernel_rfl) (AllE_cons (by decide) rfl ?_ (fun K hK => ?_) AllE_nil); (focus (first | exact wanted_none rfl | (refine wanted_yes rfl ?_; (focus (simp [yielded]; done))))); gi_wp2
                refine ⟨(Keeps.refl _ _).alloc _, ?_⟩
                obtain ⟨W3, hW3⟩ : ∃ W3 : World, W2.alloc (.cells #[.int .i64 (cm)] 3) = W3 := ⟨_, rfl⟩
                rw [hW3]
                have iv3 := Lib.hid ((iv2.out).alloc (by omega) (.cells #[.int .i64 (cm)] 3))
                have kt3 := Lib.hid ((kt2.out).alloc sz2 (.cells #[.int .i64 (cm)] 3))
                have sz3 : s ≤ (W2.alloc (.cells #[.int .i64 (cm)] 3)).heap.size := by rw [World.size_alloc]; omega
                have lt3 : W2.heap.size < (W2.alloc (.cells #[.int .i64 (cm)] 3)).heap.size := by rw [World.size_alloc]; omega
                have ce3 : (W2.alloc (.cells #[.int .i64 (cm)] 3)).cell? ⟨W2.heap.size, 0, none⟩ = some (.int .i64 (cm)) := by simp [go_sem]
                rw [hW3] at iv3 kt3 sz3 lt3 ce3
                clear hW3
                obtain ⟨va4, W4, hr4, hi4, hg4, hl4, hd4, ga4, ca4, hv4⟩ := (iv3.out).app2 (dd2.out) sz3 (by omega) (by omega) (W2.heap.size) (cm) (by exact ce3)
                subst hv4
                have iv4 := Lib.hid hi4
                have hgh4 := Lib.hid hg4
                have dd4 := Lib.hid hd4
                have kt4 := Lib.hid (KeepsTo.grown ((kt3.out)) (sz3) hg4 (fun k e => .inr (hl4 k e)))
                have sz4 : s ≤ W4.heap.size := Nat.le_trans sz3 hg4.size
                have hlh4 := Lib.hid hl4
                clear hi4 hg4 hl4 hd4
                refine E_all 7 [] (by kernel_rfl) (AllE_cons (by decide) rfl ?_ (fun K hK => ?_) AllE_nil); (focus (first | exact wanted_none rfl | (refine wanted_yes rfl ?_; (focus (simp [yielded]; done))))); refine wpIn_append _ _ _ rfl rfl rfl hr4 (hK _ _ ⟨?_, ?_⟩)
                · exact (Keeps.refl _ _).grown hgh4.out (fun k e => .inl (by rw [e]; simp))
                (try simp only [Act.put, List.setIfInBounds_toArray, List.set_cons_succ, List.set_cons_zero])
                refine E_nil 2 (by kernel_rfl) rfl ?_
                have fa := (iv4.out).1.1.1
                have fb := (iv4.out).1.1.2
                have fc := (iv4.out).1.2.1
                have fd := (iv4.out).1.2.2
                refine tail_step fun K hK => ?_; refine tailStep_op rfl ?_ (fun K' hK' => ?_); (focus (first | exact wanted_none rfl | (refine wanted_yes rfl ?_; (focus (simp [yielded]; done))))); gi_wp2
                refine tail_step fun K hK => ?_; refine tailStep_op rfl ?_ (fun K' hK' => ?_); (focus (first | exact wanted_none rfl | (refine wanted_yes rfl ?_; (focus (simp [yielded]; done))))); gi_wp2
                refine tail_nil _ ?_
                simp only [npost]
                gi_wp2
                refine ⟨((kt4.out).setCell (p := ⟨w.heap.size + 1, 0, none⟩) (.inl (by simp)) _).setCell (p := ⟨w.heap.size + 1 + 1, 0, none⟩) (.inl (by simp)) _, k' + 1, .slice (some ⟨ga2, 0, none⟩) (l1.length + 1) ca2, .slice (some ⟨ga4, 0, none⟩) (l2.length + 1) ca4, ⟨by omega, HR'.out, dd4.out⟩, ?_⟩
                rw [HT1.out, HT2.out]
                have hmk : (oneM ⟨s0, lo, hi, st, how, tr, rv⟩ bx).1 = -1 ∧ (oneM ⟨s0, lo, hi, st, how, tr, rv⟩ bx).2 = cm := by simp [oneM, HCM.out, hcz]
                rw [hmk.1, hmk.2]
                exact ((iv4.out).set1 (by omega) _).set2 (by omega) _
              · (first | exact wanted_none rfl | (refine wanted_yes rfl ?_; (focus (simp [yielded]; done))))
              · gi_wp2
                refine ⟨((Keeps.refl _ _).alloc _).drew.drewL, ?_⟩
                obtain ⟨W2, hW2⟩ : ∃ W2 : World, W1.alloc (.cells #[.int .i64 (cm)] 3) = W2 := ⟨_, rfl⟩
                rw [hW2]
                have iv2 := Lib.hid ((iv1.out).alloc (by omega) (.cells #[.int .i64 (cm)] 3))
                have kt2 := Lib.hid ((kt1.out).alloc sz1 (.cells #[.int .i64 (cm)] 3))
                have sz2 : s ≤ (W1.alloc (.cells #[.int .i64 (cm)] 3)).heap.size := by rw [World.size_alloc]; omega
                have lt2 : W1.heap.size < (W1.alloc (.cells #[.int .i64 (cm)] 3)).heap.size := by rw [World.size_alloc]; omega
                have ce2 : (W1.alloc (.cells #[.int .i64 (cm)] 3)).cell? ⟨W1.heap.size, 0, none⟩ = some (.int .i64 (cm)) := by simp [go_sem]
                have cm2 := cell_al (.cells #[.int .i64 (cm)] 3) ce1
                rw [hW2] at iv2 kt2 sz2 lt2 ce2 cm2
                clear hW2
                obtain ⟨va3, W3, hr3, hi3, hg3, hl3, hd3, ga3, ca3, hv3⟩ := (iv2.out).drew.app1 (HDIS.out) sz2 (by omega) (by omega) (wr.heap.size) (-1) (by exact cm2)
                subst hv3
                have iv3 := Lib.hid hi3
                have hgh3 := Lib.hid hg3
                have dd3 := Lib.hid hd3
                have kt3 := Lib.hid (KeepsTo.grown ((kt2.out).drew) (sz2) hg3 (fun k e => .inr (hl3 k e)))
                have sz3 : s ≤ W3.heap.size := Nat.le_trans sz2 hg3.size
                have hlh3 := Lib.hid hl3
                clear hi3 hg3 hl3 hd3
                refine E_all 3 [] (by kernel_rfl) (AllE_cons (by decide) rfl ?_ (fun K hK => ?_) AllE_nil); (focus (first | exact wanted_none rfl | (refine wanted_yes rfl ?_; (focus (simp [yielded]; done))))); refine wpIn_append _ _ _ rfl rfl rfl hr3 (hK _ _ ⟨?_, ?_⟩)
                · exact (Keeps.refl _ _).grown hgh3.out (fun k e => .inl (by rw [e]; simp))
                (try simp only [Act.put, List.setIfInBounds_toArray, List.set_cons_succ, List.set_cons_zero])
                have cc3 := hgh3.out.cell (a := ⟨W1.heap.size, 0, none⟩) ce2 (fun e => by have := (hI4.out.2.1.1.lt _ e.symm).2; simp only at this; omega)
                obtain ⟨va4, W4, hr4, hi4, hg4, hl4, hd4, ga4, ca4, hv4⟩ := (iv3.out).app2 (dd3.out) sz3 (by omega) (by omega) (W1.heap.size) (cm) (by exact cc3)
                subst hv4
                have iv4 := Lib.hid hi4
                have hgh4 := Lib.hid hg4
                have dd4 := Lib.hid hd4
                have kt4 := Lib.hid (KeepsTo.grown ((kt3.out)) (sz3) hg4 (fun k e => .inr (hl4 k e)))
                have sz4 : s ≤ W4.heap.size := Nat.le_trans sz3 hg4.size
                have hlh4 := Lib.hid hl4
                clear hi4 hg4 hl4 hd4
                refine E_all 7 [] (by kernel_rfl) (AllE_cons (by decide) rfl ?_ (fun K hK => ?_) AllE_nil); (focus (first | exact wanted_none rfl | (refine wanted_yes rfl ?_; (focus (simp [yielded]; done))))); refine wpIn_append _ _ _ rfl rfl rfl hr4 (hK _ _ ⟨?_, ?_⟩)
                · exact (Keeps.refl _ _).grown hgh4.out (fun k e => .inl (by rw [e]; simp))
                (try simp only [Act.put, List.setIfInBounds_toArray, List.set_cons_succ, List.set_cons_zero])
                refine E_nil 2 (by kernel_rfl) rfl ?_
                have fa := (iv4.out).1.1.1
                have fb := (iv4.out).1.1.2
                have fc := (iv4.out).1.2.1
                have fd := (iv4.out).1.2.2
                refine tail_step fun K hK => ?_; refine tailStep_op rfl ?_ (fun K' hK' => ?_); (focus (first | exact wanted_none rfl | (refine wanted_yes rfl ?_; (focus (simp [yielded]; done))))); gi_wp2
                refine tail_step fun K hK => ?_; refine tailStep_op rfl ?_ (fun K' hK' => ?_); (focus (first | exact wanted_none rfl | (refine wanted_yes rfl ?_; (focus (simp [yielded]; done))))); gi_wp2
                refine tail_nil _ ?_
                simp only [npost]
                gi_wp2
                refine ⟨((kt4.out).setCell (p := ⟨w.heap.size + 1, 0, none⟩) (.inl (by simp)) _).setCell (p := ⟨w.heap.size + 1 + 1, 0, none⟩) (.inl (by simp)) _, k' + 1, .slice (some ⟨ga3, 0, none⟩) (l1.length + 1) ca3, .slice (some ⟨ga4, 0, none⟩) (l2.length + 1) ca4, ⟨by omega, HR'.out, dd4.out⟩, ?_⟩
                rw [HT1.out, HT2.out]
                have hmk : (oneM ⟨s0, lo, hi, st, how, tr, rv⟩ bx).1 = -1 ∧ (oneM ⟨s0, lo, hi, st, how, tr, rv⟩ bx).2 = cm := by simp [oneM, HCM.out, hcz]
                rw [hmk.1, hmk.2]
                exact ((iv4.out).set1 (by omega) _).set2 (by omega) _
            · (first | exact wanted_none rfl | (refine wanted_yes rfl ?_; (focus (simp [yielded]; done))))
            · gi_wp2
              refine ⟨((Keeps.refl _ _).alloc _).drew.drewL, ?_⟩
              obtain ⟨W1, hW1⟩ : ∃ W1 : World, wr.alloc (.cells #[.int .i64 (cm)] 3) = W1 := ⟨_, rfl⟩
              rw [hW1]
              have iv1 := Lib.hid ((hI4.out).alloc (by omega) (.cells #[.int .i64 (cm)] 3))
              have kt1 := Lib.hid ((hK4.out).alloc hsr (.cells #[.int .i64 (cm)] 3))
              have sz1 : s ≤ (wr.alloc (.cells #[.int .i64 (cm)] 3)).heap.size := by rw [World.size_alloc]; omega
              have lt1 : wr.heap.size < (wr.alloc (.cells #[.int .i64 (cm)] 3)).heap.size := by rw [World.size_alloc]; omega
              have ce1 : (wr.alloc (.cells #[.int .i64 (cm)] 3)).cell? ⟨wr.heap.size, 0, none⟩ = some (.int .i64 (cm)) := by simp [go_sem]
              rw [hW1] at iv1 kt1 sz1 lt1 ce1
              clear hW1
              refine E_all 2 [] (by kernel_rfl) (AllE_cons (by decide) rfl ?_ (fun K hK => ?_) AllE_nil); (focus (first | exact wanted_none rfl | (refine wanted_yes rfl ?_; (focus (simp [yielded]; done))))); gi_wp2
              refine ⟨((Keeps.refl _ _).alloc _).drew.drewL, ?_⟩
              obtain ⟨W2, hW2⟩ : ∃ W2 : World, W1.alloc (.cells #[.int .i64 (-1)] 3) = W2 := ⟨_, rfl⟩
              rw [hW2]
              have iv2 := Lib.hid ((iv1.out).alloc (by omega) (.cells #[.int .i64 (-1)] 3))
              have kt2 := Lib.hid ((kt1.out).alloc sz1 (.cells #[.int .i64 (-1)] 3))
              have sz2 : s ≤ (W1.alloc (.cells #[.int .i64 (-1)] 3)).heap.size := by rw [World.size_alloc]; omega
              have lt2 : W1.heap.size < (W1.alloc (.cells #[.int .i64 (-1)] 3)).heap.size := by rw [World.size_alloc]; omega
              have ce2 : (W1.alloc (.cells #[.int .i64 (-1)] 3)).cell? ⟨W1.heap.size, 0, none⟩ = some (.int .i64 (-1)) := by simp [go_sem]
              have cc2 := cell_al (.cells #[.int .i64 (-1)] 3) ce1
              rw [hW2] at iv2 kt2 sz2 lt2 ce2 cc2
              clear hW2
              obtain ⟨va3, W3, hr3, hi3, hg3, hl3, hd3, ga3, ca3, hv3⟩ := (iv2.out).drew.app1 (HDIS.out) sz2 (by omega) (by omega) (W1.heap.size) (-1) (by exact ce2)
              subst hv3
              have iv3 := Lib.hid hi3
              have hgh3 := Lib.hid hg3
              have dd3 := Lib.hid hd3
              have kt3 := Lib.hid (KeepsTo.grown ((kt2.out).drew) (sz2) hg3 (fun k e => .inr (hl3 k e)))
              have sz3 : s ≤ W3.heap.size := Nat.le_trans sz2 hg3.size
              have hlh3 := Lib.hid hl3
              clear hi3 hg3 hl3 hd3
              refine E_all 3 [] (by kernel_rfl) (AllE_cons (by decide) rfl ?_ (fun K hK => ?_) AllE_nil); (focus (first | exact wanted_none rfl | (refine wanted_yes rfl ?_; (focus (simp [yielded]; done))))); refine wpIn_append _ _ _ rfl rfl rfl hr3 (hK _ _ ⟨?_, ?_⟩)
              · exact (Keeps.refl _ _).grown hgh3.out (fun k e => .inl (by rw [e]; simp))
              (try simp only [Act.put, List.setIfInBounds_toArray, List.set_cons_succ, List.set_cons_zero])
              have cc3 := hgh3.out.cell (a := ⟨wr.heap.size, 0, none⟩) cc2 (fun e => by have := (hI4.out.2.1.1.lt _ e.symm).2; simp only at this; omega)
              obtain ⟨va4, W4, hr4, hi4, hg4, hl4, hd4, ga4, ca4, hv4⟩ := (iv3.out).app2 (dd3.out) sz3 (by omega) (by omega) (wr.heap.size) (cm) (by exact cc3)
              subst hv4
              have iv4 := Lib.hid hi4
              have hgh4 := Lib.hid hg4
              have dd4 := Lib.hid hd4
              have kt4 := Lib.hid (KeepsTo.grown ((kt3.out)) (sz3) hg4 (fun k e => .inr (hl4 k e)))
              have sz4 : s ≤ W4.heap.size := Nat.le_trans sz3 hg4.size
              have hlh4 := Lib.hid hl4
              clear hi4 hg4 hl4 hd4
              refine E_all 7 [] (by kernel_rfl) (AllE_cons (by decide) rfl ?_ (fun K hK => ?_) AllE_nil); (focus (first | exact wanted_none rfl | (refine wanted_yes rfl ?_; (focus (simp [yielded]; done))))); refine wpIn_append _ _ _ rfl rfl rfl hr4 (hK _ _ ⟨?_, ?_⟩)
              · exact (Keeps.refl _ _).grown hgh4.out (fun k e => .inl (by rw [e]; simp))
              (try simp only [Act.put, List.setIfInBounds_toArray, List.set_cons_succ, List.set_cons_zero])
              refine E_nil 2 (by kernel_rfl) rfl ?_
              have fa := (iv4.out).1.1.1
              have fb := (iv4.out).1.1.2
              have fc := (iv4.out).1.2.1
              have fd := (iv4.out).1.2.2
              refine tail_step fun K hK => ?_; refine tailStep_op rfl ?_ (fun K' hK' => ?_); (focus (first | exact wanted_none rfl | (refine wanted_yes rfl ?_; (focus (simp [yielded]; done))))); gi_wp2
              refine tail_step fun K hK => ?_; refine tailStep_op rfl ?_ (fun K' hK' => ?_); (focus (first | exact wanted_none rfl | (refine wanted_yes rfl ?_; (focus (simp [yielded]; done))))); gi_wp2
              refine tail_nil _ ?_
              simp only [npost]
              gi_wp2
              refine ⟨((kt4.out).setCell (p := ⟨w.heap.size + 1, 0, none⟩) (.inl (by simp)) _).setCell (p := ⟨w.heap.size + 1 + 1, 0, none⟩) (.inl (by simp)) _, k' + 1, .slice (some ⟨ga3, 0, none⟩) (l1.length + 1) ca3, .slice (some ⟨ga4, 0, none⟩) (l2.length + 1) ca4, ⟨by omega, HR'.out, dd4.out⟩, ?_⟩
              rw [HT1.out, HT2.out]
              have hmk : (oneM ⟨s0, lo, hi, st, how, tr, rv⟩ bx).1 = -1 ∧ (oneM ⟨s0, lo, hi, st, how, tr, rv⟩ bx).2 = cm := by simp [oneM, HCM.out, hcz]
              rw [hmk.1, hmk.2]
              exact ((iv4.out).set1 (by omega) _).set2 (by omega) _
end Go.Proofs.Ythbbefkmnahnlaa
