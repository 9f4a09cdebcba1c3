/- Lemmas and walks (Ref3 Ref4). No statement is proved here. -/
import Derived.Test.YtboapndkopabiaaGreatM18
set_option linter.unusedVariables false
set_option linter.unusedSimpArgs false
namespace Go.Proofs.YtboapndkopabiaaGreat
section
open Go.RowKit Go.Shelf
attribute [local go_sem] Oper.semAt_some
theorem rdiv_start {a : List Nat} {V : Nat} {s m : Nat} (ha : Good a) (hm : BB ^ (m - 1) ≤ V) (hs : a.length < s + m) : DivI a (List.replicate a.length 0) V s (val (a.drop s)) := by
 refine ⟨?_, ?_, by simp, fun d hd => by rw [List.eq_of_mem_replicate hd]; decide⟩
 · have : val ((List.replicate a.length 0).drop s) = 0 := by rw [List.drop_replicate]; exact val_zeros _
   rw [this]; simp
 · have h1 := val_lt (a.drop s) (good_drop ha s)
   rw [List.length_drop] at h1; exact Nat.lt_of_lt_of_le h1 (Nat.le_trans (Nat.pow_le_pow_right BB_pos (by omega)) hm)
theorem dig_digit {d : Nat} (h0 : 0 < d) (h : d ≤ 1073741823) : dig d = [d] := by
 have h1 : d < BB := lt_BB h
 rw [dig_pos (by omega), Nat.mod_eq_of_lt h1, Nat.div_eq_of_lt h1, dig_zero]
theorem lit_digit {w : World} {M : List Nat} (hM : Bel M w) {d : Nat} (h0 : 0 < d) (h : d ≤ 1073741823) : Sl Int (w.alloc (.cells #[.int .i64 (d : Int)] 3)) M (some ⟨w.heap.size, 0, none⟩) 1 1 (ints (dig d)) := by
 rw [dig_digit h0 h]
 have hg : Good [d] := good_cons (lt_BB h) good_nil
 have hr : Row (w.alloc (.cells #[.int .i64 (d : Int)] 3)) w.heap.size (ints [d]) := heap_alloc_new w _
 exact hr.sl (fun e => by have := hM _ e; omega) rfl (by omega) (ints_i64 hg)
theorem int_info' : ∃ i, Tryz.prog.info? 3 = some i ∧ i.zero = some (.int .i64 0) ∧ i.size = 1 ∧ i.bytes = 8 := info_parts int_info
theorem app_ints {w : World} {M : List Nat} {base : Nat} {v : Value} {n m c : Nat} {xs ys : List Int} {A : Option Addr} (h : OwnS Int 3 w M base v n xs) (hb : base ≤ w.heap.size) (hM : ∀ k, k ∈ M → k < base) (hy : Sl Int w (ownL v ++ M) A m c ys) (hn : n + m ≤ 100000) :
 ∃ v' w', (Builtin.append_ #[27, 27] 27 #[v, .slice A m c]).run Tryz.prog w = .ok v' w' ∧ OwnS Int 3 w' M base v' (n + m) (xs ++ ys) ∧ w.grownBy w' v.ownBlock := by
 obtain ⟨i, h1, h2, h3, h4⟩ := int_info'
 obtain ⟨v', w', r1, r2, r3, -⟩ := h.append (ty := 27) hb Tryz.underlying27 h1 h2 h3 rfl hM hy (by rw [h4]; omega) (by omega)
 exact ⟨v', w', r1, r2, r3⟩
theorem own_lit {w : World} {M : List Nat} {base : Nat} (hb : base ≤ w.heap.size) {d : Int} (hd : i64 d) : OwnS Int 3 (w.alloc (.cells #[.int .i64 d] 3)) M base (.slice (some ⟨w.heap.size, 0, none⟩) 1 1) 1 [d] :=
 ⟨rfl, [.int .i64 d], World.ownsRow_lit (base := base) (size := 1) (e := 3) w #[.int .i64 d] 1 hb (by simp [maxLen]) rfl, fun k x hk => by
  match k, hk with
  | 0, hk => cases hk; exact ⟨_, ⟨rfl, hd⟩, fun j u hu => by match j, hu with | 0, hu => exact hu⟩⟩
theorem cons_run {W : World} {M : List Nat} (hM : Bel M W) {O : Option Addr} {nr cr d : Nat} {l : List Nat} (hd : d ≤ 1073741823) (hs : Sl Int W M O nr cr (ints l)) (hg : Good l) (hn : nr ≤ 5000) :
 ∃ O' n' c' W', (Builtin.append_ #[27, 27] 27 #[.slice (some ⟨W.heap.size, 0, none⟩) 1 1, .slice O nr cr]).run Tryz.prog (W.alloc (.cells #[.int .i64 (d : Int)] 3)) = .ok (.slice O' n' c') W' ∧
  Sl Int W' M O' n' c' (ints (d :: l)) ∧ Below W.heap.size W W' := by
 have o1 := own_lit (w := W) (M := M) (base := W.heap.size) (Nat.le_refl _) (BB_i64 (lt_BB hd))
 have hs2 := (hs.more (b := W.heap.size) (Nat.le_refl _)).keep (w' := W.alloc (.cells #[.int .i64 (d : Int)] 3)) (Keeps.of_below ((Below.refl W.heap.size W).alloc (Nat.le_refl _) _) _)
 obtain ⟨v', W', r1, r2, r3⟩ := app_ints o1 (by simp) hM hs2 (by omega)
 obtain ⟨A, c, rfl, hsl⟩ := r2.sl (by omega) hM
 refine ⟨A, _, c, W', r1, by simpa [ints] using hsl, ?_⟩
 exact (((Below.refl W.heap.size W).alloc (Nat.le_refl _) _).grown r3 (by simp) (fun k hk => by cases hk; exact Nat.le_refl _))
theorem copy_run {W : World} {M : List Nat} (hM : Bel M W) {O : Option Addr} {nr cr : Nat} {l : List Nat} (hs : Sl Int W M O nr cr (ints l)) (hn : nr ≤ 5000) :
 ∃ O' n' c' W', (Builtin.append_ #[27, 27] 27 #[.slice (some ⟨W.heap.size, 0, none⟩) 0 0, .slice O nr cr]).run Tryz.prog (W.alloc (.cells #[] 3)) = .ok (.slice O' n' c') W' ∧
  Sl Int W' M O' n' c' (ints l) ∧ Below W.heap.size W W' := by
 have o1 := OwnS.lit (α := Int) (e := 3) W M (base := W.heap.size) (Nat.le_refl _)
 have hs2 := (hs.more (b := W.heap.size) (Nat.le_refl _)).keep (w' := W.alloc (.cells #[] 3)) (Keeps.of_below ((Below.refl W.heap.size W).alloc (Nat.le_refl _) _) _)
 obtain ⟨v', W', r1, r2, r3⟩ := app_ints o1 (by simp) hM hs2 (by omega)
 obtain ⟨A, c, rfl, hsl⟩ := r2.sl (by omega) hM
 refine ⟨A, _, c, W', r1, by simpa using hsl, ?_⟩
 exact (((Below.refl W.heap.size W).alloc (Nat.le_refl _) _).grown r3 (by simp) (fun k hk => by cases hk; exact Nat.le_refl _))
theorem set_zero {q : List Nat} {j : Nat} (h : q[j]? = some 0) : q.set j 0 = q := by
 apply List.ext_getElem?
 intro i
 rw [List.getElem?_set]
 split
 · next e => subst e; rw [h]; simp [(List.getElem?_eq_some_iff.1 h).1]
 · rfl
theorem zeros_at {q : List Nat} {j k : Nat} (h : q.take k = List.replicate k 0) (hj : j < k) (hl : j < q.length) : q[j]? = some 0 := by
 have := congrArg (fun l => l[j]?) h
 simpa [hj] using this
theorem zeros_less {q : List Nat} {j k : Nat} (h : q.take k = List.replicate k 0) (hj : j ≤ k) : q.take j = List.replicate j 0 := by
 have := congrArg (List.take j) h
 rwa [List.take_take, Nat.min_eq_left hj, List.take_replicate, Nat.min_eq_left hj] at this
theorem zeros_set {q : List Nat} {j d : Nat} (h : q.take j = List.replicate j 0) : (q.set j d).take j = List.replicate j 0 := by
 rw [List.take_set_of_le (Nat.le_refl _)]; exact h
set_option maxRecDepth 100000 in
set_option maxHeartbeats 8000000 in
theorem rdivide_any {M : List Nat} {A B : Option Addr} {n c m d x y : Nat} {w : World} (hM : Bel M w) (hx : Sl Int w M A n c (ints (dig x))) (hy : Sl Int w M B m d (ints (dig y))) (hn : n ≤ 2048) (hm : m ≤ 2048) (hy0 : 0 < y) :
 Calls Tryz.prog 100 #[.slice A n c, .slice B m d] w (DR2 w M (x / y) (x % y)) := by
 refine wid ?_
 have hsA := hx.small
 have l1 := hx.dlen
 have l2 := hy.dlen
 have hm1 : 1 ≤ m := by
  rcases Nat.eq_zero_or_pos m with e | e
  · rw [e] at l2
    have := dig_nil.1 (List.length_eq_zero_iff.1 l2); omega
  · exact e
 have hV : BB ^ (m - 1) ≤ y := by
  have := val_ge (l := dig y) (fun e => by rw [e] at l2; simp at l2; omega) (topped_dig y)
  rwa [l2, val_dig] at this
 obtain ⟨s, hs⟩ : ∃ s, n + 1 - m = s := ⟨_, rfl⟩
 have hsn : s ≤ n := by omega
 have st := rdiv_start (V := y) (s := s) (m := m) (good_dig x) hV (by omega)
 rw [l1] at st
 have hmk := mk_ints (t := 27) Tryz.underlying27 n (by omega)
 obtain ⟨W1, hW1⟩ : ∃ W1 : World, w.alloc (.cells ((List.replicate n (0 : Int)).map (Value.int .i64)).toArray 3) = W1 := ⟨_, rfl⟩
 replace hmk := hmk w
 rw [hW1] at hmk
 have r1 : Row W1 w.heap.size (ints (List.replicate n 0)) := by rw [← hW1, ← ints_zeros]; exact Row.new _ w
 have b1 : Below w.heap.size w W1 := by rw [← hW1]; exact bel
 have s1 : W1.heap.size = w.heap.size + 1 := by rw [← hW1]; simp
 have hM1 : Bel (w.heap.size :: M) W1 := fun k hk => by
  rcases List.mem_cons.1 hk with rfl | hk
  · omega
  · have := hM k hk; omega
 have hx1 : Sl Int W1 (w.heap.size :: M) A n c (ints (dig x)) := (hx.more (Nat.le_refl _)).keep (Keeps.of_below b1 _)
 have hy1 : Sl Int W1 (w.heap.size :: M) B m d (ints (dig y)) := (hy.more (Nat.le_refl _)).keep (Keeps.of_below b1 _)
 have hcut := slice_from (t := 27) Tryz.underlying27 (sz := 1) (fun w => by kernel_rfl) A (n := n) (cp := c) (k := s) hsn
 have hsc := hx1.cut (k := s) hsn (sz := 1) rfl
 rw [ints_drop] at hsc
 obtain ⟨O3, n3, c3, W3, run3, hs3, hb3⟩ := copy_run hM1 hsc (by omega)
 rw [s1] at run3
 have RUN := Hd run3
 have H := Hd4 hx hy hM b1
 have L := Hd4 l1 l2 r1 st
 have S3 := Hd2 hs3 hb3
 clear hx hy hM hx1 hy1 hM1 b1 hW1 r1 st l1 l2 hsc run3 hs3 hb3 hV
 have hmx : max (0 : Int) ((n : Int) - (m : Int) + 1) = (s : Int) := by omega
 have HS := Hd hs
 clear hs
 refine ent Tryz.func100 rfl Tryz.ntmps100 ?_
 gi_wp2_with (first
  | (gi_at_builtin; refine wpListIn_plain rfl fun K hK' => ?_; refine wpIn_append _ _ _ rfl rfl rfl RUN.out (hK' _ _ ?_); clear hK' K)
  | (refine Cl 120 (trimR_any O3 n3 c3 ((dig x).drop s) _ S3.out.1 (good_drop (good_dig x) s)) ?_
     rintro e w4 ⟨q, rfl, hq, ht, hb4⟩; have T4 := Hd3 hq ht hb4
     clear hq ht hb4)
  | fail)
 have hI0 := L.out.2.2.2
 have hq0 : ∀ rr, rr < y → (dig rr).length ≤ m := fun rr h => by rw [← L.out.2.1]; exact dig_mono (Nat.le_of_lt h)
 have HQ0 := Hd hq0
 have b3 : Below w.heap.size w w4 := H.out.2.2.2.trans ((S3.out.2.trans (T4.out.2.2.mono S3.out.2.size)).mono (by omega))
 have hsl4 := (S3.out.1.go T4.out.2.2).cutTo T4.out.1
 rw [ints_take, T4.out.2.1] at hsl4
 have hlen4 : q ≤ m := by rw [← hsl4.dlen]; exact hq0 _ hI0.2.1
 have hrow4 : Row w4 w.heap.size (ints (List.replicate n 0)) := (L.out.2.2.1.go S3.out.2 (by omega)).go T4.out.2.2 (by have := S3.out.2.size; omega)
 have ST := Hd5 hI0 hsl4 hrow4 b3 (show w.heap.size < w4.heap.size by have := S3.out.2.size; have := T4.out.2.2.size; omega)
 clear hI0 hq0 b3 hsl4 hrow4 T4 S3 RUN hcut hmx hmk
 gi_wp2
 gi_loopw [8, 9] (fun r0 i wr => ∃ (k rr : Nat) (qs : List Nat) (O : Option Addr) (nr cr : Nat), k ≤ s ∧ i = .int .i64 ((k : Int) - 1) ∧ r0 = .slice O nr cr ∧ nr ≤ m ∧ Hid (DivI (dig x) qs y k rr ∧ qs.take k = List.replicate k 0) ∧ Hid (Sl Int wr (w.heap.size :: M) O nr cr (ints (dig rr))) ∧ Hid (Row wr w.heap.size (ints qs)) ∧ Below w.heap.size w wr ∧ w.heap.size < wr.heap.size) (fun _ i _ => (intOf i + 1).toNat)
 case atStart => exact ⟨s, _, _, O3, q, c3, Nat.le_refl _, rfl, rfl, hlen4, ⟨ST.out.1, by rw [List.take_replicate, Nat.min_eq_left hsn]⟩, ST.out.2.1, ST.out.2.2.1, ST.out.2.2.2⟩
 case round =>
  clear ST hlen4; obtain ⟨k, rr, qs, O, nr, cr, hk, rfl, rfl, hnr, hI, hR, hQ, hb, hsz⟩ := hrel
  rcases Nat.eq_zero_or_pos k with h0 | h0
  · subst h0
    have hdv := div_end hI.out.1; rw [val_dig] at hdv; have hg := hI.out.1.2.2.2; have hl := hI.out.1.2.2.1; rw [L.out.1] at hl
    have hbM : w.heap.size ∉ M := fun e => by have := H.out.2.2.1 _ e; omega
    have hsl := hQ.out.sl hbM (n := n) (by rw [ints_len]; exact hl) (by omega) (ints_i64 hg); have hrs := hR.out.less (M' := M) (fun g hg => List.mem_cons_of_mem _ hg); have HSL := Hd4 hsl hg hdv hrs; clear hsl hdv hg hl hbM hrs
    gi_wp2_with (refine Cl 120 (trimR_any _ _ _ qs _ HSL.out.1 HSL.out.2.1) ?_; rintro e w2 ⟨q2, rfl, hq, ht, hb2⟩; have HT := Hd3 ht hq hb2; clear ht hq hb2)
    go_ret2; have hs2 := (HSL.out.1.go HT.out.2.2).cutTo HT.out.2.1; rw [ints_take, HT.out.1, HSL.out.2.2.1.1] at hs2; have hs3 := HSL.out.2.2.2.go HT.out.2.2; rw [HSL.out.2.2.1.2] at hs3; exact ⟨_, q2, n, O, nr, cr, rfl, hs2, hs3, hb.trans (HT.out.2.2.mono (by omega))⟩
  · obtain ⟨j, rfl⟩ : ∃ j, k = j + 1 := ⟨k - 1, by omega⟩
    rw [show ((j + 1 : Nat) : Int) - 1 = (j : Int) by omega]; have hxr : Sl Int wr (w.heap.size :: M) A n c (ints (dig x)) := (H.out.1.more (Nat.le_refl _)).keep (Keeps.of_below hb _); have hyr : Sl Int wr (w.heap.size :: M) B m d (ints (dig y)) := (H.out.2.1.more (Nat.le_refl _)).keep (Keeps.of_below hb _)
    have hMr : Bel (w.heap.size :: M) wr := fun g hg => by
     rcases List.mem_cons.1 hg with rfl | hg
     · exact hsz
     · have := H.out.2.2.1 g hg; omega
    obtain ⟨b0, o0, dj, rfl, hc0, hd, hdj, hat⟩ := hxr.digd (good_dig x) (k := j) (by omega); obtain ⟨O5, n5, c5, W5, run5, hs5, hb5⟩ := cons_run hMr hd hR.out (good_dig rr) (by omega)
    obtain ⟨R', hR'⟩ : ∃ R', rr * BB + dj = R' := ⟨_, rfl⟩
    have hv5 : val (dj :: dig rr) = R' := by rw [val, val_dig, ← hR', Nat.mul_comm rr]; omega
    have hg5 : Good (dj :: dig rr) := good_cons (lt_BB hd) (good_dig rr); have hstep := div_step (good_dig x) hI.out.1 (show j < (dig x).length by rw [L.out.1]; omega); rw [hat, hR'] at hstep; have RUN5 := Hd run5; have S5 := Hd7 hs5 hb5 hv5 hg5 hyr hMr hstep; clear hxr hs5 hb5 hv5 hg5 run5 hyr hMr hstep hdj hat
    by_cases hlt : R' < y
    · have hcz := Hd (cmpZ_lt hlt)
      gi_wp2_with (first
       | (gi_at_builtin; refine wpListIn_plain rfl fun K hK' => ?_; refine wpIn_append _ _ _ rfl rfl rfl RUN5.out (hK' _ _ ?_); clear hK' K)
       | (refine ⟨trivial, ?_⟩; gi_at_call 102; have g := T6.out; clear g
          refine Cn (cmpR_any _ B _ c5 m d R' y _ T6.out.1 (S5.out.2.2.2.2.1.go T6.out.2)) ?_; rintro e w7 ⟨rfl, hb7⟩; rw [hcz.out]; have T7 := Hd2 (T6.out.1.go hb7) (T6.out.2.trans (hb7.mono T6.out.2.size))
          clear hb7)
       | (refine Cl 120 (trimR_any O5 n5 c5 (dj :: dig rr) _ S5.out.1 S5.out.2.2.2.1) ?_
          rintro e w6 ⟨q6, rfl, hq, ht, hb6⟩; have h6 := (S5.out.1.go hb6).cutTo hq; rw [ints_take, ht, S5.out.2.2.1] at h6; have T6 := Hd2 h6 (S5.out.2.1.trans (hb6.mono S5.out.2.1.size)); have T6q := Hd hq
          clear hq ht hb6 h6)
       | fail)
      have hdiv := S5.out.2.2.2.2.2.2.1; have hz : qs[j]? = some 0 := zeros_at hI.out.2 (Nat.lt_succ_self _) (by rw [hI.out.1.2.2.1, L.out.1]; omega); rw [Nat.div_eq_of_lt hlt, Nat.mod_eq_of_lt hlt, set_zero hz] at hdiv; have hbw : Below w.heap.size w w7 := hb.trans (T7.out.2.mono (by omega)); exact ⟨⟨j, R', qs, _, _, _, by omega, rfl, rfl, by rw [← T7.out.1.dlen]; exact HQ0.out _ hlt, ⟨hdiv, zeros_less hI.out.2 (by omega)⟩, T7.out.1, hQ.out.go T7.out.2 hsz, hbw, by have := T7.out.2.size; omega⟩, by simp [intOf]⟩
    · obtain ⟨cz, hcz0⟩ : ∃ cz, cmpZ R' y = cz := ⟨_, rfl⟩
      have hczn : ¬ cz < 0 := by
       rcases Nat.lt_or_ge y R' with h | h
       · rw [← hcz0, cmpZ_gt h]; decide
       · rw [← hcz0, cmpZ_eq (by omega)]; decide
      have hcz := Hd hcz0; clear hcz0
      gi_wp2_with (first
       | (gi_at_builtin; refine wpListIn_plain rfl fun K hK' => ?_; refine wpIn_append _ _ _ rfl rfl rfl RUN5.out (hK' _ _ ?_); clear hK' K)
       | (refine ⟨trivial, ?_⟩; gi_at_call 102; have g := T6.out; clear g
          refine Cn (cmpR_any _ B _ c5 m d R' y _ T6.out.1 (S5.out.2.2.2.2.1.go T6.out.2)) ?_; rintro e w7 ⟨rfl, hb7⟩; rw [hcz.out]; have T7 := Hd2 (T6.out.1.go hb7) (T6.out.2.trans (hb7.mono T6.out.2.size))
          clear hb7)
       | (refine Cl 120 (trimR_any O5 n5 c5 (dj :: dig rr) _ S5.out.1 S5.out.2.2.2.1) ?_
          rintro e w6 ⟨q6, rfl, hq, ht, hb6⟩; have h6 := (S5.out.1.go hb6).cutTo hq; rw [ints_take, ht, S5.out.2.2.1] at h6; have T6 := Hd2 h6 (S5.out.2.1.trans (hb6.mono S5.out.2.1.size)); have T6q := Hd hq
          clear hq ht hb6 h6)
       | fail)
      have hR1 : R' < (1073741823 + 1) * y := by
       have h1 := hI.out.1.2.1; have h2 : (rr + 1) * BB ≤ y * BB := Nat.mul_le_mul_right _ h1; rw [Nat.add_mul, Nat.one_mul] at h2; have h3 : BB = 1073741824 := rfl; rw [h3] at hR' h2; rw [Nat.mul_comm]; omega
      gi_loopw [10, 11] (fun l0 h0 wr' => ∃ lo hi : Nat, l0 = .int .i64 lo ∧ h0 = .int .i64 hi ∧ lo ≤ hi ∧ hi ≤ 1073741823 ∧ Hid (lo * y ≤ R' ∧ R' < (hi + 1) * y) ∧ Below w7.heap.size w7 wr') (fun l0 h0 _ => (intOf h0).toNat - (intOf l0).toNat)
      case atStart => exact ⟨0, 1073741823, rfl, rfl, by omega, by omega, ⟨by omega, hR1⟩, Below.refl _ _⟩
      case round =>
       obtain ⟨lo, hi, rfl, rfl, hlh, hhi, hS, hbl⟩ := hrel; have hMl : Bel (w.heap.size :: M) wr := S5.out.2.2.2.2.2.1.le (Nat.le_trans T7.out.2.size hbl.size); have hyl : Sl Int wr (w.heap.size :: M) B m d (ints (dig y)) := (S5.out.2.2.2.2.1.go T7.out.2).go hbl; have hrl : Sl Int wr (w.heap.size :: M) O5 q6 c5 (ints (dig R')) := T7.out.1.go hbl
       by_cases hlo : lo < hi
       · obtain ⟨mid, hmid⟩ : ∃ mid, (lo + hi + 1) / 2 = mid := ⟨_, rfl⟩
         have hm0 : 0 < mid := by omega
         have hmm : mid ≤ 1073741823 := by omega
         have e1 : ((lo : Int) + (hi : Int) + 1) / 2 = (mid : Int) := by omega
         have e2 : ((lo : Int) + (hi : Int) + 1).tdiv 2 = (mid : Int) := by rw [Int.tdiv_eq_ediv_of_nonneg (by omega)]; exact e1
         have hst := search_step hS.out.1 hS.out.2 hmid.symm hlo
         obtain ⟨cm, hcm⟩ : ∃ cm, cmpZ (mid * y) R' = cm := ⟨_, rfl⟩
         have hcm1 : cm ≤ 0 ↔ mid * y ≤ R' := by
          rw [← hcm]
          rcases Nat.lt_trichotomy (mid * y) R' with h | h | h
          · rw [cmpZ_lt h]; exact ⟨fun _ => by omega, fun _ => by decide⟩
          · rw [cmpZ_eq h]; exact ⟨fun _ => by omega, fun _ => by decide⟩
          · rw [cmpZ_gt h]; exact ⟨fun e => absurd e (by decide), fun e => by omega⟩
         have HCM := Hd hcm; have LL := Hd5 hMl hyl hrl hst hmid; clear hMl hyl hrl hst hcm hmid
         by_cases hc : cm ≤ 0
         all_goals (
         gi_wp2_with (first
          | (refine ⟨trivial, ?_⟩; gi_at_call 102; have g := T8.out; clear g
             refine Cn (cmpR_any _ _ _ _ _ _ (mid * y) R' _ T8.out.1 (LL.out.2.2.1.go T8.out.2)) ?_; rintro e w9 ⟨rfl, hb9⟩; rw [HCM.out]; have T9 := Hd (T8.out.2.trans (hb9.mono T8.out.2.size))
             clear hb9)
          | (refine Cl 121 (rtimes_any (x := mid) (y := y) (LL.out.1.le (by simp)) (lit_digit LL.out.1 hm0 hmm) (LL.out.2.1.go (by exact bel)) (by omega) (by omega)) ?_
             rintro e w8 ⟨A8, n8, c8, rfl, hs8, hb8⟩; have T8 := Hd2 hs8 (show Below wr.heap.size wr w8 from ((Below.refl _ _).alloc (Nat.le_refl _) _).trans (hb8.mono (by simp)))
             clear hs8 hb8)
          | fail))
         · have hx2 := LL.out.2.2.2.1.1 (hcm1.1 hc)
           exact ⟨⟨mid, hi, rfl, rfl, hx2.2.2.2, hhi, ⟨hx2.1, hx2.2.1⟩, hbl.trans (T9.out.mono hbl.size)⟩, by simp [intOf]; omega⟩
         · have hx2 := LL.out.2.2.2.1.2 (fun h => by have := hcm1.2 h; omega)
           exact ⟨⟨lo, mid - 1, rfl, by go_num, hx2.2.2.2, by omega, ⟨hx2.1, hx2.2.1⟩, hbl.trans (T9.out.mono hbl.size)⟩, by simp [intOf]; omega⟩
       · obtain rfl : lo = hi := by omega
         have hse := search_end hS.out.1 hS.out.2
         have hlo1 : 0 < lo := by
          rw [hse.1]; exact Nat.div_pos (by omega) hy0
         have hdiv := S5.out.2.2.2.2.2.2.1; rw [← hse.1, ← hse.2] at hdiv
         have hq6 : q6 ≤ 5000 := by
          have h1 := T6q.out; have h2 := S5.out.1.dlen; have h3 := hR.out.dlen; simp only [List.length_cons] at h2; omega
         have hz : qs[j]? = some 0 := zeros_at hI.out.2 (Nat.lt_succ_self _) (by rw [hI.out.1.2.2.1, L.out.1]; omega); have hBl := T7.out.2.trans (hbl.mono T7.out.2.size); have hql : Row wr w.heap.size (ints qs) := hQ.out.go hBl hsz; have cj : wr.cell? ⟨w.heap.size, j, none⟩ = some (.int .i64 0) := hql.cell (ints_get hz); have fj : wr.frozen? ⟨w.heap.size, j, none⟩ = false := hql.free j; have hput := hql.put j (lo : Int); rw [ints_set] at hput
         obtain ⟨WS, hWS⟩ : ∃ WS, wr.setCell ⟨w.heap.size, j, none⟩ (.int .i64 (lo : Int)) = WS := ⟨_, rfl⟩
         have kp : Keeps (w.heap.size :: M) wr WS := by rw [← hWS]; exact (Keeps.refl _ _).setCell (p := ⟨w.heap.size, j, none⟩) (.inl (by simp)) _
         rw [hWS] at hput
         have szs : WS.heap.size = wr.heap.size := by rw [← hWS]; simp
         have bS : Below w.heap.size w WS := by rw [← hWS]; exact (hb.trans (hBl.mono (by omega))).setCell (p := ⟨w.heap.size, j, none⟩) (Nat.le_refl _) _
         have LL := Hd (And.intro (show Bel (w.heap.size :: M) WS from hMl.le (by omega)) (And.intro (hyl.keep kp) (And.intro (hrl.keep kp) (And.intro hput (And.intro bS (And.intro hdiv (And.intro hS.out.1 (show w.heap.size < WS.heap.size by have := hBl.size; omega)))))))); clear hMl hyl hrl hdiv hBl hql hput kp szs bS hse
         gi_wp2_with (first
          | (refine ⟨trivial, ?_⟩; gi_at_call 122; have g := T8.out; clear g
             refine Cn (rless_any (x := R') (y := lo * y) (LL.out.1.le T8.out.2.size) (LL.out.2.2.1.go T8.out.2) T8.out.1 (by omega) LL.out.2.2.2.2.2.2.1) ?_; rintro e w9 ⟨A9, n9, c9, rfl, hs9, hb9⟩; have T9 := Hd2 hs9 (T8.out.2.trans (hb9.mono T8.out.2.size))
             clear hs9 hb9)
          | (refine Cl 121 (rtimes_any (x := lo) (y := y) (LL.out.1.le (by simp)) (lit_digit LL.out.1 hlo1 (by omega)) (LL.out.2.1.go (by exact bel)) (by omega) (by omega)) ?_
             rintro e w8 ⟨A8, n8, c8, rfl, hs8, hb8⟩; have T8 := Hd2 hs8 (show Below WS.heap.size WS w8 from ((Below.refl _ _).alloc (Nat.le_refl _) _).trans (hb8.mono (by simp)))
             clear hs8 hb8)
          | fail)
         have hsw := LL.out.2.2.2.2.2.2.2; exact ⟨⟨j, R' - lo * y, qs.set j lo, _, _, _, by omega, rfl, rfl, by rw [← T9.out.1.dlen]; exact HQ0.out _ LL.out.2.2.2.2.2.1.2.1, ⟨LL.out.2.2.2.2.2.1, zeros_set (zeros_less hI.out.2 (by omega))⟩, T9.out.1, LL.out.2.2.2.1.go T9.out.2 hsw, LL.out.2.2.2.2.1.trans (T9.out.2.mono (by omega)), by have := T9.out.2.size; omega⟩, by simp [intOf]⟩
end
section
open Go.RowKit Go.Shelf
attribute [local go_sem] Oper.semAt_some
set_option maxHeartbeats 4000000 in
theorem rGcd_any {M : List Nat} {va vb : Value} {a b : Int} {w : World} (hM : Bel M w) (ha : ZV w M va a) (hb : ZV w M vb b) (fa : fits a = true) (fb : fits b = true) :
 Calls Tryz.prog 49 #[va, vb] w (ZQ w M (Int.gcd a b)) := by
 refine wid ?_
 obtain ⟨A, n, c, rfl, hx⟩ := ha
 obtain ⟨B, m, d, rfl, hy⟩ := hb
 have hf := gcd_fits fa fb
 have hn := len_fits fa hx.dlen
 have hm := len_fits fb hy.dlen
 obtain ⟨na, hna⟩ : ∃ na, zneg a = na := ⟨_, rfl⟩
 obtain ⟨nb, hnb⟩ : ∃ nb, zneg b = nb := ⟨_, rfl⟩
 rw [hna, hnb]
 obtain ⟨W1, hW1, F1, hx2, hy2, hM2⟩ := FZ.begin (na := na) (nb := nb) hM hx hy
 have X := Hd3 hx2 hy2 hM2
 have HN := Hd2 hna hnb
 have HF := Hd2 fa fb
 have HFF := Hd hf
 have F := Hd F1
 have lay_q := F1; obtain ⟨ea0, ea1, eb0, eb1, ex0, ex1, efx0, efx1, -, -⟩ := lay_q
 clear hx hy hM hx2 hy2 hM2 fa fb hna hnb hf
 refine ent Tryz.func49 rfl Tryz.ntmps49 ?_
 gi_wp2_with ((refine Cl 99 (two_any (a := a) (b := b) (M := (w.heap.size + 1 + 1) :: M) ⟨A, n, c, by rw [HN.out.1], X.out.1⟩ ⟨B, m, d, by rw [HN.out.2], X.out.2.1⟩ HF.out.1 HF.out.2) ?_
               rintro e w2 ⟨rfl, hb2⟩; have F2 := F.out.go hb2; have lay_q := F2; obtain ⟨ua0, ua1, ub0, ub1, ux0, ux1, ufx0, ufx1, -, -⟩ := lay_q; have G2 := Hd2 F2 hb2
               clear hb2 F2))
 have G3 := Hd4 G2.out.1 (X.out.1.go G2.out.2) (X.out.2.1.go G2.out.2) (X.out.2.2.le G2.out.2.size)
 gi_loopg [7, 8] (b.natAbs) (fun y s6 s7 wr => ∃ (x : Nat) (A' : Option Addr) (n' c' : Nat) (B' : Option Addr) (m' d' : Nat), s6 = .slice A' n' c' ∧ s7 = .slice B' m' d' ∧ n' ≤ 2048 ∧ m' ≤ 2048 ∧ Hid (Nat.gcd x y = Int.gcd a b ∧ FZ w wr na nb (.slice A n c) (.slice B m d) ∧ Sl Int wr ((w.heap.size + 1 + 1) :: M) A' n' c' (ints (dig x)) ∧ Sl Int wr ((w.heap.size + 1 + 1) :: M) B' m' d' (ints (dig y)) ∧ Bel ((w.heap.size + 1 + 1) :: M) wr))
 case atStart => exact ⟨a.natAbs, A, n, c, B, m, d, rfl, rfl, hn, hm, rfl, G3.out⟩
 case round =>
  obtain ⟨x, A', n', c', B', m', d', rfl, rfl, hn', hm', hr⟩ := hrel; have hm0 := hr.out.2.2.2.1.dlen
  by_cases h0 : m' = 0
  · subst h0
    have hy0 : gk = 0 := dig_nil.1 (List.length_eq_zero_iff.1 hm0); subst hy0
    have hg : bigM false x = (Int.gcd a b : Int) := by
     have := hr.out.1; rw [Nat.gcd_zero_right] at this; rw [← this]; rfl
    clear hm0
    gi_wp2_with (refine Cl 101 (of_ok (v := x) (z := (Int.gcd a b : Int)) hr.out.2.2.2.2 hr.out.2.2.1 (good_dig _) (val_dig _) hg HFF.out) ?_
                 rintro e w3 ⟨q, A4, n4, c4, rfl, hz4, hb3⟩; have F4 := hr.out.2.1.go hb3; have lay_q := F4; obtain ⟨sa0, sa1, sb0, sb1, sx0, sx1, sfx0, sfx1, -, -⟩ := lay_q; have G4 := Hd2 F4 hz4
                 clear hb3 hz4 F4)
    obtain ⟨wF, hwF, r0, r1, hz, hbF⟩ := fin2 (M := M) sx0 sx1 G4.out.2 G4.out.1.bl (by omega); rw [hwF]; refine ⟨rfl, .tuple #[.agg #[.bool q, .slice A4 n4 c4], .int .i64 0], by simp [results, go_sem, r0, r1], _, rfl, hz, hbF⟩
  · have hy0 : 0 < gk := by
     rcases Nat.eq_zero_or_pos gk with e | e
     · subst e; rw [dig_zero] at hm0; exact absurd hm0.symm h0
     · exact e
    have hpos : 0 < m' := by omega
    have HM0 := Hd hm0; clear hm0
    gi_wp2_with (refine Cl 100 (rdivide_any (x := x) (y := gk) hr.out.2.2.2.2 hr.out.2.2.1 hr.out.2.2.2.1 (by omega) (by omega) hy0) ?_; rintro e w3 ⟨O, q, cO, O2, q2, cO2, rfl, h1, h2, hb3⟩; have G4 := Hd2 h2 hb3; clear h1 h2 hb3)
    gi_roundg (x % gk)
    case measure => exact Nat.mod_lt _ hy0
    case rel =>
     have hq2 : q2 ≤ m' := by rw [← G4.out.1.dlen, ← HM0.out]; exact dig_mono (Nat.le_of_lt (Nat.mod_lt _ hy0))
     exact ⟨gk, _, _, _, _, _, _, rfl, rfl, hm', by omega, ⟨by rw [gcd_step]; exact hr.out.1, hr.out.2.1.go G4.out.2, hr.out.2.2.2.1.go G4.out.2, G4.out.1, hr.out.2.2.2.2.le G4.out.2.size⟩⟩
theorem fin22 {w V : World} {M : List Nat} {b e s : Nat} {A B : Option Addr} {n c m d : Nat} {q p : Bool} {z y : Int} {u0 u1 u2 u3 : Value} (h0 : V.cell? ⟨b, 0, none⟩ = some u0) (h1 : V.cell? ⟨b, 1, none⟩ = some u1) (h2 : V.cell? ⟨e, 0, none⟩ = some u2) (h3 : V.cell? ⟨e, 1, none⟩ = some u3)
 (hz : ZC V (b :: e :: M) z q A n c) (hy : ZC V (b :: e :: M) y p B m d) (hne : b ≠ e) (hb : Below s w V) (hsb : s ≤ b) (hse : s ≤ e) :
 ∃ wF, (((V.setCell ⟨b, 0, none⟩ (.bool q)).setCell ⟨b, 1, none⟩ (.slice A n c)).setCell ⟨e, 0, none⟩ (.bool p)).setCell ⟨e, 1, none⟩ (.slice B m d) = wF ∧ wF.cell? ⟨b, 0, none⟩ = some (.bool q) ∧ wF.cell? ⟨b, 1, none⟩ = some (.slice A n c) ∧ wF.cell? ⟨e, 0, none⟩ = some (.bool p) ∧ wF.cell? ⟨e, 1, none⟩ = some (.slice B m d) ∧
  ZV wF M (.agg #[.bool q, .slice A n c]) z ∧ ZV wF M (.agg #[.bool p, .slice B m d]) y ∧ Below s w wF := by
 have kp := ((((Keeps.refl (b :: e :: M) V).setCell (p := ⟨b, 0, none⟩) (.inl (by simp)) (.bool q)).setCell (p := ⟨b, 1, none⟩) (.inl (by simp)) (.slice A n c)).setCell (p := ⟨e, 0, none⟩) (.inl (by simp)) (.bool p)).setCell (p := ⟨e, 1, none⟩) (.inl (by simp)) (.slice B m d)
 have hne2 : ¬ b = e := hne
 have hne3 : ¬ e = b := fun g => hne g.symm
 have hl : ∀ k, k ∈ M → k ∈ b :: e :: M := fun k hk => by simp [hk]
 refine ⟨_, rfl, ?_, ?_, ?_, ?_, ⟨A, n, c, by rw [hz.neg], (hz.sl.keep kp).less hl⟩, ⟨B, m, d, by rw [hy.neg], (hy.sl.keep kp).less hl⟩, ?_⟩
 · simp [go_sem, h0, h1, h2, h3, hne2, hne3]
 · simp [go_sem, h0, h1, h2, h3, hne2, hne3]
 · simp [go_sem, h0, h1, h2, h3, hne2, hne3]
 · simp [go_sem, h0, h1, h2, h3, hne2, hne3]
 · exact (((hb.setCell (p := ⟨b, 0, none⟩) hsb _).setCell (p := ⟨b, 1, none⟩) hsb _).setCell (p := ⟨e, 0, none⟩) hse _).setCell (p := ⟨e, 1, none⟩) hse _
structure FD (w W : World) (na nb : Bool) (va vb : Value) : Prop where
 a0 : W.cell? ⟨w.heap.size, 0, none⟩ = some (.bool na)
 a1 : W.cell? ⟨w.heap.size, 1, none⟩ = some (va)
 b0 : W.cell? ⟨w.heap.size + 1, 0, none⟩ = some (.bool nb)
 b1 : W.cell? ⟨w.heap.size + 1, 1, none⟩ = some (vb)
 x0 : W.cell? ⟨w.heap.size + 1 + 1, 0, none⟩ = some (.bool false)
 x1 : W.cell? ⟨w.heap.size + 1 + 1, 1, none⟩ = some (.slice none 0 0)
 y0 : W.cell? ⟨w.heap.size + 1 + 1 + 1, 0, none⟩ = some (.bool false)
 y1 : W.cell? ⟨w.heap.size + 1 + 1 + 1, 1, none⟩ = some (.slice none 0 0)
 fx0 : W.frozen? ⟨w.heap.size + 1 + 1, 0, none⟩ = false
 fx1 : W.frozen? ⟨w.heap.size + 1 + 1, 1, none⟩ = false
 fy0 : W.frozen? ⟨w.heap.size + 1 + 1 + 1, 0, none⟩ = false
 fy1 : W.frozen? ⟨w.heap.size + 1 + 1 + 1, 1, none⟩ = false
 bl : Below w.heap.size w W
 sz : w.heap.size + 4 ≤ W.heap.size
theorem FD.go {w W W' : World} {na nb : Bool} {va vb : Value} (h : FD w W na nb va vb) (hb : Below W.heap.size W W') : FD w W' na nb va vb := by
 have hs := h.sz
 have c : ∀ (k o : Nat) (u : Value), k < w.heap.size + 4 → W.cell? ⟨k, o, none⟩ = some u → W'.cell? ⟨k, o, none⟩ = some u := fun k o u hk hu => (hb.cell (p := ⟨k, o, none⟩) (show k < _ by omega)).trans hu
 have f : ∀ (k o : Nat), k < w.heap.size + 4 → W.frozen? ⟨k, o, none⟩ = false → W'.frozen? ⟨k, o, none⟩ = false := fun k o hk hu => (hb.frozen (p := ⟨k, o, none⟩) (show k < _ by omega)).trans hu
 exact ⟨c _ _ _ (by omega) h.a0, c _ _ _ (by omega) h.a1, c _ _ _ (by omega) h.b0, c _ _ _ (by omega) h.b1, c _ _ _ (by omega) h.x0, c _ _ _ (by omega) h.x1, c _ _ _ (by omega) h.y0, c _ _ _ (by omega) h.y1, f _ _ (by omega) h.fx0, f _ _ (by omega) h.fx1, f _ _ (by omega) h.fy0, f _ _ (by omega) h.fy1, h.bl.trans (hb.mono h.bl.size), by have := hb.size; omega⟩
theorem FD.start (w : World) (na nb : Bool) (va vb : Value) : FD w (((((w).alloc (.cells #[.bool na, va] 29)).alloc (.cells #[.bool nb, vb] 29)).alloc (.cells #[.bool false, .slice none 0 0] 29)).alloc (.cells #[.bool false, .slice none 0 0] 29)) na nb va vb := ⟨by simp [go_sem], by simp [go_sem], by simp [go_sem], by simp [go_sem], by simp [go_sem], by simp [go_sem], by simp [go_sem], by simp [go_sem], by simp [go_sem], by simp [go_sem], by simp [go_sem], by simp [go_sem], by exact bel, by simp⟩
theorem FD.drew {w W : World} {na nb : Bool} {va vb : Value} (h : FD w W na nb va vb) : FD w W.drew na nb va vb := ⟨h.a0, h.a1, h.b0, h.b1, h.x0, h.x1, h.y0, h.y1, h.fx0, h.fx1, h.fy0, h.fy1, h.bl.drew, h.sz⟩
theorem ZV.zc {w : World} {M : List Nat} {z : Int} {q : Bool} {A : Option Addr} {n c : Nat} (h : ZV w M (.agg #[.bool q, .slice A n c]) z) : ZC w M z q A n c := by
 obtain ⟨A', n', c', e, h⟩ := h
 simp only [Value.agg.injEq, Array.mk.injEq, List.cons.injEq, Value.bool.injEq, Value.slice.injEq, and_true] at e
 obtain ⟨rfl, rfl, rfl, rfl⟩ := e
 exact ⟨rfl, h⟩
set_option maxRecDepth 20000 in
set_option maxHeartbeats 1000000 in
theorem rDiv_any {M : List Nat} {va vb : Value} {a b : Int} {w : World} (hM : Bel M w) (ha : ZV w M va a) (hb : ZV w M vb b) (fa : fits a = true) (fb : fits b = true) (hp : 0 < b) (h0 : a.natAbs % b.natAbs = 0) :
 Calls Tryz.prog 141 #[va, vb] w fun e w' => ∃ u v, e = .returned (.tuple #[u, v, .int .i64 0]) ∧ ZV w' M u (a / b) ∧ ZV w' M v 0 ∧ Below w.heap.size w w' := by
 refine wid ?_
 obtain ⟨A, n, c, rfl, hx⟩ := ha
 obtain ⟨B, m, d, rfl, hy⟩ := hb
 have hn := len_fits fa hx.dlen
 have hm := len_fits fb hy.dlen
 have hm1 := hy.dlen
 have hm0 : ¬ m = 0 := by
  intro e; rw [e] at hm1; have := dig_nil.1 (List.length_eq_zero_iff.1 hm1); omega
 have hzb : zneg b = false := decide_eq_false (by omega)
 have hr := (div_exact (a := a) (b := b) (.inl h0) (by omega)).1
 have hf : fits (a / b) = true := by
  refine fits_mono ?_ fa; rw [← hr]
  have : (bigM (zneg a != zneg b) (a.natAbs / b.natAbs)).natAbs = a.natAbs / b.natAbs := by
   generalize a.natAbs / b.natAbs = k
   unfold bigM; split <;> omega
  rw [this]; exact Nat.div_le_self _ _
 have hy0 : 0 < b.natAbs := by omega
 obtain ⟨na, hna⟩ : ∃ na, zneg a = na := ⟨_, rfl⟩
 rw [hzb, hna] at hr
 rw [hna, hzb]
 obtain ⟨MM, hMM⟩ : ∃ MM, (w.heap.size + 1 + 1) :: (w.heap.size + 1 + 1 + 1) :: M = MM := ⟨_, rfl⟩
 obtain ⟨W1, hW1⟩ : ∃ W1 : World, ((((w).alloc (.cells #[.bool na, .slice A n c] 29)).alloc (.cells #[.bool false, .slice B m d] 29)).alloc (.cells #[.bool false, .slice none 0 0] 29)).alloc (.cells #[.bool false, .slice none 0 0] 29) = W1 := ⟨_, rfl⟩
 have F1 : FD w W1 na false (.slice A n c) (.slice B m d) := by rw [← hW1]; exact FD.start w _ _ _ _
 have hx2 : Sl Int W1 MM A n c (ints (zmag a)) := by rw [← hMM]; exact ((hx.more (b := w.heap.size + 1 + 1 + 1) (by omega)).more (b := w.heap.size + 1 + 1) (by omega)).go F1.bl
 have hy2 : Sl Int W1 MM B m d (ints (zmag b)) := by rw [← hMM]; exact ((hy.more (b := w.heap.size + 1 + 1 + 1) (by omega)).more (b := w.heap.size + 1 + 1) (by omega)).go F1.bl
 have hM2 : Bel MM W1 := by rw [← hMM]; exact ((hM.le F1.bl.size).cons (by have := F1.sz; omega)).cons (by have := F1.sz; omega)
 have X := Hd3 hx2 hy2 hM2
 have HN := Hd2 hna hzb
 have HF := Hd5 fa fb hf hy0 h0
 have HR := Hd hr
 have HMM := Hd hMM
 have HZ0 := Hd2 (show bigM false 0 = 0 from rfl) (fits_of (z := 0) (k := 1) (by decide) (by omega))
 have F := Hd F1
 have lay_q := F1; obtain ⟨ea0, ea1, eb0, eb1, ex0, ex1, ey0, ey1, efx0, efx1, efy0, efy1, -, -⟩ := lay_q
 clear hx hy hM hx2 hy2 hM2 fa fb hna hzb hf hr hm1 hMM h0 hp
 cases na
 all_goals (
 refine ent Tryz.func141 rfl Tryz.ntmps141 ?_
 gi_wp2_with (first
  | (refine ⟨trivial, ?_⟩; gi_at_call 101; have g := G4.out; clear g
     refine Cn (of_ok (v := 0) (z := 0) (X.out.2.2.le G4.out.2.2.1.size) (G3.out.2.2.1.go G4.out.2.1) (good_dig 0) (val_dig 0) HZ0.out.1 HZ0.out.2) ?_; rintro e w6 ⟨q6, A6, n6, c6, rfl, hz6, hb6⟩
     obtain ⟨W7, hW7⟩ : ∃ W7, w6.alloc (.cells #[.bool q6, .slice A6 n6 c6] 29) = W7 := ⟨_, rfl⟩
     have hb7 : Below w6.heap.size w6 W7 := by rw [← hW7]; exact bel
     have F7 := (G4.out.1.go hb6).go hb7; have hnc : w4.heap.size < W5.heap.size := G4.out.2.2.2.2
     have hnd : w4.heap.size < w6.heap.size := by have := hb6.size; omega
     have m0 := (hb7.cell (p := ⟨w4.heap.size, 0, none⟩) hnd).trans ((hb6.cell (p := ⟨w4.heap.size, 0, none⟩) hnc).trans N0); have m1 := (hb7.cell (p := ⟨w4.heap.size, 1, none⟩) hnd).trans ((hb6.cell (p := ⟨w4.heap.size, 1, none⟩) hnc).trans N1)
     have l0 : W7.cell? ⟨w6.heap.size, 0, none⟩ = some (.bool q6) := by rw [← hW7]; simp [go_sem]
     have l1 : W7.cell? ⟨w6.heap.size, 1, none⟩ = some (.slice A6 n6 c6) := by rw [← hW7]; simp [go_sem]
     have hnn : w.heap.size + 4 ≤ w6.heap.size := Nat.le_trans G4.out.1.sz hb6.size; have hn4 := HW4.out; have v0 := stays_m (Mr := [w.heap.size + 1 + 1]) (by simp; omega) m0; have v1 := stays_m (Mr := [w.heap.size + 1 + 1]) (by simp; omega) m1; have v2 := stays_m (Mr := [w.heap.size + 1 + 1]) (by simp; omega) l0; have v3 := stays_m (Mr := [w.heap.size + 1 + 1]) (by simp; omega) l1; have F7d := F7.drew; have lay_q := F7d; obtain ⟨sa0, sa1, sb0, sb1, sx0, sx1, sy0, sy1, sfx0, sfx1, sfy0, sfy1, -, -⟩ := lay_q; have lay_q := F7; obtain ⟨pa0, pa1, pb0, pb1, px0, px1, py0, py1, pfx0, pfx1, pfy0, pfy1, -, -⟩ := lay_q
     have G7 := Hd3 F7d (show ZV W7.drew MM (.agg #[.bool q4, .slice A4 n4 c4]) (a / b) from by
      have h := (G4.out.2.2.2.1.go hb6).go hb7; obtain ⟨A', n', c', e', hs'⟩ := h
      exact ⟨A', n', c', e', hs'.keep (Keeps.refl _ _).drew⟩) (show ZV W7.drew MM (.agg #[.bool q6, .slice A6 n6 c6]) 0 from by
      have h := hz6.go hb7; obtain ⟨A', n', c', e', hs'⟩ := h
      exact ⟨A', n', c', e', hs'.keep (Keeps.refl _ _).drew⟩)
     clear hz6 hb6 hb7 F7 F7d hnc hnd m0 m1 l0 l1 hnn hn4)
  | (refine ⟨trivial, ?_⟩; gi_at_call 101; have g := G3.out; clear g
     refine Cn (of_ok (v := a.natAbs / b.natAbs) (z := a / b) (X.out.2.2.le G3.out.2.2.2.size) G3.out.2.1 (good_dig _) (val_dig _) HR.out HF.out.2.2.1) ?_; rintro e w4 ⟨q4, A4, n4, c4, rfl, hz4, hb4⟩
     obtain ⟨W5, hW5⟩ : ∃ W5, w4.alloc (.cells #[.bool q4, .slice A4 n4 c4] 29) = W5 := ⟨_, rfl⟩
     have hb5 : Below w4.heap.size w4 W5 := by rw [← hW5]; exact bel
     have hs5 : w4.heap.size < W5.heap.size := by rw [← hW5]; simp
     have F4 := (G3.out.1.go hb4).go hb5
     have N0 : W5.cell? ⟨w4.heap.size, 0, none⟩ = some (.bool q4) := by rw [← hW5]; simp [go_sem]
     have N1 : W5.cell? ⟨w4.heap.size, 1, none⟩ = some (.slice A4 n4 c4) := by rw [← hW5]; simp [go_sem]
     have G4 := Hd5 F4 (hb4.trans (hb5.mono hb4.size)) (G3.out.2.2.2.trans ((hb4.trans (hb5.mono hb4.size)).mono G3.out.2.2.2.size)) (hz4.go hb5) hs5; have HW4 := Hd (Nat.le_trans G3.out.1.sz hb4.size)
     clear hz4 hb4 hb5 hs5 F4)
  | (refine Cl 100 (rdivide_any (x := a.natAbs) (y := b.natAbs) (X.out.2.2.le G2.out.2.size) (X.out.1.go G2.out.2) (X.out.2.1.go G2.out.2) hn hm HF.out.2.2.2.1) ?_
     rintro e w3 ⟨O, q3, cO, O2, q2, cO2, rfl, h1, h2, hb3⟩; rw [HF.out.2.2.2.2] at h2
     have hq2 : q2 = 0 := by have := h2.dlen; rw [dig_zero] at this; simpa using this.symm
     subst hq2; have F3 := G2.out.1.go hb3; have lay_q := F3; obtain ⟨ta0, ta1, tb0, tb1, tx0, tx1, ty0, ty1, tfx0, tfx1, tfy0, tfy1, -, -⟩ := lay_q; have G3 := Hd4 F3 h1 h2 (G2.out.2.trans (hb3.mono G2.out.2.size))
     clear h1 h2 hb3 F3)
  | (refine Cl 99 (two_any (a := a) (b := b) (M := MM) ⟨A, n, c, by rw [HN.out.1], X.out.1⟩ ⟨B, m, d, by rw [HN.out.2], X.out.2.1⟩ HF.out.1 HF.out.2.1) ?_
     rintro e w2 ⟨rfl, hb2⟩; have F2 := F.out.go hb2; have lay_q := F2; obtain ⟨ua0, ua1, ub0, ub1, ux0, ux1, uy0, uy1, ufx0, ufx1, ufy0, ufy1, -, -⟩ := lay_q; have G2 := Hd2 F2 hb2
     clear hb2 F2)
  | fail)
 refine region_E_np [w.heap.size + 1 + 1] 3 (by kernel_rfl) (by kernel_rfl) ?_
 refine E_rd 0 ?_; refine E_rd 1 ?_
 refine E_al 2 fun K hK => ?_; gi_wp2
 refine ⟨((((Keeps.refl [w.heap.size + 1 + 1] W7).setCell (p := ⟨w.heap.size + 1 + 1, 0, none⟩) (.inl (by simp)) (.bool q4)).setCell (p := ⟨w.heap.size + 1 + 1, 1, none⟩) (.inl (by simp)) (.slice A4 n4 c4)).drew).drewL, ?_⟩
 refine E_nl 2 ?_; refine tls fun K hK K' hK' => ?_; gi_wp2; refine tls fun K hK K' hK' => ?_; gi_wp2; refine tail_nil _ ?_; simp only [npost]; gi_wp2
 have z1 := G7.out.2.1
 have z2 := G7.out.2.2
 rw [← HMM.out] at z1 z2
 obtain ⟨wF, hwF, r0, r1, r2, r3, hz1, hz2, hbF⟩ := fin22 (M := M) sx0 sx1 sy0 sy1 z1.zc z2.zc (by omega) G7.out.1.bl (by omega) (by omega)
 have hwF2 : World.drew ((((W7.setCell ⟨w.heap.size + 1 + 1, 0, none⟩ (.bool q4)).setCell ⟨w.heap.size + 1 + 1, 1, none⟩ (.slice A4 n4 c4)).setCell ⟨w.heap.size + 1 + 1 + 1, 0, none⟩ (.bool q6)).setCell ⟨w.heap.size + 1 + 1 + 1, 1, none⟩ (.slice A6 n6 c6)) = wF := hwF
 rw [hwF2]
 exact ⟨rfl, .tuple #[.agg #[.bool q4, .slice A4 n4 c4], .agg #[.bool q6, .slice A6 n6 c6], .int .i64 0], by simp [results, go_sem, r0, r1, r2, r3], _, _, rfl, hz1, hz2, hbF⟩)
end
end Go.Proofs.YtboapndkopabiaaGreat
