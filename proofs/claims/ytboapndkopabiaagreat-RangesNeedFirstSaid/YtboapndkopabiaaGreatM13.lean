/- Lemmas and walks (Nat20 Rat1 Rat2 Nat17 Rat3). No statement is proved here. -/
import Derived.Sort.LoopGhostIn
import Derived.Test.YtboapndkopabiaaGreatM12
set_option linter.unusedVariables false
set_option linter.unusedSimpArgs false
namespace Go.Proofs.YtboapndkopabiaaGreat
section
open Go.RowKit Go.Shelf
attribute [local go_sem] Oper.semAt_some
theorem and_mask_u (r : Nat) : bits .and .u64 (r : Int) 1073741823 = ((r % BB : Nat) : Int) := by
 have hm : (BitVec.ofInt 64 1073741823).toNat = 2 ^ 30 - 1 := by decide
 have key : (BitVec.ofInt 64 (r : Int) &&& BitVec.ofInt 64 1073741823).toNat = ((r : Int) % ((2 ^ 64 : Nat) : Int)).toNat % 2 ^ 30 := by
  rw [BitVec.toNat_and, BitVec.toNat_ofInt, hm, Nat.and_two_pow_sub_one_eq_mod]
 show IntKind.u64.wrap ((BitVec.ofInt 64 (r : Int) &&& BitVec.ofInt 64 1073741823).toNat : Nat) = ((r % 1073741824 : Nat) : Int)
 rw [key, IntKind.wrap_u64]
 omega
theorem dig_low {x : Nat} (h : x ≤ 18446744073709551615) : (dig x).length ≤ 3 := by
 by_cases h1 : x = 0
 · rw [h1, dig_zero]; simp
 rw [dig_pos h1]
 by_cases h2 : x / BB = 0
 · rw [h2, dig_zero]; simp
 rw [dig_pos h2]
 by_cases h3 : x / BB / BB = 0
 · rw [h3, dig_zero]; simp
 rw [dig_pos h3]
 have h4 : x / BB / BB / BB = 0 := by
  show x / 1073741824 / 1073741824 / 1073741824 = 0
  omega
 rw [h4, dig_zero]; simp
theorem made_word {n : Int} (h : i64 n) : (if n < 0 then (IntKind.u64.wrap (-(IntKind.u64.wrap n))) else IntKind.u64.wrap n) = (n.natAbs : Int) := by
 unfold i64 at h
 rw [IntKind.wrap_u64, IntKind.wrap_u64]
 split <;> omega
theorem append_dig {w : World} {base : Nat} {v : Value} {n : Nat} {xs : List Int} (h : w.ownsRow base 3 1 v n (xs.map (Value.int .i64))) (hb : base ≤ w.heap.size) (hn : n ≤ 1000000000) (g : Nat) (x : Int)
 (hc : w.cell? ⟨g, 0, none⟩ = some (.int .i64 x)) :
 ∃ v' w', (Builtin.append_ #[124, 124] 124 #[v, .slice (some ⟨g, 0, none⟩) 1 1]).run Tryz.prog w = .ok v' w' ∧ w'.ownsRow base 3 1 v' (n + 1) ((xs ++ [x]).map (Value.int .i64)) ∧ w.grownBy w' v.ownBlock ∧
  (v'.ownBlock = v.ownBlock ∨ v'.ownBlock = some w.heap.size) ∧ ∃ gg cc, v' = .slice (some ⟨gg, 0, none⟩) (n + 1) cc := by
 obtain ⟨i0, hi, hz0, hz1, hz2⟩ := info_parts int_info
 obtain ⟨v', w', h1, h2, h3, _, h5⟩ := run_append_own_at (P := Tryz.prog) w base 124 124 3 i0 (.int .i64 0) 1 8 Tryz.underlying124 hi hz0 hz1 hz2 rfl (by decide) v n _ h ⟨g, 0, none⟩ 1 1 [.int .i64 x] rfl
  (by intro j u hu; match j, hu with | 0, hu => cases hu; exact hc) (by simp [Value.oneCell']) (by unfold maxLen; omega) (by omega) hb
 rw [List.map_append]
 exact ⟨v', w', h1, h2, h3, h5, ownsRow_succ h2⟩
theorem snoc_dig {W : World} {base : Nat} {v : Value} {n : Nat} {xs : List Int} (h : W.ownsRow base 3 1 v n (xs.map (Value.int .i64))) (hb : base ≤ W.heap.size) (hn : n ≤ 1000000000) (x : Int) :
 ∃ v' W', (Builtin.append_ #[124, 124] 124 #[v, .slice (some ⟨W.heap.size, 0, none⟩) 1 1]).run Tryz.prog (W.alloc (.cells #[.int .i64 x] 3)) = .ok v' W' ∧ W'.ownsRow base 3 1 v' (n + 1) ((xs ++ [x]).map (Value.int .i64)) ∧ Below base W W' ∧
  ∃ gg cc, v' = .slice (some ⟨gg, 0, none⟩) (n + 1) cc := by
 obtain ⟨v', W', r1, r2, r3, r4, r5⟩ := append_dig (h.alloc (.cells #[.int .i64 x] 3)) (by simp; omega) hn W.heap.size x (by simp [go_sem])
 exact ⟨v', W', r1, r2, (((Below.refl base W).alloc hb _).grown r3 (by simp; omega) (fun k hk => (h.lt k hk).1)), r5⟩
set_option maxHeartbeats 1000000 in
theorem nMake_any {M : List Nat} {n : Int} {w : World} (hM : Bel M w) (hn : i64 n) :
 Calls Tryz.prog 104 #[.int .i64 n] w fun e w' => ∃ u, e = .returned u ∧ ZV w' M u n ∧ Below w.heap.size w w' := by
 refine wid ?_
 have hw := made_word hn
 have hx3 : (dig n.natAbs).length ≤ 3 := dig_low (by unfold i64 at hn; omega)
 obtain ⟨x, hx⟩ : ∃ x, n.natAbs = x := ⟨_, rfl⟩
 have hxl : x ≤ 9223372036854775808 := by unfold i64 at hn; omega
 rw [hx] at hw hx3
 have P := Hd3 hx3 hM hx
 clear hx3 hM hx hn
 by_cases hneg : n < 0
 all_goals (
 first
  | rw [if_pos hneg] at hw
  | rw [if_neg hneg] at hw
 refine ent Tryz.func104 rfl Tryz.ntmps104 ?_
 gi_wp2
 gi_loopw [3, 4] (fun v u wr => ∃ (k r : Nat) (out : List Nat), r ≤ x ∧ u = .int .u64 r ∧ Hid (dig x = out ++ dig r ∧ out.length = k) ∧ Hid (wr.ownsRow (w.heap.size + 1) 3 1 v k ((ints out).map (Value.int .i64))) ∧ Below w.heap.size w wr ∧ w.heap.size + 1 ≤ wr.heap.size ∧ wr.cell? ⟨w.heap.size, 0, none⟩ = some (.bool false) ∧ wr.cell? ⟨w.heap.size, 1, none⟩ = some (.slice none 0 0) ∧ wr.frozen? ⟨w.heap.size, 0, none⟩ = false ∧ wr.frozen? ⟨w.heap.size, 1, none⟩ = false) (fun _ u _ => (intOf u).toNat)
 case atStart =>
  have own0 := World.ownsRow_lit (base := w.heap.size + 1) (size := 1) (e := 3) (w.alloc (.cells #[.bool false, .slice none 0 0] 29)) #[] 0 (by simp) (by simp [maxLen]) rfl; rw [show (w.alloc (.cells #[.bool false, .slice none 0 0] 29)).heap.size = w.heap.size + 1 by simp] at own0; exact ⟨0, x, [], Nat.le_refl _, rfl, Hd2 (List.nil_append _).symm rfl, own0, by exact bel, by simp, by simp [go_sem], by simp [go_sem], by simp [go_sem], by simp [go_sem]⟩
 case round =>
  obtain ⟨k, r, out, hr, rfl, hI, hO, hb, hsz, c0, c1, f0, f1⟩ := hrel
  by_cases hr0 : 0 < r
  · have hk : k ≤ 3 := by have := P.out.1; rw [hI.out.1, List.length_append, hI.out.2] at this; omega
    obtain ⟨v', W', r1, r2, r3, gg, cc, rfl⟩ := snoc_dig hO.out hsz (by omega) ((r : Int) % (BB : Int)); rw [show ints out ++ [(r : Int) % (BB : Int)] = ints (out ++ [r % BB]) by simp [ints]] at r2
    have hstep : dig x = (out ++ [r % BB]) ++ dig (r / BB) ∧ (out ++ [r % BB]).length = k + 1 := by
     refine ⟨?_, by simp [hI.out.2]⟩; rw [hI.out.1, dig_pos (by omega)]; simp
    have hd1 : r / BB < r := Nat.div_lt_self hr0 BB_two; have HAP := Hd r1; have HR := Hd3 r2 (hb.trans (r3.mono (by omega))) hstep; have e1 := and_mask_u r
    have e2 : (r : Int) / 1073741824 = ((r / BB : Nat) : Int) := by rw [BBi]; exact (Int.natCast_ediv _ _).symm
    have HE := Hd e2
    have e3 : IntKind.i64.wrap ((r : Int) % (BB : Int)) = (r : Int) % (BB : Int) := by
     rw [show (r : Int) % (BB : Int) = ((r % BB : Nat) : Int) from (Int.natCast_emod _ _).symm]; have := Nat.mod_lt r BB_pos; have h2 : BB ≤ 1073741824 := Nat.le_refl _; rw [IntKind.wrap_i64]; omega
    have hs3 := r3.size; have c0' := (r3.cell (p := ⟨w.heap.size, 0, none⟩) (Nat.lt_succ_self _)).trans c0; have c1' := (r3.cell (p := ⟨w.heap.size, 1, none⟩) (Nat.lt_succ_self _)).trans c1; have f0' := (r3.frozen (p := ⟨w.heap.size, 0, none⟩) (Nat.lt_succ_self _)).trans f0; have f1' := (r3.frozen (p := ⟨w.heap.size, 1, none⟩) (Nat.lt_succ_self _)).trans f1; have HC := Hd4 c0' c1' f0' f1'; clear c0' c1' f0' f1' c0 c1 f0 f1; clear r1 r2 r3 hstep hI hO
    gi_wp2_with (first
     | (gi_at_builtin; refine wpListIn_plain rfl fun K hK' => ?_; refine wpIn_append _ _ _ rfl rfl rfl HAP.out (hK' _ _ ?_); clear hK' K)
     | fail)
    exact ⟨⟨k + 1, r / BB, _, by omega, by rw [← HE.out]; rfl, HR.out.2.2, HR.out.1, HR.out.2.1, by omega, HC.out.1, HC.out.2.1, HC.out.2.2.1, HC.out.2.2.2⟩, by have h2 := HE.out; show ((r : Int) / (BB : Int)).toNat < ((r : Int)).toNat; rw [BBi] at h2; rw [h2, Int.toNat_natCast, Int.toNat_natCast]; exact hd1⟩
  · obtain rfl : r = 0 := by omega
    have hk : k ≤ 3 := by have := P.out.1; rw [hI.out.1, List.length_append, hI.out.2] at this; omega
    have hd : dig x = out := by have := hI.out.1; rwa [dig_zero, List.append_nil] at this
    have hg : Good out := by rw [← hd]; exact good_dig x
    obtain ⟨O, cO, rfl, hsl⟩ := Sl.of_own hO.out (ints_i64 hg) (by omega) (M := w.heap.size :: M) (by
     intro j hj
     rcases List.mem_cons.1 hj with rfl | hj
     · omega
     · have := P.out.2.1 j hj; omega)
    rw [← hd] at hsl; have HF := Hd hsl; clear hsl hO hI hd hg; gi_wp2; refine ⟨rfl, .agg #[.bool (decide (n < 0)), .slice O k cO], by simp [results, go_sem, c0, c1, hneg], .agg #[.bool (decide (n < 0)), .slice O k cO], rfl, ⟨O, k, cO, rfl, ?_⟩, ?_⟩
    · have h := HF.out.keep ((((Keeps.refl (w.heap.size :: M) wr).setCell (p := ⟨w.heap.size, 0, none⟩) (.inl (by simp)) (.bool (decide (n < 0)))).setCell (p := ⟨w.heap.size, 1, none⟩) (.inl (by simp)) (.slice O k cO)))
      have h2 := h.less (M' := M) (fun j hj => List.mem_cons_of_mem _ hj); rw [show zmag n = dig x from by unfold zmag; rw [P.out.2.2]]
      first
       | exact h2
       | (simp only [hneg, decide_true] at h2; exact h2)
    · exact (hb.setCell (p := ⟨w.heap.size, 0, none⟩) (Nat.le_refl _) _).setCell (p := ⟨w.heap.size, 1, none⟩) (Nat.le_refl _) _)
end
section
open Go.RowKit Go.Shelf
attribute [local go_sem] Oper.semAt_some
theorem need_yes (x : Int) (w : World) : Calls Tryz.prog 93 #[.bool true, .int .i64 x] w fun e w' => e = .returned (.tuple #[]) ∧ w' = w := by
 refine wid ?_
 refine ent Tryz.func93 rfl Tryz.ntmps93 ?_
 gi_wp2
 go_end0
 exact ⟨rfl, rfl⟩
theorem need_no (x : Int) (w : World) : Calls Tryz.prog 93 #[.bool false, .int .i64 x] w fun e w' => e = panE x ∧ w' = w := by
 refine wid ?_
 refine ent Tryz.func93 rfl Tryz.ntmps93 ?_
 gi_wp2
 first
  | exact ⟨rfl, rfl⟩
  | exact ⟨rfl, rfl, rfl⟩
theorem didI_yes (z : Int) (w : World) : Calls Tryz.prog 45 #[.int .i64 z, .int .i64 0] w fun e w' => e = .returned (.int .i64 z) ∧ w' = w := by
 refine wid ?_
 refine ent Tryz.func45 rfl Tryz.ntmps45 ?_
 gi_wp2_with (refine Cl 93 (need_yes _ _) ?_; rintro e w2 ⟨rfl, rfl⟩)
 go_ret
 exact ⟨rfl, rfl⟩
theorem didI_no (z x : Int) (hx : x ≠ 0) (w : World) : Calls Tryz.prog 45 #[.int .i64 z, .int .i64 x] w fun e w' => e = panE x ∧ w' = w := by
 refine wid ?_
 have hxb : (x == 0) = false := by simpa using hx
 refine ent Tryz.func45 rfl Tryz.ntmps45 ?_
 gi_wp2_with (refine Cl 93 (need_no _ _) ?_; rintro e w2 ⟨rfl, rfl⟩)
 first
  | exact ⟨rfl, rfl⟩
  | exact ⟨rfl, rfl, rfl⟩
theorem didB_yes {M : List Nat} {v : Value} {z : Int} {w : World} (h : ZV w M v z) : Calls Tryz.prog 94 #[v, .int .i64 0] w fun e w' => e = .returned v ∧ ZV w' M v z ∧ Below w.heap.size w w' := by
 refine wid ?_
 obtain ⟨A, n, c, rfl, hs⟩ := h
 have S := Hd hs
 clear hs
 obtain ⟨b, hb⟩ : ∃ b, zneg z = b := ⟨_, rfl⟩
 have HB := Hd hb
 rw [hb]
 clear hb
 cases b
 all_goals (
 refine ent Tryz.func94 rfl Tryz.ntmps94 ?_
 gi_wp2_with (refine Cl 93 (need_yes _ _) ?_; rintro e w2 ⟨rfl, rfl⟩)
 exact ⟨rfl, _, by simp [results, go_sem], rfl, ⟨A, n, c, by rw [HB.out], S.out.go (by exact bel)⟩, by exact bel⟩)
theorem didB_no {M : List Nat} {v : Value} {z x : Int} {w : World} (h : ZV w M v z) (hx : x ≠ 0) : Calls Tryz.prog 94 #[v, .int .i64 x] w fun e w' => e = panE x ∧ Below w.heap.size w w' := by
 refine wid ?_
 have hxb : (x == 0) = false := by simpa using hx
 obtain ⟨A, n, c, rfl, hs⟩ := h
 clear hs
 cases zneg z
 all_goals (
 refine ent Tryz.func94 rfl Tryz.ntmps94 ?_
 gi_wp2_with (refine Cl 93 (need_no _ _) ?_; rintro e w2 ⟨rfl, rfl⟩)
 first
  | exact ⟨rfl, rfl, by exact bel⟩
  | exact ⟨rfl, by exact bel⟩)
theorem positive_any {M : List Nat} {v : Value} {z : Int} {w : World} (h : ZV w M v z) : Calls Tryz.prog 56 #[v] w fun e w' => e = .returned (.bool (decide (0 < z))) ∧ Below w.heap.size w w' := by
 refine wid ?_
 obtain ⟨A, n, c, rfl, hs⟩ := h
 have hl := hs.dlen
 have hz : decide (0 < z) = (!zneg z && decide (0 < n)) := by
  unfold zneg; rw [← hl]
  by_cases h0 : z = 0
  · subst h0; simp [zmag, dig_zero]
  · have : (zmag z).length ≠ 0 := by
     intro e; have := dig_nil.1 (List.length_eq_zero_iff.1 e); omega
    by_cases h1 : z < 0
    · simp [h1]; omega
    · simp [h1]; omega
 rw [hz]
 clear hs hl hz
 cases zneg z
 all_goals (
 by_cases hn : n = 0
 all_goals (
 refine ent Tryz.func56 rfl Tryz.ntmps56 ?_
 gi_wp2
 go_ret
 exact ⟨by first | rfl | simp [hn] | (simp; omega), by exact bel⟩))
end
section
open Go.RowKit Go.Shelf
attribute [local go_sem] Oper.semAt_some
set_option maxRecDepth 20000 in
theorem caughtQ_pan {n : Nat} (p : Addr) (x y : Int) (older : List PanicEntry) (w : World) (hc : w.cell? p = some (.int .i64 y)) (hf : w.frozen? p = false) :
 CallsDIn Fence.wide n Tryz.prog 42 #[.pointer (some p)] (.panicking ({ v := errV x, recovered := false } :: older)) w fun e u' w' =>
  e = .returned (.tuple #[]) ∧ u' = .panicking ({ v := errV x, recovered := true } :: older) ∧ w' = w.setCell p (.int .i64 x) := by
 refine callsDIn_of_wpSIn Tryz.func42 rfl trivial fun c₀ cs hu => ?_
 apply wpSIn_seq
 apply wpSIn_region
 simp [wpOpsSIn, go_sem, recoverD, hu, Tryz.ntmps42, Exit.thenS]
 refine wpSIn_of_wpIn rfl ?_
 refine Go.wpIn_mono (Q := fun e a' w' => e = .normal ∧ a'.defers = [] ∧ w' = w.setCell p (.int .i64 x)) ?_ ?_
 rotate_left
 · rintro e a' w' ⟨rfl, hd, rfl⟩
   simp [bodyPostS, results, Tryz.results42, hd]
 clear hu
 have hta := assert_err x
 simp only [Array.replicate_succ, Array.replicate_zero, List.push_toArray, List.append_toArray, List.nil_append, List.cons_append, List.setIfInBounds_toArray, List.set_cons_succ, List.set_cons_zero]
 gi_wp2
theorem caughtQ_idle {n : Nat} (p : Addr) (w : World) :
 CallsDIn Fence.wide n Tryz.prog 42 #[.pointer (some p)] .returning w fun e u' w' => e = .returned (.tuple #[]) ∧ u' = .returning ∧ w' = w := by
 refine callsDIn_of_wpSIn Tryz.func42 rfl trivial fun c₀ cs hu => ?_
 apply wpSIn_seq
 apply wpSIn_region
 simp [wpOpsSIn, go_sem, recoverD, hu, Tryz.ntmps42, Exit.thenS]
 refine wpSIn_of_wpIn rfl ?_
 refine Go.wpIn_mono (Q := fun e a' w' => e = .normal ∧ a'.defers = [] ∧ w' = w) ?_ ?_
 rotate_left
 · rintro e a' w' ⟨rfl, hd, rfl⟩
   cases c₀
   simp_all [bodyPostS, results, Tryz.results42, hd]
 clear hu
 simp only [Array.replicate_succ, Array.replicate_zero, List.push_toArray, List.append_toArray, List.nil_append, List.cons_append, List.setIfInBounds_toArray, List.set_cons_succ, List.set_cons_zero]
 gi_wp2
end
section
open Go.RowKit Go.Shelf
attribute [local go_sem] Oper.semAt_some
theorem gcd_fits {a b : Int} (fa : fits a = true) (fb : fits b = true) : fits (Int.gcd a b : Int) = true := by
 by_cases hb : b = 0
 · subst hb
   rw [Int.gcd_zero_right]; exact fits_mono (by simp) fa
 · have h : Int.gcd a b ≤ b.natAbs := Nat.le_of_dvd (by omega) (Nat.gcd_dvd_right _ _)
   exact fits_mono (show ((Int.gcd a b : Int)).natAbs ≤ b.natAbs by simpa using h) fb
theorem len_fits {z : Int} {n : Nat} (h : fits z = true) (hl : (zmag z).length = n) : n ≤ 2048 := by have := of_decide_eq_true h; omega
set_option maxHeartbeats 2000000 in
theorem nGcd_any {M : List Nat} {va vb : Value} {a b : Int} {w : World} (hM : Bel M w) (ha : ZV w M va a) (hb : ZV w M vb b) (fa : fits a = true) (fb : fits b = true) :
 Calls Tryz.prog 57 #[va, vb] w (ZR w M (Int.gcd a b)) := by
 refine wid ?_
 obtain ⟨A, n, c, rfl, hx⟩ := ha
 obtain ⟨B, m, d, rfl, hy⟩ := hb
 have hf := gcd_fits fa fb
 have hn := len_fits fa hx.dlen
 have hm := len_fits fb hy.dlen
 obtain ⟨W1, hW1, F1, hx2, hy2, hM2, SB⟩ := two_start hM hx hy
 have X := Hd3 hx2 hy2 hM2
 have F := Hd F1
 have HF := Hd2 fa fb
 have e0 := F1.a0
 have e1 := F1.a1
 have e2 := F1.b0
 have e3 := F1.b1
 have HSB := Hd SB
 have Z := Hd2 (limI_ok hf) (limZ_ok hf)
 have HFF := Hd hf
 clear hx hy hM hx2 hy2 hM2 F1 fa fb SB hf
 refine entd Tryz.func57 rfl Tryz.ntmps57 ?_
 gi_wp2_with (refine Cl 97 (checks_any _ 2 2 [a, b] _ HSB.out (by simp [HF.out.1, HF.out.2])) ?_; rintro e w2 ⟨rfl, hb2⟩; have hb3 : Below W1.heap.size W1 w2 := ((Below.refl W1.heap.size W1).alloc (Nat.le_refl _) (.cells #[.bool (zneg a), .slice A n c, .bool (zneg b), .slice B m d] 29)).trans (hb2.mono (by simp)); have F2 := F.out.go hb3; have v0 := stays_drew F2.a0; have v1 := stays_drew F2.a1; have v2 := stays_drew F2.b0; have v3 := stays_drew F2.b1; have G2 := Hd2 F2 hb3; clear hb2 hb3 F2)
 refine wpIn_region_all [] [0,1,2,3,4,5] (by kernel_rfl) (by kernel_rfl) ?_
 repeat ((first | refine ord_rd ?_ | refine ord_sk ?_ | refine ord_cs ?_))
 refine ord_nil ?_; refine lit ?_
 gi_wp2
 have G3 := Hd4 (show F4 w w2.drew (zneg a) (zneg b) (.slice A n c) (.slice B m d) from ⟨G2.out.1.a0, G2.out.1.a1, G2.out.1.b0, G2.out.1.b1, G2.out.1.x0, G2.out.1.x1, G2.out.1.e0, G2.out.1.f0, G2.out.1.f1, G2.out.1.fe, G2.out.1.bl.drew, G2.out.1.sz⟩) ((X.out.1.go G2.out.2).keep (Keeps.refl _ _).drew) ((X.out.2.1.go G2.out.2).keep (Keeps.refl _ _).drew) (X.out.2.2.le (w' := w2.drew) G2.out.2.size)
 clear v0 v1 v2 v3 e0 e1 e2 e3
 gi_loopg [6, 7] (b.natAbs) (fun y s6 s7 wr => ∃ (x : Nat) (A' : Option Addr) (n' c' : Nat) (B' : Option Addr) (m' d' : Nat), s6 = .slice A' n' c' ∧ s7 = .slice B' m' d' ∧ n' ≤ 2048 ∧ m' ≤ 2048 ∧ Hid (Nat.gcd x y = Int.gcd a b ∧ F4 w wr (zneg a) (zneg b) (.slice A n c) (.slice B m d) ∧ Sl Int wr ((w.heap.size + 1 + 1) :: (w.heap.size + 1 + 1 + 1) :: M) A' n' c' (ints (dig x)) ∧ Sl Int wr ((w.heap.size + 1 + 1) :: (w.heap.size + 1 + 1 + 1) :: M) B' m' d' (ints (dig y)) ∧ Bel ((w.heap.size + 1 + 1) :: (w.heap.size + 1 + 1 + 1) :: M) wr))
 case atStart => exact ⟨a.natAbs, A, n, c, B, m, d, rfl, rfl, hn, hm, rfl, G3.out⟩
 case round =>
  obtain ⟨x, A', n', c', B', m', d', rfl, rfl, hn', hm', hr⟩ := hrel; have hm0 := hr.out.2.2.2.1.dlen
  by_cases h0 : m' = 0
  · subst h0
    have hy0 : gk = 0 := dig_nil.1 (List.length_eq_zero_iff.1 hm0); subst hy0
    have hg : bigM false x = (Int.gcd a b : Int) := by
     have := hr.out.1; rw [Nat.gcd_zero_right] at this; rw [← this]; rfl
    clear hm0
    gi_wp2_with (refine Cl 109 (big_at (v := x) hr.out.2.2.2.2 hr.out.2.2.1 hg HFF.out) ?_; rintro e w3 ⟨q, A4, n4, c4, rfl, hz4, hb3⟩; have G4 := Hd2 (hr.out.2.1.go hb3) hz4; have c0 := G4.out.1.x0; have c1 := G4.out.1.x1; have c2 := G4.out.1.e0; have d0 := G4.out.1.f0; have d1 := G4.out.1.f1; have d2 := G4.out.1.fe; clear hb3 hz4)
    obtain ⟨wF, hwF, r0, r1, r2, hzF, bF⟩ := G4.out.1.fin G4.out.2; refine leavesIn_cons (f := 96) (args := #[.pointer (some ⟨w.heap.size + 1 + 1 + 1, 0, none⟩)]) (by simp) (by simp) (by simp [go_sem]) (fun _ _ => trivial) ?_; rw [hwF]; refine (caught_idle ⟨w.heap.size + 1 + 1 + 1, 0, none⟩ _).mono ?_; rintro e u' w'' ⟨rfl, rfl, rfl⟩; refine ⟨.tuple #[.agg #[.bool q, .slice A4 n4 c4], .int .i64 0], ?_, .agg #[.bool q, .slice A4 n4 c4], by rw [Z.out.1], by rw [Z.out.2]; exact hzF, bF⟩
    simp [results, Tryz.results57, go_sem, r0, r1, r2]
  · have hy0 : 0 < gk := by
     rcases Nat.eq_zero_or_pos gk with e | e
     · subst e; rw [dig_zero] at hm0; exact absurd hm0.symm h0
     · exact e
    have hpos : 0 < m' := by omega
    have HM0 := Hd hm0; clear hm0
    gi_wp2_with (refine Cl 108 (ndiv_any (x := x) (y := gk) hr.out.2.2.2.2 hr.out.2.2.1 hr.out.2.2.2.1 (by omega) hy0) ?_; rintro e w3 ⟨O, q, cO, O2, q2, cO2, rfl, h1, h2, hb3⟩; have G4 := Hd2 h2 hb3; clear h1 h2 hb3)
    gi_roundg (x % gk)
    case measure => exact Nat.mod_lt _ hy0
    case rel =>
     have hq2 : q2 ≤ m' := by rw [← G4.out.1.dlen, ← HM0.out]; exact dig_mono (Nat.le_of_lt (Nat.mod_lt _ hy0))
     exact ⟨gk, _, _, _, _, _, _, rfl, rfl, hm', by omega, ⟨by rw [gcd_step]; exact hr.out.1, hr.out.2.1.go G4.out.2, hr.out.2.2.2.1.go G4.out.2, G4.out.1, hr.out.2.2.2.2.le G4.out.2.size⟩⟩
end
section
open Go.RowKit Go.Shelf
attribute [local go_sem] Oper.semAt_some
def QW (w : World) (M : List Nat) (v : Value) (r : Rt) : Prop :=
 ∃ A n c B m d, v = .agg #[.bool (zneg r.num), .slice A n c, .bool (zneg r.den), .slice B m d] ∧ Sl Int w M A n c (ints (zmag r.num)) ∧ Sl Int w M B m d (ints (zmag r.den))
theorem QW.go {w w' : World} {M : List Nat} {v : Value} {r : Rt} (h : QW w M v r) (hb : Below w.heap.size w w') : QW w' M v r := by
 obtain ⟨A, n, c, B, m, d, rfl, h1, h2⟩ := h
 exact ⟨A, n, c, B, m, d, rfl, h1.go hb, h2.go hb⟩
structure F6 (w W : World) (q1 q2 : Bool) (v1 v2 : Value) : Prop where
 a0 : W.cell? ⟨w.heap.size, 0, none⟩ = some (.bool q1)
 a1 : W.cell? ⟨w.heap.size, 1, none⟩ = some v1
 a2 : W.cell? ⟨w.heap.size, 2, none⟩ = some (.bool q2)
 a3 : W.cell? ⟨w.heap.size, 3, none⟩ = some v2
 b0 : W.cell? ⟨w.heap.size + 1, 0, none⟩ = some (.bool false)
 b1 : W.cell? ⟨w.heap.size + 1, 1, none⟩ = some (.slice none 0 0)
 b2 : W.cell? ⟨w.heap.size + 1, 2, none⟩ = some (.bool false)
 b3 : W.cell? ⟨w.heap.size + 1, 3, none⟩ = some (.slice none 0 0)
 f0 : W.frozen? ⟨w.heap.size + 1, 0, none⟩ = false
 f1 : W.frozen? ⟨w.heap.size + 1, 1, none⟩ = false
 f2 : W.frozen? ⟨w.heap.size + 1, 2, none⟩ = false
 f3 : W.frozen? ⟨w.heap.size + 1, 3, none⟩ = false
 bl : Below w.heap.size w W
 sz : w.heap.size + 2 ≤ W.heap.size
theorem F6.go {w W W' : World} {q1 q2 : Bool} {v1 v2 : Value} (h : F6 w W q1 q2 v1 v2) (hb : Below W.heap.size W W') : F6 w W' q1 q2 v1 v2 := by
 have hs := h.sz
 have c : ∀ (k o : Nat) (u : Value), k < w.heap.size + 2 → W.cell? ⟨k, o, none⟩ = some u → W'.cell? ⟨k, o, none⟩ = some u := fun k o u hk hu => (hb.cell (p := ⟨k, o, none⟩) (show k < _ by omega)).trans hu
 have f : ∀ (k o : Nat), k < w.heap.size + 2 → W.frozen? ⟨k, o, none⟩ = false → W'.frozen? ⟨k, o, none⟩ = false := fun k o hk hu => (hb.frozen (p := ⟨k, o, none⟩) (show k < _ by omega)).trans hu
 exact ⟨c _ _ _ (by omega) h.a0, c _ _ _ (by omega) h.a1, c _ _ _ (by omega) h.a2, c _ _ _ (by omega) h.a3, c _ _ _ (by omega) h.b0, c _ _ _ (by omega) h.b1, c _ _ _ (by omega) h.b2, c _ _ _ (by omega) h.b3,
  f _ _ (by omega) h.f0, f _ _ (by omega) h.f1, f _ _ (by omega) h.f2, f _ _ (by omega) h.f3, h.bl.trans (hb.mono h.bl.size), by have := hb.size; omega⟩
theorem F6.start (w : World) (q1 q2 : Bool) (v1 v2 : Value) :
 F6 w ((w.alloc (.cells #[.bool q1, v1, .bool q2, v2] 129)).alloc (.cells #[.bool false, .slice none 0 0, .bool false, .slice none 0 0] 31)) q1 q2 v1 v2 :=
 ⟨by simp [go_sem], by simp [go_sem], by simp [go_sem], by simp [go_sem], by simp [go_sem], by simp [go_sem], by simp [go_sem], by simp [go_sem], by simp [go_sem], by simp [go_sem], by simp [go_sem], by simp [go_sem], by exact bel, by simp⟩
theorem fin4 {w V : World} {M : List Nat} {b s : Nat} {A B : Option Addr} {n c m d : Nat} {q r : Bool} {x : Rt} {u0 u1 u2 u3 : Value} (h0 : V.cell? ⟨b, 0, none⟩ = some u0) (h1 : V.cell? ⟨b, 1, none⟩ = some u1) (h2 : V.cell? ⟨b, 2, none⟩ = some u2) (h3 : V.cell? ⟨b, 3, none⟩ = some u3)
 (hs : Sl Int V (b :: M) A n c (ints (zmag x.num))) (ht : Sl Int V (b :: M) B m d (ints (zmag x.den))) (hq : zneg x.num = q) (hr : zneg x.den = r) (hb : Below s w V) (hsb : s ≤ b) :
 ∃ wF, (((V.setCell ⟨b, 0, none⟩ (.bool q)).setCell ⟨b, 1, none⟩ (.slice A n c)).setCell ⟨b, 2, none⟩ (.bool r)).setCell ⟨b, 3, none⟩ (.slice B m d) = wF ∧
  wF.cell? ⟨b, 0, none⟩ = some (.bool q) ∧ wF.cell? ⟨b, 1, none⟩ = some (.slice A n c) ∧ wF.cell? ⟨b, 2, none⟩ = some (.bool r) ∧ wF.cell? ⟨b, 3, none⟩ = some (.slice B m d) ∧
  QW wF M (.agg #[.bool q, .slice A n c, .bool r, .slice B m d]) x ∧ Below s w wF := by
 have kp := (((((Keeps.refl (b :: M) V).setCell (p := ⟨b, 0, none⟩) (.inl (by simp)) (.bool q)).setCell (p := ⟨b, 1, none⟩) (.inl (by simp)) (.slice A n c)).setCell (p := ⟨b, 2, none⟩) (.inl (by simp)) (.bool r)).setCell (p := ⟨b, 3, none⟩) (.inl (by simp)) (.slice B m d))
 refine ⟨_, rfl, ?_, ?_, ?_, ?_, ⟨A, n, c, B, m, d, by rw [hq, hr], (hs.keep kp).less (fun k hk => List.mem_cons_of_mem _ hk), (ht.keep kp).less (fun k hk => List.mem_cons_of_mem _ hk)⟩, ?_⟩
 · simp [go_sem, h0, h1, h2, h3]
 · simp [go_sem, h0, h1, h2, h3]
 · simp [go_sem, h0, h1, h2, h3]
 · simp [go_sem, h0, h1, h2, h3]
 · exact (((hb.setCell (p := ⟨b, 0, none⟩) hsb _).setCell (p := ⟨b, 1, none⟩) hsb _).setCell (p := ⟨b, 2, none⟩) hsb _).setCell (p := ⟨b, 3, none⟩) hsb _
theorem neg_len {z : Int} {n : Nat} (hl : (zmag z).length = n) : zneg (-z) = (!zneg z && decide (0 < n)) := by
 subst hl
 unfold zneg
 by_cases h0 : z = 0
 · subst h0; simp [zmag, dig_zero]
 · have : (zmag z).length ≠ 0 := by
    intro e; have := dig_nil.1 (List.length_eq_zero_iff.1 e); omega
   by_cases h1 : z < 0
   · simp [h1]; omega
   · simp [h1]; omega
theorem zmag_neg (z : Int) : zmag (-z) = zmag z := by unfold zmag; rw [Int.natAbs_neg]
theorem div_sign {n : Int} {g : Nat} (hg : (g : Int) ∣ n) (h0 : 0 < g) : zneg (n / (g : Int)) = zneg n := by
 obtain ⟨a, rfl⟩ := hg
 rw [Int.mul_ediv_cancel_left _ (by omega)]
 unfold zneg
 by_cases h : a < 0
 · have := Int.mul_neg_of_pos_of_neg (show (0 : Int) < g by omega) h
   simp [h, this]
 · have := Int.mul_nonneg (show (0 : Int) ≤ g by omega) (show 0 ≤ a by omega)
   simp [h]; omega
theorem div_mod {n : Int} {g : Nat} (hg : (g : Int) ∣ n) : n.natAbs % (g : Int).natAbs = 0 := by
 rw [Int.natAbs_natCast]
 exact Nat.mod_eq_zero_of_dvd (Int.natAbs_dvd_natAbs.2 hg)
theorem al2a {w W : World} {a b c d : Value} {e f : TypeId} (h : (w.alloc (.cells #[a, b] e)).alloc (.cells #[c, d] f) = W) : W.cell? ⟨w.heap.size, 0, none⟩ = some a := by rw [← h]; simp [go_sem]
theorem al2b {w W : World} {a b c d : Value} {e f : TypeId} (h : (w.alloc (.cells #[a, b] e)).alloc (.cells #[c, d] f) = W) : W.cell? ⟨w.heap.size, 1, none⟩ = some b := by rw [← h]; simp [go_sem]
theorem al2f {w W : World} {a b c d : Value} {e f : TypeId} (h : (w.alloc (.cells #[a, b] e)).alloc (.cells #[c, d] f) = W) : W.frozen? ⟨w.heap.size, 0, none⟩ = false := by rw [← h]; simp [go_sem]
theorem al2g {w W : World} {a b c d : Value} {e f : TypeId} (h : (w.alloc (.cells #[a, b] e)).alloc (.cells #[c, d] f) = W) : W.frozen? ⟨w.heap.size, 1, none⟩ = false := by rw [← h]; simp [go_sem]
set_option maxRecDepth 100000 in
theorem walkL {p : Prop} (h : p := by
 refine ent Tryz.func111 rfl Tryz.ntmps111 ?_
 gi_wp2_with (first
  | (refine ⟨trivial, ?_⟩; gi_at_call 128; have g := G4.out; clear g
     have hs25 := (((G2.out.2.less (M' := (w.heap.size + 1) :: M) (fun k hk => List.mem_cons_of_mem _ hk)).more (b := w4.heap.size) G4.out.2.2.1.size).keep (Keeps.of_below (G4.out.2.2.1.trans (G4.out.2.2.2.mono G4.out.2.2.1.size)) _))
     refine Cn (nDiv_any (a := d) (b := (g : Int)) (HB.out W5 w4.heap.size G4.out.1.bl G4.out.1.sz (by rw [← hW5]; simp; omega)) (HN.out.2 W5 w4.heap.size G4.out.1.bl (by have := G4.out.2.2.1.size; have := G2.out.1.sz; omega)) ⟨Ag, ng, cg, by rw [HY.out.2.2.1], hs25⟩ HF.out.2 HY.out.2.2.2.1 HGP.out HY.out.2.1) ?_; rintro e w6 ⟨u6, v6, rfl, ⟨A6, n6, c6, rfl, hs6⟩, ⟨A7, n7, c7, rfl, hs7⟩, hb6⟩; rw [HZ.out.2, show zneg 0 = false from rfl]; have F6' := G4.out.1.go hb6
     have hnc : w4.heap.size < W5.heap.size := by rw [← hW5]; simp; omega
     first
      | (have z : _ = false := HZ.out.2; clear z; obtain ⟨W7, hW7⟩ : ∃ W7, (w6.alloc (.cells #[.bool false, .slice A6 n6 c6] 29)).alloc (.cells #[.bool false, .slice A7 n7 c7] 29) = W7 := ⟨_, rfl⟩)
      | (obtain ⟨W7, hW7⟩ : ∃ W7, (w6.alloc (.cells #[.bool true, .slice A6 n6 c6] 29)).alloc (.cells #[.bool false, .slice A7 n7 c7] 29) = W7 := ⟨_, rfl⟩)
     have hb7 : Below w6.heap.size w6 W7 := by rw [← hW7]; exact bel
     have F7 := F6'.go hb7
     have hnd : w4.heap.size < w6.heap.size := by have := hb6.size; omega
     have m0 := (hb7.cell (p := ⟨w4.heap.size, 0, none⟩) hnd).trans ((hb6.cell (p := ⟨w4.heap.size, 0, none⟩) hnc).trans N0); have m1 := (hb7.cell (p := ⟨w4.heap.size, 1, none⟩) hnd).trans ((hb6.cell (p := ⟨w4.heap.size, 1, none⟩) hnc).trans N1); have m2 := (hb7.frozen (p := ⟨w4.heap.size, 0, none⟩) hnd).trans ((hb6.frozen (p := ⟨w4.heap.size, 0, none⟩) hnc).trans N2); have m3 := (hb7.frozen (p := ⟨w4.heap.size, 1, none⟩) hnd).trans ((hb6.frozen (p := ⟨w4.heap.size, 1, none⟩) hnc).trans N3); have l0 := al2a hW7; have l1 := al2b hW7; have l2 := al2f hW7; have l3 := al2g hW7; have r0 := F7.b0; have r1 := F7.b1; have r2 := F7.b2; have r3 := F7.b3; have x0 := F7.f0; have x1 := F7.f1; have x2 := F7.f2; have x3 := F7.f3
     have hnn : w.heap.size + 1 < w4.heap.size := by have := G2.out.1.sz; have := G4.out.2.2.1.size; omega
     have ne1 : ¬ w4.heap.size = w6.heap.size := by omega
     have ne2 : ¬ w6.heap.size = w4.heap.size := by omega
     have ne3 : ¬ w4.heap.size = w.heap.size + 1 := by omega
     have ne4 : ¬ w.heap.size + 1 = w4.heap.size := by omega
     have ne5 : ¬ w6.heap.size = w.heap.size + 1 := by omega
     have ne6 : ¬ w.heap.size + 1 = w6.heap.size := by omega
     have G6 := Hd7 F6' hs6 hb6 hnc hb7 hnd hnn; clear hb7 F7 hnd hnn
     clear hs6 hs7 hb6 F6' hnc hs25)
  | (refine ⟨trivial, ?_⟩; gi_at_call 128; have g := G3.out; clear g
     refine Cn (nDiv_any (a := n) (b := (g : Int)) (HB.out W3 (w.heap.size + 1) G3.out.1.bl G3.out.1.sz (by have := G3.out.1.sz; omega)) (HN.out.1 W3 (w.heap.size + 1) G3.out.1.bl (by omega)) ⟨Ag, ng, cg, by rw [HY.out.2.2.1], (G2.out.2.go G3.out.2.1).go G3.out.2.2⟩ HF.out.1 HY.out.2.2.2.1 HGP.out HY.out.1) ?_; rintro e w4 ⟨u4, v4, rfl, ⟨A4, n4, c4, rfl, hs4⟩, ⟨A5, n5, c5, rfl, hs5⟩, hb4⟩; rw [HZ.out.1, show zneg 0 = false from rfl]; have F4 := G3.out.1.go hb4
     first
      | (have z : _ = false := HZ.out.1; clear z; obtain ⟨W5, hW5⟩ : ∃ W5, (w4.alloc (.cells #[.bool false, .slice A4 n4 c4] 29)).alloc (.cells #[.bool false, .slice A5 n5 c5] 29) = W5 := ⟨_, rfl⟩)
      | (obtain ⟨W5, hW5⟩ : ∃ W5, (w4.alloc (.cells #[.bool true, .slice A4 n4 c4] 29)).alloc (.cells #[.bool false, .slice A5 n5 c5] 29) = W5 := ⟨_, rfl⟩)
     have hb5 : Below w4.heap.size w4 W5 := by rw [← hW5]; exact bel
     have F5 := F4.go hb5; have s3 := G3.out.2.2.size
     have hgc : w3.heap.size < W3.heap.size := by rw [← hW3]; simp
     have g0' := (hb5.cell (p := ⟨w3.heap.size, 0, none⟩) (by have := hb4.size; show w3.heap.size < _; omega)).trans ((hb4.cell (p := ⟨w3.heap.size, 0, none⟩) hgc).trans g0); have g1' := (hb5.cell (p := ⟨w3.heap.size, 1, none⟩) (by have := hb4.size; show w3.heap.size < _; omega)).trans ((hb4.cell (p := ⟨w3.heap.size, 1, none⟩) hgc).trans g1); have p0 := F5.a0; have p1 := F5.a1; have p2 := F5.a2; have p3 := F5.a3; have N0 := al2a hW5; have N1 := al2b hW5; have N2 := al2f hW5; have N3 := al2g hW5; have G4 := Hd4 F5 hs4 ((G3.out.2.1.trans (G3.out.2.2.mono G3.out.2.1.size)).trans (hb4.mono (by have := G3.out.2.1.size; omega))) hb5
     clear hs4 hs5 hb4 F4 F5 hb5 s3 hgc)
  | (refine Cl 94 (didB_yes (z := (g : Int)) ⟨Ag, ng, cg, by rw [HY.out.2.2.1], G2.out.2⟩) ?_
     rintro e w3 ⟨rfl, -, hb3⟩; have F3 := G2.out.1.go hb3
     obtain ⟨W3, hW3⟩ : ∃ W3, w3.alloc (.cells #[.bool false, .slice Ag ng cg] 29) = W3 := ⟨_, rfl⟩
     have hb33 : Below w3.heap.size w3 W3 := by rw [← hW3]; exact bel
     have F33 := F3.go hb33
     have g0 : W3.cell? ⟨w3.heap.size, 0, none⟩ = some (.bool false) := by rw [← hW3]; simp [go_sem]
     have g1 : W3.cell? ⟨w3.heap.size, 1, none⟩ = some (.slice Ag ng cg) := by rw [← hW3]; simp [go_sem]
     have u0 := F33.a0; have u1 := F33.a1; have u2 := F33.a2; have u3 := F33.a3; have G3 := Hd3 F33 hb3 hb33
     clear hb3 F3 hb33 F33)
  | (refine Cl 57 (nGcd_any (a := n) (b := d) (HB.out W1 (w.heap.size + 1) F.out.bl F.out.sz (by have := F.out.sz; omega)) (HN.out.1 W1 _ F.out.bl (by omega)) (HN.out.2 W1 _ F.out.bl (by omega)) HF.out.1 HF.out.2) ?_; rintro e w2 ⟨u2, rfl, hz2, hb2⟩; rw [HGE.out, HG.out.1]; rw [HGE.out, HG.out.2] at hz2; obtain ⟨Ag, ng, cg, rfl, hs2⟩ := hz2; rw [HY.out.2.2.1]; have G2 := Hd2 (F.out.go hb2) hs2; clear hs2 hb2)
  | fail)
 obtain ⟨F6', hs6, hb6, hnc, hb7, hnd, hnn⟩ := G6.out
 have b7 : Below w.heap.size w W7 := F6'.bl.trans (hb7.mono F6'.bl.size)
 have hb46 : Below w4.heap.size w4 w6 := G4.out.2.2.2.trans (hb6.mono (Nat.le_of_lt hnc))
 have hl4 := G4.out.2.1.dlen
 have kV0 : Keeps (w6.heap.size :: w4.heap.size :: (w.heap.size + 1) :: M) w6 W7 := Keeps.of_below hb7 _
 have fin : ∀ (V : World) (x : Rt) (q : Bool), Keeps (w6.heap.size :: w4.heap.size :: (w.heap.size + 1) :: M) w6 V → Below w.heap.size w V → (V.cell? ⟨w.heap.size + 1, 0, none⟩ = some (.bool false) ∧ V.cell? ⟨w.heap.size + 1, 1, none⟩ = some (.slice none 0 0) ∧ V.cell? ⟨w.heap.size + 1, 2, none⟩ = some (.bool false) ∧ V.cell? ⟨w.heap.size + 1, 3, none⟩ = some (.slice none 0 0)) →
  lowM n d = x → zneg x.num = q → zneg x.den = false → zmag x.num = zmag (n / (g : Int)) → zmag x.den = zmag (d / (g : Int)) →
  ∃ wF, (((V.setCell ⟨w.heap.size + 1, 0, none⟩ (.bool q)).setCell ⟨w.heap.size + 1, 1, none⟩ (.slice A4 n4 c4)).setCell ⟨w.heap.size + 1, 2, none⟩ (.bool false)).setCell ⟨w.heap.size + 1, 3, none⟩ (.slice A6 n6 c6) = wF ∧
   wF.cell? ⟨w.heap.size + 1, 0, none⟩ = some (.bool q) ∧ wF.cell? ⟨w.heap.size + 1, 1, none⟩ = some (.slice A4 n4 c4) ∧ wF.cell? ⟨w.heap.size + 1, 2, none⟩ = some (.bool false) ∧ wF.cell? ⟨w.heap.size + 1, 3, none⟩ = some (.slice A6 n6 c6) ∧
   QW wF M (.agg #[.bool q, .slice A4 n4 c4, .bool false, .slice A6 n6 c6]) (lowM n d) ∧ Below w.heap.size w wF := by
  intro V x q kV bV ⟨v0, v1, v2, v3⟩ hx sg1 sg2 mg1 mg2; have hA := (((((G4.out.2.1.less (M' := (w.heap.size + 1) :: M) (fun k hk => List.mem_cons_of_mem _ hk)).more (b := w4.heap.size) (Nat.le_refl _)).keep (Keeps.of_below hb46 _)).more (b := w6.heap.size) (Nat.le_refl _)).keep kV).less (M' := (w.heap.size + 1) :: M) (fun k hk => List.mem_cons_of_mem _ (List.mem_cons_of_mem _ hk)); have hB := ((hs6.more (b := w6.heap.size) (Nat.le_refl _)).keep kV).less (M' := (w.heap.size + 1) :: M) (fun k hk => List.mem_cons_of_mem _ (List.mem_cons_of_mem _ hk)); rw [← mg1] at hA; rw [← mg2] at hB; rw [hx]; exact fin4 v0 v1 v2 v3 hA hB sg1 sg2 bV (Nat.le_succ _)
 have low : lowM n d = if d / (g : Int) < 0 then ⟨-(n / (g : Int)), -(d / (g : Int))⟩ else ⟨n / (g : Int), d / (g : Int)⟩ := HY.out.2.2.2.2
 have bN : ∀ x, Below w.heap.size w ((W7.setCell ⟨w6.heap.size, 0, none⟩ (.bool false)).setCell ⟨w4.heap.size, 0, none⟩ (.bool x)) := fun x => (b7.setCell (p := ⟨w6.heap.size, 0, none⟩) (by simp; omega) _).setCell (p := ⟨w4.heap.size, 0, none⟩) (by simp; omega) _
 have kN : ∀ x, Keeps (w6.heap.size :: w4.heap.size :: (w.heap.size + 1) :: M) w6 ((W7.setCell ⟨w6.heap.size, 0, none⟩ (.bool false)).setCell ⟨w4.heap.size, 0, none⟩ (.bool x)) := fun x => (kV0.setCell (p := ⟨w6.heap.size, 0, none⟩) (.inl (by simp)) _).setCell (p := ⟨w4.heap.size, 0, none⟩) (.inl (by simp)) _
 have cN : ∀ x k v, k < 4 → W7.cell? ⟨w.heap.size + 1, k, none⟩ = some v → ((W7.setCell ⟨w6.heap.size, 0, none⟩ (.bool false)).setCell ⟨w4.heap.size, 0, none⟩ (.bool x)).cell? ⟨w.heap.size + 1, k, none⟩ = some v := fun x k v _ h => by simp [go_sem, h, ne1, ne2, ne3, ne4, ne5, ne6]
 first
  | (have z : _ = false := HZ.out.2
     have zd := z; unfold zneg at zd; obtain ⟨wF, hwF, t0, t1, t2, t3, hQ, bF⟩ := fin W7 _ _ kV0 b7 ⟨r0, r1, r2, r3⟩ (low.trans (if_neg (of_decide_eq_false zd))) HZ.out.1 z rfl rfl; rw [hwF]
     exact ⟨rfl, _, by simp [results, go_sem, t0, t1, t2, t3]; rfl, _, rfl, by exact hQ, bF⟩)
  | (have z : _ = true := HZ.out.2
     have zd := z; unfold zneg at zd
     have sg : ∀ q, (!zneg (n / (g : Int)) && decide (0 < n4)) = q → zneg (-(n / (g : Int))) = q := fun q hq => by rw [neg_len hl4]; exact hq
     have sd : zneg (-(d / (g : Int))) = false := by rw [neg_len rfl, z]; rfl
     first
      | (have z1 : _ = false := HZ.out.1
         obtain ⟨wF, hwF, t0, t1, t2, t3, hQ, bF⟩ := fin _ _ (decide (0 < n4)) (kN (decide (0 < n4))) (bN _) ⟨cN _ 0 _ (by omega) r0, cN _ 1 _ (by omega) r1, cN _ 2 _ (by omega) r2, cN _ 3 _ (by omega) r3⟩ (low.trans (if_pos (of_decide_eq_true zd))) (sg _ (by rw [z1]; rfl)) sd (zmag_neg _) (zmag_neg _); rw [hwF]
         exact ⟨rfl, _, by simp [results, go_sem, t0, t1, t2, t3]; rfl, _, rfl, by exact hQ, bF⟩)
      | (have z1 : _ = true := HZ.out.1
         obtain ⟨wF, hwF, t0, t1, t2, t3, hQ, bF⟩ := fin _ _ false (kN false) (bN _) ⟨cN _ 0 _ (by omega) r0, cN _ 1 _ (by omega) r1, cN _ 2 _ (by omega) r2, cN _ 3 _ (by omega) r3⟩ (low.trans (if_pos (of_decide_eq_true zd))) (sg _ (by rw [z1]; rfl)) sd (zmag_neg _) (zmag_neg _); rw [hwF]
         exact ⟨rfl, _, by simp [results, go_sem, t0, t1, t2, t3]; rfl, _, rfl, by exact hQ, bF⟩))) : p := h
set_option maxHeartbeats 4000000 in
theorem lowest_any {M : List Nat} {A B : Option Addr} {k1 c1 k2 c2 : Nat} {n d : Int} {w : World} (hM : Bel M w) (hx : Sl Int w M A k1 c1 (ints (zmag n))) (hy : Sl Int w M B k2 c2 (ints (zmag d))) (fn : fits n = true) (fd : fits d = true) (h0 : d ≠ 0) :
 Calls Tryz.prog 111 #[.agg #[.bool (zneg n), .slice A k1 c1, .bool (zneg d), .slice B k2 c2]] w fun e w' => ∃ u, e = .returned u ∧ QW w' M u (lowM n d) ∧ Below w.heap.size w w' := by
 refine wid ?_
 have hgp : 0 < Int.gcd n d := Int.gcd_pos_iff.2 (.inr h0)
 have hd1 : (Int.gcd n d : Int) ∣ n := Int.gcd_dvd_left ..
 have hd2 : (Int.gcd n d : Int) ∣ d := Int.gcd_dvd_right ..
 have z1 := div_sign hd1 hgp
 have z2 := div_sign hd2 hgp
 have y1 := div_mod hd1
 have y2 := div_mod hd2
 have z3 : zneg (Int.gcd n d : Int) = false := decide_eq_false (by omega)
 have hgf := gcd_fits fn fd
 have hlow : lowM n d = if d / (Int.gcd n d : Int) < 0 then ⟨-(n / (Int.gcd n d : Int)), -(d / (Int.gcd n d : Int))⟩ else ⟨n / (Int.gcd n d : Int), d / (Int.gcd n d : Int)⟩ := rfl
 generalize hge : Int.gcd n d = g at *
 have HGE := Hd hge
 have HG := Hd2 (limI_ok hgf) (limZ_ok hgf)
 have HY := Hd5 y1 y2 z3 hgf hlow
 have HGP := Hd (show (0 : Int) < (g : Int) by omega)
 have HF := Hd2 fn fd
 obtain ⟨q1, hq1⟩ : ∃ q, zneg n = q := ⟨_, rfl⟩
 obtain ⟨q2, hq2⟩ : ∃ q, zneg d = q := ⟨_, rfl⟩
 rw [hq1] at z1
 rw [hq2] at z2
 rw [hq1, hq2]
 have HZ := Hd2 z1 z2
 have X := Hd5 hx hy hM hq1 hq2
 obtain ⟨W1, hW1⟩ : ∃ W1 : World, (w.alloc (.cells #[.bool q1, .slice A k1 c1, .bool q2, .slice B k2 c2] 129)).alloc (.cells #[.bool false, .slice none 0 0, .bool false, .slice none 0 0] 31) = W1 := ⟨_, rfl⟩
 have F1 : F6 w W1 q1 q2 (.slice A k1 c1) (.slice B k2 c2) := by rw [← hW1]; exact F6.start w _ _ _ _
 have F := Hd F1
 have e0 := F1.a0
 have e1 := F1.a1
 have e2 := F1.a2
 have e3 := F1.a3
 have hn : ∀ (W : World) (b : Nat), Below w.heap.size w W → w.heap.size ≤ b → ZV W (b :: (w.heap.size + 1) :: M) (.agg #[.bool q1, .slice A k1 c1]) n := fun W b hb hle =>
  ⟨A, k1, c1, by rw [hq1], (((hx.more (b := w.heap.size + 1) (by omega)).more (b := b) hle).keep (Keeps.of_below hb _))⟩
 have hd : ∀ (W : World) (b : Nat), Below w.heap.size w W → w.heap.size ≤ b → ZV W (b :: (w.heap.size + 1) :: M) (.agg #[.bool q2, .slice B k2 c2]) d := fun W b hb hle =>
  ⟨B, k2, c2, by rw [hq2], (((hy.more (b := w.heap.size + 1) (by omega)).more (b := b) hle).keep (Keeps.of_below hb _))⟩
 have HN := Hd2 hn hd
 have hB : ∀ (W : World) (b : Nat), Below w.heap.size w W → w.heap.size + 2 ≤ W.heap.size → b < W.heap.size → Bel (b :: (w.heap.size + 1) :: M) W := by
  intro W b hb hs hle k hk; simp only [List.mem_cons] at hk
  rcases hk with rfl | rfl | hk
  · exact hle
  · omega
  · have := hM k hk; omega
 have HB := Hd hB
 clear hx hy hM F1 fn fd hq1 hq2 hgf z1 z2 z3 y1 y2 hlow hd1 hd2 hgp hn hd hB hge
 clear h0
 cases q1 <;> cases q2 <;> exact walkL
end
end Go.Proofs.YtboapndkopabiaaGreat
