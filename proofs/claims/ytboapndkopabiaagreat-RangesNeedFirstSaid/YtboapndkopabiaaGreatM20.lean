/- Lemmas and walks (Ref5 Ref6 Ref7 Ref8). No statement is proved here. -/
import Derived.Test.YtboapndkopabiaaGreatM19
set_option linter.unusedVariables false
set_option linter.unusedSimpArgs false
namespace Go.Proofs.YtboapndkopabiaaGreat
section
open Go.RowKit Go.Shelf
attribute [local go_sem] Oper.semAt_some
set_option maxRecDepth 20000 in
set_option maxHeartbeats 400000 in
theorem rMake_pos {M : List Nat} {n : Int} {w : World} (hM : Bel M w) (hn : i64 n) (hs : 0 ≤ n) :
 Calls Tryz.prog 51 #[.int .i64 n] w fun e w' => ∃ u, e = .returned u ∧ ZV w' M u n ∧ Below w.heap.size w w' := by
 refine wid ?_
 have hx3 : (dig n.natAbs).length ≤ 3 := dig_low (by unfold i64 at hn; omega)
 obtain ⟨x, hx⟩ : ∃ x, n.natAbs = x := ⟨_, rfl⟩
 have hxl : x ≤ 9223372036854775808 := by unfold i64 at hn; omega
 obtain rfl : n = (x : Int) := by omega
 have hlt : decide (((x : Int) : Int) < 0) = false := by simp; try omega
 rw [hx] at hx3
 have P := Hd4 hx3 hM hx hlt
 unfold i64 at hn
 clear hx3 hM hx
 refine ent Tryz.func51 rfl Tryz.ntmps51 ?_
 gi_wp2
 gi_loopw [3, 4] (fun v u wr => ∃ (k r : Nat) (out : List Nat), r ≤ x ∧ u = .int .i64 ((r : Int)) ∧ Hid (dig x = out ++ dig r ∧ out.length = k) ∧ Hid (wr.ownsRow (w.heap.size + 1) 3 1 v k ((ints out).map (Value.int .i64))) ∧ Below w.heap.size w wr ∧ w.heap.size + 1 ≤ wr.heap.size ∧ wr.cell? ⟨w.heap.size, 0, none⟩ = some (.bool false) ∧ wr.cell? ⟨w.heap.size, 1, none⟩ = some (.slice none 0 0) ∧ wr.frozen? ⟨w.heap.size, 0, none⟩ = false ∧ wr.frozen? ⟨w.heap.size, 1, none⟩ = false) (fun _ u _ => (intOf u).natAbs)
 case atStart =>
  have own0 := World.ownsRow_lit (base := w.heap.size + 1) (size := 1) (e := 3) (w.alloc (.cells #[.bool false, .slice none 0 0] 29)) #[] 0 (by simp) (by simp [maxLen]) rfl; rw [show (w.alloc (.cells #[.bool false, .slice none 0 0] 29)).heap.size = w.heap.size + 1 by simp] at own0; exact ⟨0, x, [], Nat.le_refl _, rfl, Hd2 (List.nil_append _).symm rfl, own0, by exact bel, by simp, by simp [go_sem], by simp [go_sem], by simp [go_sem], by simp [go_sem]⟩
 case round =>
  obtain ⟨k, r, out, hr, rfl, hI, hO, hb, hsz, c0, c1, f0, f1⟩ := hrel
  by_cases hr0 : 0 < r
  · have hk : k ≤ 3 := by have := P.out.1; rw [hI.out.1, List.length_append, hI.out.2] at this; omega
    obtain ⟨v', W', r1, r2, r3, gg, cc, rfl⟩ := snoc_int hO.out hsz (by omega) ((r % BB : Nat) : Int); rw [show ints out ++ [((r % BB : Nat) : Int)] = ints (out ++ [r % BB]) by simp [ints]] at r2
    have hstep : dig x = (out ++ [r % BB]) ++ dig (r / BB) ∧ (out ++ [r % BB]).length = k + 1 := by
     refine ⟨?_, by simp [hI.out.2]⟩; rw [hI.out.1, dig_pos (by omega)]; simp
    have hd1 : r / BB < r := Nat.div_lt_self hr0 BB_two; have HAP := Hd r1; have HR := Hd4 r2 (hb.trans (r3.mono (by omega))) hstep hd1; have hs3 := r3.size; have hmb : r % BB ≤ 1073741823 := BB_le (Nat.mod_lt _ BB_pos); have hqb : r / BB ≤ r := Nat.div_le_self _ _
    have t1 : (r : Int).tmod 1073741824 = ((r % BB : Nat) : Int) := by rw [Int.tmod_eq_emod_of_nonneg (by omega)]; rfl
    have t2 : (r : Int).tdiv 1073741824 = ((r / BB : Nat) : Int) := by rw [Int.tdiv_eq_ediv_of_nonneg (by omega)]; rfl
    have e1 : ((r : Int)).tmod 1073741824 = (r % BB : Nat) := by first | exact t1 | (rw [Int.neg_tmod, t1])
    have e2 : ((r : Int)).tdiv 1073741824 = ((r / BB : Nat) : Int) := by first | exact t2 | (rw [Int.neg_tdiv, t2])
    have e3 : (r : Int) % 1073741824 = ((r % BB : Nat) : Int) := rfl; have e4 : (r : Int) / 1073741824 = ((r / BB : Nat) : Int) := rfl; have c0' := (r3.cell (p := ⟨w.heap.size, 0, none⟩) (Nat.lt_succ_self _)).trans c0; have c1' := (r3.cell (p := ⟨w.heap.size, 1, none⟩) (Nat.lt_succ_self _)).trans c1; have f0' := (r3.frozen (p := ⟨w.heap.size, 0, none⟩) (Nat.lt_succ_self _)).trans f0; have f1' := (r3.frozen (p := ⟨w.heap.size, 1, none⟩) (Nat.lt_succ_self _)).trans f1; have HC := Hd4 c0' c1' f0' f1'; clear c0' c1' f0' f1' c0 c1 f0 f1; clear r1 r2 r3 hstep hI hO hd1
    obtain ⟨rm, hrm⟩ : ∃ rm, r % BB = rm := ⟨_, rfl⟩
    obtain ⟨rq, hrq⟩ : ∃ rq, r / BB = rq := ⟨_, rfl⟩
    rw [hrm] at HAP HR e1 e3 t1 hmb; rw [hrq] at HR e2 e4 t2 hqb; clear hrm hrq
    rcases Nat.eq_zero_or_pos rm with rfl | hm0
    · rw [show ((0 : Nat) : Int) = 0 from rfl] at HAP
      gi_wp2_with (gi_at_builtin; refine wpListIn_plain rfl fun K hK' => ?_; refine wpIn_append _ _ _ rfl rfl rfl HAP.out (hK' _ _ ?_); clear hK' K)
      exact ⟨⟨k + 1, rq, _, by omega, rfl, HR.out.2.2.1, HR.out.1, HR.out.2.1, by omega, HC.out.1, HC.out.2.1, HC.out.2.2.1, HC.out.2.2.2⟩, by have := HR.out.2.2.2; simp [intOf]; omega⟩
    · have hm1 : ¬ rm = 0 := by omega
      gi_wp2_with (gi_at_builtin; refine wpListIn_plain rfl fun K hK' => ?_; refine wpIn_append _ _ _ rfl rfl rfl HAP.out (hK' _ _ ?_); clear hK' K)
      exact ⟨⟨k + 1, rq, _, by omega, rfl, HR.out.2.2.1, HR.out.1, HR.out.2.1, by omega, HC.out.1, HC.out.2.1, HC.out.2.2.1, HC.out.2.2.2⟩, by have := HR.out.2.2.2; simp [intOf]; omega⟩
  · obtain rfl : r = 0 := by omega
    have hk : k ≤ 3 := by have := P.out.1; rw [hI.out.1, List.length_append, hI.out.2] at this; omega
    have hd : dig x = out := by have := hI.out.1; rwa [dig_zero, List.append_nil] at this
    have hg : Good out := by rw [← hd]; exact good_dig x
    obtain ⟨O, cO, rfl, hsl⟩ := Sl.of_own hO.out (ints_i64 hg) (by omega) (M := w.heap.size :: M) (by
     intro j hj
     rcases List.mem_cons.1 hj with rfl | hj
     · omega
     · have := P.out.2.1 j hj; omega)
    rw [← hd] at hsl
    have hz : ZV wr (w.heap.size :: M) (.agg #[.bool false, .slice O k cO]) ((x : Int)) := ⟨O, k, cO, by rw [show zneg ((x : Int)) = false from P.out.2.2.2], by rw [show zmag ((x : Int)) = dig x from by unfold zmag; rw [P.out.2.2.1]]; exact hsl⟩
    obtain ⟨wF, hwF, r0, r1, hzF, hbF⟩ := fin2 (M := M) c0 c1 hz hb (Nat.le_refl _); have HF := Hd5 hwF r0 r1 hzF hbF; clear hwF r0 r1 hzF hbF hz hsl hO hI hd hg; gi_wp2
    first
     | rw [HF.out.1]
     | rw [show decide (0 < x) = true from decide_eq_true (by omega), HF.out.1]
    exact ⟨rfl, .agg #[.bool false, .slice O k cO], by simp [results, go_sem, HF.out.2.1, HF.out.2.2.1], _, rfl, HF.out.2.2.2.1, HF.out.2.2.2.2⟩
set_option maxRecDepth 20000 in
set_option maxHeartbeats 400000 in
theorem rMake_neg {M : List Nat} {n : Int} {w : World} (hM : Bel M w) (hn : i64 n) (hs : n < 0) :
 Calls Tryz.prog 51 #[.int .i64 n] w fun e w' => ∃ u, e = .returned u ∧ ZV w' M u n ∧ Below w.heap.size w w' := by
 refine wid ?_
 have hx3 : (dig n.natAbs).length ≤ 3 := dig_low (by unfold i64 at hn; omega)
 obtain ⟨x, hx⟩ : ∃ x, n.natAbs = x := ⟨_, rfl⟩
 have hxl : x ≤ 9223372036854775808 := by unfold i64 at hn; omega
 obtain rfl : n = -(x : Int) := by omega
 have hlt : decide ((-(x : Int) : Int) < 0) = true := by simp; try omega
 rw [hx] at hx3
 have P := Hd4 hx3 hM hx hlt
 unfold i64 at hn
 clear hx3 hM hx
 refine ent Tryz.func51 rfl Tryz.ntmps51 ?_
 gi_wp2
 gi_loopw [3, 4] (fun v u wr => ∃ (k r : Nat) (out : List Nat), r ≤ x ∧ u = .int .i64 (-(r : Int)) ∧ Hid (dig x = out ++ dig r ∧ out.length = k) ∧ Hid (wr.ownsRow (w.heap.size + 1) 3 1 v k ((ints out).map (Value.int .i64))) ∧ Below w.heap.size w wr ∧ w.heap.size + 1 ≤ wr.heap.size ∧ wr.cell? ⟨w.heap.size, 0, none⟩ = some (.bool false) ∧ wr.cell? ⟨w.heap.size, 1, none⟩ = some (.slice none 0 0) ∧ wr.frozen? ⟨w.heap.size, 0, none⟩ = false ∧ wr.frozen? ⟨w.heap.size, 1, none⟩ = false) (fun _ u _ => (intOf u).natAbs)
 case atStart =>
  have own0 := World.ownsRow_lit (base := w.heap.size + 1) (size := 1) (e := 3) (w.alloc (.cells #[.bool false, .slice none 0 0] 29)) #[] 0 (by simp) (by simp [maxLen]) rfl; rw [show (w.alloc (.cells #[.bool false, .slice none 0 0] 29)).heap.size = w.heap.size + 1 by simp] at own0; exact ⟨0, x, [], Nat.le_refl _, rfl, Hd2 (List.nil_append _).symm rfl, own0, by exact bel, by simp, by simp [go_sem], by simp [go_sem], by simp [go_sem], by simp [go_sem]⟩
 case round =>
  obtain ⟨k, r, out, hr, rfl, hI, hO, hb, hsz, c0, c1, f0, f1⟩ := hrel
  by_cases hr0 : 0 < r
  · have hk : k ≤ 3 := by have := P.out.1; rw [hI.out.1, List.length_append, hI.out.2] at this; omega
    obtain ⟨v', W', r1, r2, r3, gg, cc, rfl⟩ := snoc_int hO.out hsz (by omega) ((r % BB : Nat) : Int); rw [show ints out ++ [((r % BB : Nat) : Int)] = ints (out ++ [r % BB]) by simp [ints]] at r2
    have hstep : dig x = (out ++ [r % BB]) ++ dig (r / BB) ∧ (out ++ [r % BB]).length = k + 1 := by
     refine ⟨?_, by simp [hI.out.2]⟩; rw [hI.out.1, dig_pos (by omega)]; simp
    have hd1 : r / BB < r := Nat.div_lt_self hr0 BB_two; have HAP := Hd r1; have HR := Hd4 r2 (hb.trans (r3.mono (by omega))) hstep hd1; have hs3 := r3.size; have hmb : r % BB ≤ 1073741823 := BB_le (Nat.mod_lt _ BB_pos); have hqb : r / BB ≤ r := Nat.div_le_self _ _
    have t1 : (r : Int).tmod 1073741824 = ((r % BB : Nat) : Int) := by rw [Int.tmod_eq_emod_of_nonneg (by omega)]; rfl
    have t2 : (r : Int).tdiv 1073741824 = ((r / BB : Nat) : Int) := by rw [Int.tdiv_eq_ediv_of_nonneg (by omega)]; rfl
    have e1 : (-(r : Int)).tmod 1073741824 = (-((r % BB : Nat) : Int)) := by first | exact t1 | (rw [Int.neg_tmod, t1])
    have e2 : (-(r : Int)).tdiv 1073741824 = -((r / BB : Nat) : Int) := by first | exact t2 | (rw [Int.neg_tdiv, t2])
    have e3 : (r : Int) % 1073741824 = ((r % BB : Nat) : Int) := rfl; have e4 : (r : Int) / 1073741824 = ((r / BB : Nat) : Int) := rfl; have c0' := (r3.cell (p := ⟨w.heap.size, 0, none⟩) (Nat.lt_succ_self _)).trans c0; have c1' := (r3.cell (p := ⟨w.heap.size, 1, none⟩) (Nat.lt_succ_self _)).trans c1; have f0' := (r3.frozen (p := ⟨w.heap.size, 0, none⟩) (Nat.lt_succ_self _)).trans f0; have f1' := (r3.frozen (p := ⟨w.heap.size, 1, none⟩) (Nat.lt_succ_self _)).trans f1; have HC := Hd4 c0' c1' f0' f1'; clear c0' c1' f0' f1' c0 c1 f0 f1; clear r1 r2 r3 hstep hI hO hd1
    obtain ⟨rm, hrm⟩ : ∃ rm, r % BB = rm := ⟨_, rfl⟩
    obtain ⟨rq, hrq⟩ : ∃ rq, r / BB = rq := ⟨_, rfl⟩
    rw [hrm] at HAP HR e1 e3 t1 hmb; rw [hrq] at HR e2 e4 t2 hqb; clear hrm hrq
    rcases Nat.eq_zero_or_pos rm with rfl | hm0
    · rw [show ((0 : Nat) : Int) = 0 from rfl] at HAP
      gi_wp2_with (gi_at_builtin; refine wpListIn_plain rfl fun K hK' => ?_; refine wpIn_append _ _ _ rfl rfl rfl HAP.out (hK' _ _ ?_); clear hK' K)
      exact ⟨⟨k + 1, rq, _, by omega, rfl, HR.out.2.2.1, HR.out.1, HR.out.2.1, by omega, HC.out.1, HC.out.2.1, HC.out.2.2.1, HC.out.2.2.2⟩, by have := HR.out.2.2.2; simp [intOf]; omega⟩
    · have hm1 : ¬ rm = 0 := by omega
      gi_wp2_with (gi_at_builtin; refine wpListIn_plain rfl fun K hK' => ?_; refine wpIn_append _ _ _ rfl rfl rfl HAP.out (hK' _ _ ?_); clear hK' K)
      exact ⟨⟨k + 1, rq, _, by omega, rfl, HR.out.2.2.1, HR.out.1, HR.out.2.1, by omega, HC.out.1, HC.out.2.1, HC.out.2.2.1, HC.out.2.2.2⟩, by have := HR.out.2.2.2; simp [intOf]; omega⟩
  · obtain rfl : r = 0 := by omega
    have hk : k ≤ 3 := by have := P.out.1; rw [hI.out.1, List.length_append, hI.out.2] at this; omega
    have hd : dig x = out := by have := hI.out.1; rwa [dig_zero, List.append_nil] at this
    have hg : Good out := by rw [← hd]; exact good_dig x
    obtain ⟨O, cO, rfl, hsl⟩ := Sl.of_own hO.out (ints_i64 hg) (by omega) (M := w.heap.size :: M) (by
     intro j hj
     rcases List.mem_cons.1 hj with rfl | hj
     · omega
     · have := P.out.2.1 j hj; omega)
    rw [← hd] at hsl
    have hz : ZV wr (w.heap.size :: M) (.agg #[.bool true, .slice O k cO]) (-(x : Int)) := ⟨O, k, cO, by rw [show zneg (-(x : Int)) = true from P.out.2.2.2], by rw [show zmag (-(x : Int)) = dig x from by unfold zmag; rw [P.out.2.2.1]]; exact hsl⟩
    obtain ⟨wF, hwF, r0, r1, hzF, hbF⟩ := fin2 (M := M) c0 c1 hz hb (Nat.le_refl _); have HF := Hd5 hwF r0 r1 hzF hbF; clear hwF r0 r1 hzF hbF hz hsl hO hI hd hg; gi_wp2
    first
     | rw [HF.out.1]
     | rw [show decide (0 < x) = true from decide_eq_true (by omega), HF.out.1]
    exact ⟨rfl, .agg #[.bool true, .slice O k cO], by simp [results, go_sem, HF.out.2.1, HF.out.2.2.1], _, rfl, HF.out.2.2.2.1, HF.out.2.2.2.2⟩
theorem rMake_any {M : List Nat} {n : Int} {w : World} (hM : Bel M w) (hn : i64 n) :
 Calls Tryz.prog 51 #[.int .i64 n] w fun e w' => ∃ u, e = .returned u ∧ ZV w' M u n ∧ Below w.heap.size w w' := by
 by_cases h : n < 0
 · exact rMake_neg hM hn h
 · exact rMake_pos hM hn (by omega)
end
section
open Go.RowKit Go.Shelf
attribute [local go_sem] Oper.semAt_some
theorem rzero_any (q : Bool) (A : Option Addr) (n c : Nat) (w : World) (hs : n ≤ 140737488355328) :
 Calls Tryz.prog 48 #[.agg #[.bool q, .slice A n c]] w fun e w' => e = .returned (.bool (decide (n = 0))) ∧ Below w.heap.size w w' := by
 refine wid ?_
 by_cases hn : n = 0
 all_goals (
 refine ent Tryz.func48 rfl Tryz.ntmps48 ?_
 gi_wp2
 go_ret
 exact ⟨by first | rfl | simp [hn] | (simp; omega), by exact bel⟩)
set_option maxHeartbeats 2000000 in
theorem rqcheck_any {M : List Nat} {A B : Option Addr} {n c m d : Nat} {p q : Bool} {l1 l2 : List Int} {w : World} (hM : Bel M w) (hx : Sl Int w M A n c l1) (hy : Sl Int w M B m d l2) :
 Calls Tryz.prog 23 #[.agg #[.bool p, .slice A n c, .bool q, .slice B m d]] w fun e w' => e = .returned (.int .i64 (ratE (ratOk ((p, l1), (q, l2))))) ∧ Below w.heap.size w w' := by
 refine wid ?_
 obtain ⟨W1, hW1⟩ : ∃ W1 : World, w.alloc (.cells #[.bool p, .slice A n c, .bool q, .slice B m d] 31) = W1 := ⟨_, rfl⟩
 have F1 : Bx w W1 p q (.slice A n c) (.slice B m d) := by rw [← hW1]; exact Bx.start w _ _ _ _
 have F := Hd F1
 have e0 := F1.a0
 have e1 := F1.a1
 have e2 := F1.a2
 have e3 := F1.a3
 have hlm : l2.length = m := hy.len
 have X := Hd3 hx hy hM
 have HSM := Hd hy.small
 clear hx hy hM F1
 by_cases hk1 : natOk (p, l1) = true
 · have HK1 := Hd (show okE (natOk (p, l1)) = 0 by rw [hk1]; rfl)
   by_cases hk2 : natOk (q, l2) = true
   · have HK2 := Hd (show okE (natOk (q, l2)) = 0 by rw [hk2]; rfl)
     obtain ⟨z1, ez1, fz1⟩ := (natOk_iff _).1 hk1; obtain ⟨z2, ez2, fz2⟩ := (natOk_iff _).1 hk2; have ep : zneg z1 = p := (congrArg Prod.fst ez1).symm; have eq : zneg z2 = q := (congrArg Prod.fst ez2).symm; have el1 : ints (zmag z1) = l1 := (congrArg Prod.snd ez1).symm; have el2 : ints (zmag z2) = l2 := (congrArg Prod.snd ez2).symm
     have hd1 : decB (p, l1) = z1 := by rw [ez1, dec_enc]
     have hd2 : decB (q, l2) = z2 := by rw [ez2, dec_enc]
     have hlz : (zmag z2).length = m := by rw [← hlm, ← el2, ints_len]
     have hm0 : m = 0 ↔ z2 = 0 := by
      rw [← hlz]
      constructor
      · intro e
        have := dig_nil.1 (List.length_eq_zero_iff.1 e); omega
      · rintro rfl
        rw [show zmag 0 = [] from dig_zero]; rfl
     have hgf := gcd_fits fz1 fz2; have HFZ := Hd3 fz1 fz2 hgf; have HE := Hd4 ep eq el1 el2
     have hrat : ratOk ((p, l1), (q, l2)) = (decide (0 < z2) && decide (Int.gcd z1 z2 = 1)) := by simp [ratOk, hk1, hk2, hd1, hd2]
     have HRT := Hd hrat; clear hrat fz1 fz2 hgf ez1 ez2 el1 el2 hd1 hd2 ep hlm
     by_cases hmz : m = 0
     · have hz2 := hm0.1 hmz
       have HR := Hd (show ratE (ratOk ((p, l1), (q, l2))) = 100 by rw [HRT.out, hz2]; rfl); have HZR := Hd (show decide (m = 0) = true from decide_eq_true hmz); clear hmz hm0 hlz hz2 eq; refine ent Tryz.func23 rfl Tryz.ntmps23 ?_
       gi_wp2_with (first
        | (refine ⟨trivial, ?_⟩; gi_at_call 48; have g := G3.out; clear g; refine Cn (rzero_any _ B m d _ HSM.out) ?_; rintro e w4 ⟨rfl, hb4⟩; rw [HZR.out]; have F4 := G3.out.1.go hb4; have o0 := F4.a0; have o1 := F4.a1; have o2 := F4.a2; have o3 := F4.a3; have G4 := Hd2 F4 hb4; clear F4 hb4)
        | (refine ⟨trivial, ?_⟩; gi_at_call 47; have g := G2.out; clear g; refine Cn (rcheck_any B m d _ l2 _ ((X.out.2.1.go F.out.bl).go G2.out.2)) ?_; rintro e w3 ⟨rfl, hb3⟩; rw [HK2.out]; have F3 := G2.out.1.go hb3; have y0 := F3.a0; have y1 := F3.a1; have y2 := F3.a2; have y3 := F3.a3; have G3 := Hd2 F3 hb3; clear hb3 F3)
        | (refine Cl 47 (rcheck_any A n c p l1 _ (X.out.1.go F.out.bl)) ?_; rintro e w2 ⟨rfl, hb2⟩; rw [HK1.out]; have F2 := F.out.go hb2; have u0 := F2.a0; have u1 := F2.a1; have u2 := F2.a2; have u3 := F2.a3; have G2 := Hd2 F2 hb2; clear F2 hb2)
        | (refine ⟨trivial, ?_⟩))
       go_ret; exact ⟨by rw [HR.out]; rfl, G4.out.1.bl⟩
     · have HZR := Hd (show decide (m = 0) = false from decide_eq_false hmz)
       have hz20 : z2 ≠ 0 := fun e => hmz (hm0.2 e)
       clear hmz hm0 hlz; cases q
       case true =>
        have hneg : ¬ 0 < z2 := by unfold zneg at eq; have := of_decide_eq_true eq; omega
        have HR := Hd (show ratE (ratOk ((p, l1), (true, l2))) = 100 by rw [HRT.out, decide_eq_false hneg]; rfl); clear eq hneg hz20; refine ent Tryz.func23 rfl Tryz.ntmps23 ?_
        gi_wp2_with (first
         | (refine ⟨trivial, ?_⟩; gi_at_call 48; have g := G3.out; clear g; refine Cn (rzero_any _ B m d _ HSM.out) ?_; rintro e w4 ⟨rfl, hb4⟩; rw [HZR.out]; have F4 := G3.out.1.go hb4; have o0 := F4.a0; have o1 := F4.a1; have o2 := F4.a2; have o3 := F4.a3; have G4 := Hd2 F4 hb4; clear F4 hb4)
         | (refine ⟨trivial, ?_⟩; gi_at_call 47; have g := G2.out; clear g; refine Cn (rcheck_any B m d _ l2 _ ((X.out.2.1.go F.out.bl).go G2.out.2)) ?_; rintro e w3 ⟨rfl, hb3⟩; rw [HK2.out]; have F3 := G2.out.1.go hb3; have y0 := F3.a0; have y1 := F3.a1; have y2 := F3.a2; have y3 := F3.a3; have G3 := Hd2 F3 hb3; clear hb3 F3)
         | (refine Cl 47 (rcheck_any A n c p l1 _ (X.out.1.go F.out.bl)) ?_; rintro e w2 ⟨rfl, hb2⟩; rw [HK1.out]; have F2 := F.out.go hb2; have u0 := F2.a0; have u1 := F2.a1; have u2 := F2.a2; have u3 := F2.a3; have G2 := Hd2 F2 hb2; clear F2 hb2)
         | (refine ⟨trivial, ?_⟩))
        go_ret; exact ⟨by rw [HR.out]; rfl, G4.out.1.bl⟩
       case false =>
        have hpos : 0 < z2 := by unfold zneg at eq; have := of_decide_eq_false eq; omega
        obtain ⟨cc, hcc⟩ : ∃ cc, cmpI (Int.gcd z1 z2 : Int) 1 = cc := ⟨_, rfl⟩
        have hgp : 0 < Int.gcd z1 z2 := Int.gcd_pos_iff.2 (.inr hz20)
        have hc0 : cc = 0 ↔ Int.gcd z1 z2 = 1 := by
         rw [← hcc]; unfold cmpI
         repeat' split
         all_goals omega
        have HCC := Hd hcc; have HP := Hd hpos; clear eq hpos hz20 hcc hgp
        by_cases hg1 : cc = 0
        all_goals (
        first
         | have HR := Hd (show ratE (ratOk ((p, l1), (false, l2))) = 0 by rw [HRT.out, decide_eq_true HP.out, decide_eq_true (hc0.1 hg1)]; rfl)
         | have HR := Hd (show ratE (ratOk ((p, l1), (false, l2))) = 100 by rw [HRT.out, decide_eq_true HP.out, decide_eq_false (fun e => hg1 (hc0.2 e))]; rfl)
        clear hc0; refine ent Tryz.func23 rfl Tryz.ntmps23 ?_
        gi_wp2_with (first
         | (refine Cl 49 (rGcd_any (M := M) (a := z1) (b := z2) (X.out.2.2.le G4.out.1.bl.size) ⟨A, n, c, by rw [HE.out.1], by rw [HE.out.2.2.1]; exact X.out.1.go G4.out.1.bl⟩ ⟨B, m, d, by rw [HE.out.2.1], by rw [HE.out.2.2.2]; exact X.out.2.1.go G4.out.1.bl⟩ HFZ.out.1 HFZ.out.2.1) ?_
            rintro e w5 ⟨u5, rfl, hz5, hb5⟩; obtain ⟨q5, A5, n5, c5, rfl, hy5⟩ := ZC.of hz5
            obtain ⟨W6, hW6⟩ : ∃ W6, w5.alloc (.cells #[.bool q5, .slice A5 n5 c5] 29) = W6 := ⟨_, rfl⟩
            have hb6 : Below w5.heap.size w5 W6 := by rw [← hW6]; exact bel
            have l0 : W6.cell? ⟨w5.heap.size, 0, none⟩ = some (.bool q5) := by rw [← hW6]; simp [go_sem]
            have l1 : W6.cell? ⟨w5.heap.size, 1, none⟩ = some (.slice A5 n5 c5) := by rw [← hW6]; simp [go_sem]
            have v0 := stays_drew l0; have v1 := stays_drew l1; have G6 := Hd3 ((hy5.go hb6).drew) (((G4.out.1.bl.trans (hb5.mono G4.out.1.bl.size)).trans (hb6.mono (Nat.le_trans G4.out.1.bl.size hb5.size))).drew) trivial
            clear hz5 hy5 hb5 hb6)
         | (refine ⟨trivial, ?_⟩; gi_at_call 48; have g := G3.out; clear g; refine Cn (rzero_any _ B m d _ HSM.out) ?_; rintro e w4 ⟨rfl, hb4⟩; rw [HZR.out]; have F4 := G3.out.1.go hb4; have o0 := F4.a0; have o1 := F4.a1; have o2 := F4.a2; have o3 := F4.a3; have G4 := Hd2 F4 hb4; clear F4 hb4)
         | (refine ⟨trivial, ?_⟩; gi_at_call 47; have g := G2.out; clear g; refine Cn (rcheck_any B m d _ l2 _ ((X.out.2.1.go F.out.bl).go G2.out.2)) ?_; rintro e w3 ⟨rfl, hb3⟩; rw [HK2.out]; have F3 := G2.out.1.go hb3; have y0 := F3.a0; have y1 := F3.a1; have y2 := F3.a2; have y3 := F3.a3; have G3 := Hd2 F3 hb3; clear hb3 F3)
         | (refine Cl 47 (rcheck_any A n c p l1 _ (X.out.1.go F.out.bl)) ?_; rintro e w2 ⟨rfl, hb2⟩; rw [HK1.out]; have F2 := F.out.go hb2; have u0 := F2.a0; have u1 := F2.a1; have u2 := F2.a2; have u3 := F2.a3; have G2 := Hd2 F2 hb2; clear F2 hb2)
         | fail)
        refine region_E_np [] 8 (by kernel_rfl) (by kernel_rfl) ?_; refine E_rd 0 ?_
        refine E_al 1 fun K hK => ?_; gi_wp2
        refine Cm (rMake_any (M := M) (n := 1) (X.out.2.2.le G6.out.2.1.size) (by unfold i64; omega)) ?_; rintro e w7 ⟨u7, rfl, hz7, hb7⟩; have G7 := Hd3 hz7 (G6.out.1.go hb7) (G6.out.2.1.trans (hb7.mono G6.out.2.1.size)); clear hz7; refine hK _ _ ⟨?_, ?_⟩; clear hK K
        · exact Keeps.of_below hb7 []
        refine lit ?_; clear hb7
        refine E_al 2 fun K hK => ?_; gi_wp2
        refine Cm (rCmp_any (M := M) (a := (Int.gcd z1 z2 : Int)) (b := 1) (X.out.2.2.le G7.out.2.2.size) G7.out.2.1.zv G7.out.1 HFZ.out.2.2 (fits_i64 (by unfold i64; omega))) ?_; rintro e w8 ⟨rfl, hb8⟩; rw [HCC.out]; have G8 := Hd (G7.out.2.2.trans (hb8.mono G7.out.2.2.size)); refine hK _ _ ⟨?_, ?_⟩; clear hK K
        · exact Keeps.of_below hb8 []
        refine lit ?_; clear hb8; refine E_rd 3 ?_; refine E_rd 4 ?_; refine E_rd 5 ?_; refine E_rd 6 ?_; refine E_rd 7 ?_; refine E_nl 0 ?_; refine tail_nil _ ?_; simp only [npost]; gi_wp2; go_ret
        exact ⟨by rw [HR.out]; rfl, G8.out⟩)
   · have HK2 := Hd (show okE (natOk (q, l2)) = 90 by simp [hk2, okE])
     have HR := Hd (show ratE (ratOk ((p, l1), (q, l2))) = 100 by simp [ratOk, hk2, ratE]); refine ent Tryz.func23 rfl Tryz.ntmps23 ?_
     gi_wp2_with (first
      | (refine ⟨trivial, ?_⟩; gi_at_call 47; have g := G2.out; clear g; refine Cn (rcheck_any B m d _ l2 _ ((X.out.2.1.go F.out.bl).go G2.out.2)) ?_; rintro e w3 ⟨rfl, hb3⟩; rw [HK2.out]; have F3 := G2.out.1.go hb3; have y0 := F3.a0; have y1 := F3.a1; have y2 := F3.a2; have y3 := F3.a3; have G3 := Hd2 F3 hb3; clear hb3 F3)
      | (refine Cl 47 (rcheck_any A n c p l1 _ (X.out.1.go F.out.bl)) ?_; rintro e w2 ⟨rfl, hb2⟩; rw [HK1.out]; have F2 := F.out.go hb2; have u0 := F2.a0; have u1 := F2.a1; have u2 := F2.a2; have u3 := F2.a3; have G2 := Hd2 F2 hb2; clear F2 hb2)
      | (refine ⟨trivial, ?_⟩))
     go_ret; exact ⟨by rw [HR.out]; rfl, G3.out.1.bl⟩
 · have HK1 := Hd (show okE (natOk (p, l1)) = 90 by simp [hk1, okE])
   have HR := Hd (show ratE (ratOk ((p, l1), (q, l2))) = 100 by simp [ratOk, hk1, ratE]); refine ent Tryz.func23 rfl Tryz.ntmps23 ?_
   gi_wp2_with (first
    | (refine Cl 47 (rcheck_any A n c p l1 _ (X.out.1.go F.out.bl)) ?_; rintro e w2 ⟨rfl, hb2⟩; rw [HK1.out]; have F2 := F.out.go hb2; have u0 := F2.a0; have u1 := F2.a1; have u2 := F2.a2; have u3 := F2.a3; have G2 := Hd2 F2 hb2; clear F2 hb2)
    | (refine ⟨trivial, ?_⟩))
   go_ret; exact ⟨by rw [HR.out]; rfl, G2.out.1.bl⟩
end
section
open Go.RowKit Go.Shelf
attribute [local go_sem] Oper.semAt_some
theorem rq_ok {M : List Nat} {v : Value} {a : Rt} {w : World} (hM : Bel M w) (h : QW w M v a) (ha : a.ok) : Calls Tryz.prog 23 #[v] w fun e w' => e = .returned (.int .i64 0) ∧ Below w.heap.size w w' := by
 obtain ⟨A, n, c, B, m, d, rfl, h1, h2⟩ := h
 refine (rqcheck_any hM h1 h2).mono ?_
 rintro e w' ⟨rfl, hb⟩
 rw [show ((zneg a.num, ints (zmag a.num)), (zneg a.den, ints (zmag a.den))) = encQ a from rfl, ratOk_enc ha]
 exact ⟨rfl, hb⟩
theorem rn_ok {M : List Nat} {q : Bool} {A : Option Addr} {n c : Nat} {z : Int} {w : World} (h : ZC w M z q A n c) (hf : fits z = true) : Calls Tryz.prog 47 #[.agg #[.bool q, .slice A n c]] w fun e w' => e = .returned (.int .i64 0) ∧ Below w.heap.size w w' := by
 obtain ⟨rfl, h⟩ := h
 refine (rcheck_any A n c _ _ w h).mono ?_
 rintro e w' ⟨rfl, hb⟩
 rw [show (zneg z, ints (zmag z)) = encB z from rfl, natOk_enc z hf]
 exact ⟨rfl, hb⟩
set_option maxHeartbeats 1000000 in
theorem rvalid_any {M : List Nat} {va vb : Value} {a b : Rt} {w : World} (hM : Bel M w) (ha : QW w M va a) (hb : QW w M vb b) (oa : a.ok) (ob : b.ok) :
 Calls Tryz.prog 74 #[va, vb] w fun e w' => e = .returned (.bool true) ∧ Below w.heap.size w w' := by
 refine wid ?_
 obtain ⟨p1, q1, A1, n1, c1, B1, m1, d1, rfl, qa⟩ := QC.of ha
 obtain ⟨p2, q2, A2, n2, c2, B2, m2, d2, rfl, qb⟩ := QC.of hb
 obtain ⟨W1, hW1, F1⟩ := nam (((Fr.nil w).a w.heap.size [.bool p1, .slice A1 n1 c1, .bool q1, .slice B1 m1 d1] 31).a (w.heap.size + 1) [.bool p2, .slice A2 n2 c2, .bool q2, .slice B2 m2 d2] 31)
 refine op1 F1 ?_; intros
 have X := Hd5 (qa.go F1.bl) (qb.go F1.bl) (hM.le F1.bl.size) oa ob
 have F := Hd F1
 clear ha hb qa qb hM oa ob F1
 refine ent Tryz.func74 rfl Tryz.ntmps74 ?_
 gi_wp2_with (first
  | (refine ⟨trivial, ?_⟩; gi_at_call 23; have g := G2.out; clear g
     refine Cn (rq_ok (a := b) (X.out.2.2.1.le G2.out.2.size) (X.out.2.1.go G2.out.2).qw X.out.2.2.2.2) ?_; rintro e w3 ⟨rfl, hb3⟩; have G3 := Hd (G2.out.1.go hb3)
     clear hb3)
  | (refine Cl 23 (rq_ok (a := a) X.out.2.2.1 X.out.1.qw X.out.2.2.2.1) ?_
     rintro e w2 ⟨rfl, hb2⟩; have F2 := F.out.go hb2; refine op1 F2 ?_; intros; have G2 := Hd2 F2 hb2
     clear hb2 F2)
  | fail)
 go_ret
 exact ⟨rfl, G3.out.bl⟩
theorem ZC.more {w : World} {M : List Nat} {z : Int} {q : Bool} {A : Option Addr} {n c b : Nat} (h : ZC w M z q A n c) (hb : w.heap.size ≤ b) : ZC w (b :: M) z q A n c := ⟨h.neg, h.sl.more hb⟩
theorem ZC.len0 {w : World} {M : List Nat} {z : Int} {q : Bool} {A : Option Addr} {n c : Nat} (h : ZC w M z q A n c) (h0 : z ≠ 0) : ¬ n = 0 := by
 intro e
 have := h.sl.dlen
 rw [e] at this
 have := dig_nil.1 (List.length_eq_zero_iff.1 this)
 omega
set_option maxRecDepth 20000 in
set_option maxHeartbeats 4000000 in
theorem rOf_any {M : List Nat} {v1 v2 : Value} {n d : Int} {w : World} (hM : Bel M w) (hn : ZV w M v1 n) (hd : ZV w M v2 d) (fn : fits n = true) (fd : fits d = true) (h0 : 0 < d) :
 Calls Tryz.prog 131 #[v1, v2] w (QR w M (lowM n d)) := by
 refine wid ?_
 obtain ⟨q1, A, k1, c1, rfl, zn⟩ := ZC.of hn
 obtain ⟨q2, B, k2, c2, rfl, zd⟩ := ZC.of hd
 have hgp : 0 < Int.gcd n d := Int.gcd_pos_iff.2 (.inr (by omega))
 have y1 := div_mod (n := n) (g := Int.gcd n d) (Int.gcd_dvd_left ..)
 have y2 := div_mod (n := d) (g := Int.gcd n d) (Int.gcd_dvd_right ..)
 have hk2 := zd.len0 (by omega)
 have hdg : 0 < d / (Int.gcd n d : Int) := Int.ediv_pos_of_pos_of_dvd h0 (by omega) (Int.gcd_dvd_right ..)
 have hgf := gcd_fits fn fd
 rw [low_pos h0]
 generalize hge : Int.gcd n d = g at *
 have HGE := Hd hge
 have HY := Hd7 y1 y2 hgf fn fd (show (0 : Int) < (g : Int) by omega) hdg
 obtain ⟨W1, hW1, F1⟩ := nam ((((Fr.nil w).a w.heap.size [.bool q1, .slice A k1 c1] 29).a (w.heap.size + 1) [.bool q2, .slice B k2 c2] 29).a4 (w.heap.size + 1 + 1) 31)
 refine op1 F1 ?_; intros
 have hM1 : Bel ((w.heap.size + 1 + 1) :: M) W1 := (hM.le F1.bl.size).cons (F1.lt (w.heap.size + 1 + 1) [.bool false, .slice none 0 0, .bool false, .slice none 0 0] (by simp))
 have X := Hd3 (zn.more (b := w.heap.size + 1 + 1) (by omega)) (zd.more (b := w.heap.size + 1 + 1) (by omega)) hM1
 have F := Hd F1
 clear hn hd zn zd hM hM1 F1 fn fd h0 hgp y1 y2 hgf hdg hge
 refine ent Tryz.func131 rfl Tryz.ntmps131 ?_
 gi_wp2_with (first
  | (refine ⟨trivial, ?_⟩; gi_at_call 141; have g' := G7.out; clear g'
     refine Cn (rDiv_any (M := (w.heap.size + 1 + 1) :: M) (a := d) (b := (g : Int)) (X.out.2.2.le G7.out.2.2.2) (X.out.2.1.go G7.out.1.bl).zv G7.out.2.1.zv HY.out.2.2.2.2.1 HY.out.2.2.1 HY.out.2.2.2.2.2.1 HY.out.2.1) ?_; rintro e w8 ⟨u8, v8, rfl, z8, z8', hb8⟩; obtain ⟨q8, A8, n8, c8, rfl, zc8⟩ := ZC.of z8; obtain ⟨q9, A9, n9, c9, rfl, zc9⟩ := ZC.of z8'
     obtain rfl : q8 = false := by rw [← zc8.neg]; exact decide_eq_false (by have := HY.out.2.2.2.2.2.2; omega)
     obtain ⟨W9, hW9, hbW9, F9⟩ := nam2 (w := w8) (((G7.out.1.go hb8).a w8.heap.size [.bool false, .slice A8 n8 c8] 29).a (w8.heap.size + 1) [.bool q9, .slice A9 n9 c9] 29); refine op1 F9 ?_; intros; have G9 := Hd3 F9 (zc8.go hbW9) ((G7.out.2.2.1.go hb8).go hbW9)
     clear z8 z8' zc8 zc9 hb8 hbW9 F9)
  | (refine ⟨trivial, ?_⟩; gi_at_call 141; have g' := G5.out; clear g'
     refine Cn (rDiv_any (M := (w.heap.size + 1 + 1) :: M) (a := n) (b := (g : Int)) (X.out.2.2.le G5.out.2.2) (X.out.1.go G5.out.1.bl).zv G5.out.2.1.zv HY.out.2.2.2.1 HY.out.2.2.1 HY.out.2.2.2.2.2.1 HY.out.1) ?_; rintro e w6 ⟨u6, v6, rfl, z6, z6', hb6⟩; obtain ⟨q6, A6, n6, c6, rfl, zc6⟩ := ZC.of z6; obtain ⟨q7, A7, n7, c7, rfl, zc7⟩ := ZC.of z6'; obtain ⟨W7, hW7, hbW7, F7⟩ := nam2 (w := w6) (((G5.out.1.go hb6).a w6.heap.size [.bool q6, .slice A6 n6 c6] 29).a (w6.heap.size + 1) [.bool q7, .slice A7 n7 c7] 29); refine op1 F7 ?_; intros; have G7 := Hd4 F7 ((G5.out.2.1.go hb6).go hbW7) (zc6.go hbW7) (Nat.le_trans G5.out.2.2 (Nat.le_trans hb6.size hbW7.size))
     clear z6 z6' zc6 zc7 hb6 hbW7 F7)
  | (refine ⟨trivial, ?_⟩; gi_at_call 49; have g' := G4.out; clear g'
     refine Cn (rGcd_any (M := (w.heap.size + 1 + 1) :: M) (a := n) (b := d) (X.out.2.2.le G4.out.2) (X.out.1.go G4.out.1.bl).zv (X.out.2.1.go G4.out.1.bl).zv HY.out.2.2.2.1 HY.out.2.2.2.2.1) ?_; rintro e w5 ⟨u5, rfl, z5, hb5⟩; rw [HGE.out] at z5; obtain ⟨q5, A5, n5, c5, rfl, zc5⟩ := ZC.of z5; obtain ⟨W5, hW5, hbW5, F5⟩ := nam2 (w := w5) ((G4.out.1.go hb5).a w5.heap.size [.bool q5, .slice A5 n5 c5] 29); refine op1 F5 ?_; intros; have G5 := Hd3 F5 (zc5.go hbW5) (Nat.le_trans G4.out.2 (Nat.le_trans hb5.size hbW5.size))
     clear z5 zc5 hb5 hbW5 F5)
  | (refine ⟨trivial, ?_⟩; gi_at_call 48; have g' := G3.out; clear g'
     refine Cn (rzero_any q2 B k2 c2 _ X.out.2.1.sl.small) ?_; rintro e w4 ⟨rfl, hb4⟩; have F4 := G3.out.1.go hb4; refine op1 F4 ?_; intros; have G4 := Hd2 F4 (Nat.le_trans G3.out.2 hb4.size)
     clear hb4 F4)
  | (refine ⟨trivial, ?_⟩; gi_at_call 47; have g' := G2.out; clear g'
     refine Cn (rn_ok (z := d) (X.out.2.1.go G2.out.1.bl) HY.out.2.2.2.2.1) ?_; rintro e w3 ⟨rfl, hb3⟩; have F3 := G2.out.1.go hb3; refine op1 F3 ?_; intros; have G3 := Hd2 F3 (Nat.le_trans G2.out.2 hb3.size)
     clear hb3 F3)
  | (refine Cl 47 (rn_ok (z := n) (X.out.1.go F.out.bl) HY.out.2.2.2.1) ?_
     rintro e w2 ⟨rfl, hb2⟩; have F2 := F.out.go hb2; refine op1 F2 ?_; intros; have G2 := Hd2 F2 hb2.size
     clear hb2 F2)
  | (refine ⟨trivial, ?_⟩))
 have hx := fun i u hu => (G9.out.1.at_ (w.heap.size + 1 + 1) [.bool false, .slice none 0 0, .bool false, .slice none 0 0] (by simp) i u hu).1
 obtain ⟨wF, hwF, t0, t1, t2, t3, hQ, bF⟩ := fin4 (M := M) (hx 0 _ rfl) (hx 1 _ rfl) (hx 2 _ rfl) (hx 3 _ rfl) (x := ⟨n / (g : Int), d / (g : Int)⟩) G9.out.2.2.sl G9.out.2.1.sl G9.out.2.2.neg G9.out.2.1.neg G9.out.1.bl (by omega)
 rw [hwF]
 refine ⟨rfl, .tuple #[.agg #[.bool q6, .slice A6 n6 c6, .bool false, .slice A8 n8 c8], .int .i64 0], ?_, _, rfl, hQ, bF⟩
 simp [results, go_sem, t0, t1, t2, t3]
end
section
open Go.RowKit Go.Shelf
attribute [local go_sem] Oper.semAt_some
set_option maxRecDepth 20000 in
set_option maxHeartbeats 4000000 in
theorem rcross_any {M : List Nat} {va vb : Value} {a b : Rt} {w : World} (hM : Bel M w) (ha : QW w M va a) (hb : QW w M vb b) (oa : a.ok) (ob : b.ok) (hf : Fine a b) :
 Calls Tryz.prog 75 #[va, vb] w fun e w' => ∃ u v, e = .returned (.tuple #[u, v, .int .i64 0]) ∧ ZV w' M u (a.num * b.den) ∧ ZV w' M v (b.num * a.den) ∧ Below w.heap.size w w' := by
 refine wid ?_
 obtain ⟨p1, q1, A1, n1, c1, B1, m1, d1, rfl, qa⟩ := QC.of ha
 obtain ⟨p2, q2, A2, n2, c2, B2, m2, d2, rfl, qb⟩ := QC.of hb
 obtain ⟨W1, hW1, F1⟩ := nam (((((Fr.nil w).a w.heap.size [.bool p1, .slice A1 n1 c1, .bool q1, .slice B1 m1 d1] 31).a (w.heap.size + 1) [.bool p2, .slice A2 n2 c2, .bool q2, .slice B2 m2 d2] 31).a (w.heap.size + 1 + 1) [.bool false, .slice none 0 0] 29).a (w.heap.size + 1 + 1 + 1) [.bool false, .slice none 0 0] 29)
 refine op1 F1 ?_; intros
 obtain ⟨MM, hMM⟩ : ∃ MM, (w.heap.size + 1 + 1) :: (w.heap.size + 1 + 1 + 1) :: M = MM := ⟨_, rfl⟩
 have qa2 : QC w MM a p1 q1 A1 n1 c1 B1 m1 d1 := by rw [← hMM]; exact (qa.more (b := w.heap.size + 1 + 1 + 1) (by omega)).more (b := w.heap.size + 1 + 1) (by omega)
 have qb2 : QC w MM b p2 q2 A2 n2 c2 B2 m2 d2 := by rw [← hMM]; exact (qb.more (b := w.heap.size + 1 + 1 + 1) (by omega)).more (b := w.heap.size + 1 + 1) (by omega)
 have hM1 : Bel MM W1 := by rw [← hMM]; exact ((hM.le F1.bl.size).cons (F1.lt (w.heap.size + 1 + 1 + 1) [.bool false, .slice none 0 0] (by simp))).cons (F1.lt (w.heap.size + 1 + 1) [.bool false, .slice none 0 0] (by simp))
 have X := Hd3 qa2 qb2 hM1
 have HO := Hd3 oa ob hf
 have HMM := Hd hMM
 have F := Hd F1
 clear ha hb qa qb qa2 qb2 hM hM1 oa ob hf F1 hMM
 refine ent Tryz.func75 rfl Tryz.ntmps75 ?_
 gi_wp2_with (first
  | (refine ⟨trivial, ?_⟩; gi_at_call 114; have g' := G3.out; clear g'
     refine Cn (rMul_any (M := MM) (a := b.num) (b := a.den) (X.out.2.2.le G3.out.2.2) (X.out.2.1.go G3.out.1.bl).num.zv (X.out.1.go G3.out.1.bl).den.zv HO.out.2.1.fn HO.out.1.fd HO.out.2.2.dn) ?_; rintro e w4 ⟨u4, rfl, z4, hb4⟩; obtain ⟨q4, A4, n4, c4, rfl, zc4⟩ := ZC.of z4; obtain ⟨W5, hW5, hbW5, F5⟩ := nam2 (w := w4) ((G3.out.1.go hb4).a w4.heap.size [.bool q4, .slice A4 n4 c4] 29); refine op1 F5 ?_; intros; have F5d := F5.drew; refine op1 F5d ?_; intros; have hs2 := G3.out.1.ge w2.heap.size [.bool q3, .slice A3 n3 c3] (by simp); have hs4 := Nat.le_trans HG2.out (Nat.le_trans G3.out.2.2 hb4.size)
     have k2 := fun i u hu => (F5.at_ w2.heap.size [.bool q3, .slice A3 n3 c3] (by simp) i u hu).1
     have k4 := fun i u hu => (F5.at_ w4.heap.size [.bool q4, .slice A4 n4 c4] (by simp) i u hu).1
     have hw2 := HG2.out; have hw2' := HS2.out; have v0 := stays_m (Mr := [w.heap.size + 1 + 1]) (by simp; omega) (k2 0 _ rfl); have v1 := stays_m (Mr := [w.heap.size + 1 + 1]) (by simp; omega) (k2 1 _ rfl); have v2 := stays_m (Mr := [w.heap.size + 1 + 1]) (by simp; omega) (k4 0 _ rfl); have v3 := stays_m (Mr := [w.heap.size + 1 + 1]) (by simp; omega) (k4 1 _ rfl); have G5 := Hd3 F5d ((G3.out.2.1.go hb4).go hbW5).drew (zc4.go hbW5).drew
     clear z4 zc4 hb4 hbW5 F5 F5d k2 k4 hs2 hs4 hw2 hw2')
  | (refine Cl 114 (rMul_any (M := MM) (a := a.num) (b := b.den) X.out.2.2 (X.out.1.go F.out.bl).num.zv (X.out.2.1.go F.out.bl).den.zv HO.out.1.fn HO.out.2.1.fd HO.out.2.2.nd) ?_
     rintro e w2 ⟨u2, rfl, z2, hb2⟩; obtain ⟨q3, A3, n3, c3, rfl, zc3⟩ := ZC.of z2; have HG2 := Hd (show w.heap.size + 4 ≤ W1.heap.size by rw [← hW1]; simp); have HS2 := Hd hb2.size; obtain ⟨W3, hW3, hbW3, F3⟩ := nam2 (w := w2) ((F.out.go hb2).a w2.heap.size [.bool q3, .slice A3 n3 c3] 29); refine op1 F3 ?_; intros; have G3 := Hd3 F3 (zc3.go hbW3) (Nat.le_trans hb2.size hbW3.size)
     clear z2 zc3 hb2 hbW3 F3)
  | (refine ⟨trivial, ?_⟩))
 refine region_E_np [w.heap.size + 1 + 1] 3 (by kernel_rfl) (by kernel_rfl) ?_
 refine E_rd 0 ?_; refine E_rd 1 ?_
 refine E_al 2 fun K hK => ?_; gi_wp2
 refine ⟨((((Keeps.refl [w.heap.size + 1 + 1] W5).setCell (p := ⟨w.heap.size + 1 + 1, 0, none⟩) (.inl (by simp)) (.bool q3)).setCell (p := ⟨w.heap.size + 1 + 1, 1, none⟩) (.inl (by simp)) (.slice A3 n3 c3)).drew).drewL, ?_⟩
 refine E_nl 2 ?_; refine tls fun K hK K' hK' => ?_; gi_wp2; refine tls fun K hK K' hK' => ?_; gi_wp2; refine tail_nil _ ?_; simp only [npost]; gi_wp2
 have hx := fun i u hu => (G5.out.1.at_ (w.heap.size + 1 + 1) [.bool false, .slice none 0 0] (by simp) i u hu).1
 have hy := fun i u hu => (G5.out.1.at_ (w.heap.size + 1 + 1 + 1) [.bool false, .slice none 0 0] (by simp) i u hu).1
 have z1 := G5.out.2.1
 have z2 := G5.out.2.2
 rw [← HMM.out] at z1 z2
 obtain ⟨wF, hwF, r0, r1, r2, r3, hz1, hz2, hbF⟩ := fin22 (M := M) (hx 0 _ rfl) (hx 1 _ rfl) (hy 0 _ rfl) (hy 1 _ rfl) z1 z2 (by omega) G5.out.1.bl (by omega) (by omega)
 have hwF2 : World.drew ((((W5.setCell ⟨w.heap.size + 1 + 1, 0, none⟩ (.bool q3)).setCell ⟨w.heap.size + 1 + 1, 1, none⟩ (.slice A3 n3 c3)).setCell ⟨w.heap.size + 1 + 1 + 1, 0, none⟩ (.bool q4)).setCell ⟨w.heap.size + 1 + 1 + 1, 1, none⟩ (.slice A4 n4 c4)) = wF := hwF
 rw [hwF2]
 exact ⟨rfl, .tuple #[.agg #[.bool q3, .slice A3 n3 c3], .agg #[.bool q4, .slice A4 n4 c4], .int .i64 0], by simp [results, go_sem, r0, r1, r2, r3], _, _, rfl, hz1, hz2, hbF⟩
set_option maxHeartbeats 4000000 in
theorem rqCmp_any {M : List Nat} {va vb : Value} {a b : Rt} {w : World} (hM : Bel M w) (ha : QW w M va a) (hb : QW w M vb b) (oa : a.ok) (ob : b.ok) (hf : Fine a b) :
 Calls Tryz.prog 36 #[va, vb] w (CR w (cmpQ a b)) := by
 refine wid ?_
 obtain ⟨p1, q1, A1, n1, c1, B1, m1, d1, rfl, qa⟩ := QC.of ha
 obtain ⟨p2, q2, A2, n2, c2, B2, m2, d2, rfl, qb⟩ := QC.of hb
 obtain ⟨W1, hW1, F1⟩ := nam (((Fr.nil w).a w.heap.size [.bool p1, .slice A1 n1 c1, .bool q1, .slice B1 m1 d1] 31).a (w.heap.size + 1) [.bool p2, .slice A2 n2 c2, .bool q2, .slice B2 m2 d2] 31)
 refine op1 F1 ?_; intros
 have X := Hd3 qa qb (hM.le F1.bl.size)
 have HO := Hd3 oa ob hf
 have F := Hd F1
 clear ha hb qa qb hM oa ob hf F1
 refine ent Tryz.func36 rfl Tryz.ntmps36 ?_
 gi_wp2_with (first
  | (refine ⟨trivial, ?_⟩; gi_at_call 50; have g' := G5.out; clear g'
     refine Cn (rCmp_any (M := M) (a := a.num * b.den) (b := b.num * a.den) (X.out.2.2.le G5.out.2.2.2) G5.out.2.1.zv G5.out.2.2.1.zv HO.out.2.2.nd HO.out.2.2.dn) ?_; rintro e w6 ⟨rfl, hb6⟩; rw [cmpI_Q]; have G6 := Hd (G5.out.1.go hb6)
     clear hb6)
  | (refine ⟨trivial, ?_⟩; gi_at_call 75; have g' := G2.out; clear g'
     refine Cn (rcross_any (M := M) (a := a) (b := b) (X.out.2.2.le G2.out.2) (X.out.1.go G2.out.1.bl).qw (X.out.2.1.go G2.out.1.bl).qw HO.out.1 HO.out.2.1 HO.out.2.2) ?_; rintro e w4 ⟨u4, v4, rfl, z4, z4', hb4⟩; obtain ⟨q3, A3, n3, c3, rfl, zc3⟩ := ZC.of z4; obtain ⟨q4, A4, n4, c4, rfl, zc4⟩ := ZC.of z4'; obtain ⟨W5, hW5, hbW5, F5⟩ := nam2 (w := w4) (((G2.out.1.go hb4).a w4.heap.size [.bool q3, .slice A3 n3 c3] 29).a (w4.heap.size + 1) [.bool q4, .slice A4 n4 c4] 29); refine op1 F5 ?_; intros; have G5 := Hd4 F5 (zc3.go hbW5) (zc4.go hbW5) (Nat.le_trans G2.out.2 (Nat.le_trans hb4.size hbW5.size))
     clear z4 z4' zc3 zc4 hb4 hbW5 F5)
  | (refine Cl 74 (rvalid_any (M := M) (a := a) (b := b) X.out.2.2 (X.out.1.go F.out.bl).qw (X.out.2.1.go F.out.bl).qw HO.out.1 HO.out.2.1) ?_
     rintro e w2 ⟨rfl, hb2⟩; have F2 := F.out.go hb2; refine op1 F2 ?_; intros; have G2 := Hd2 F2 hb2.size
     clear hb2 F2)
  | fail)
 first
  | exact ⟨rfl, G6.out.bl⟩
  | (go_ret2; exact ⟨rfl, G6.out.bl⟩)
end
end Go.Proofs.YtboapndkopabiaaGreat
