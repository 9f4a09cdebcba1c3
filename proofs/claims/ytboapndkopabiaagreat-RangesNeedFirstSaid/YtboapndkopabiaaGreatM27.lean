/- Lemmas and walks (Cod1 Cod2 Cod3 Rng9 Rng10). No statement is proved here. -/
import Derived.Laws.EntriesVeiled
import Derived.Laws.Rows
import Derived.Test.YtboapndkopabiaaGreatM26
set_option linter.unusedVariables false
set_option linter.unusedSimpArgs false
namespace Go.Proofs.YtboapndkopabiaaGreat
section
open Go.RowKit Go.Shelf
attribute [local go_sem] Oper.semAt_some
theorem zeroR_len (p q : Bool) (l k : List Int) : zeroR ((p, l), (q, k)) = (!p && !q && decide (l.length + k.length = 0)) := by
 rw [zeroR_eq]
 cases p <;> cases q <;> cases l <;> cases k <;> simp
set_option maxRecDepth 20000 in
set_option maxHeartbeats 1000000 in
theorem czero_any {M : List Nat} {v : Value} {r : RatR} {w : World} (hx : RV w M v r) : Calls Tryz.prog 105 #[v] w fun e w' => e = .returned (.bool (zeroR r)) ∧ Below w.heap.size w w' := by
 refine wid ?_
 obtain ⟨A, n, c, B, m, d, rfl, a1, a2⟩ := hx
 obtain ⟨⟨p, l⟩, ⟨q, k⟩⟩ := r
 simp only at a1 a2 ⊢
 have s1 := a1.small
 have s2 := a2.small
 have hz := zeroR_len p q l k
 rw [a1.len, a2.len] at hz
 clear a1 a2
 cases p <;> cases q <;> by_cases hn : n + m = 0
 all_goals (
 first
  | have HE := Hd (hz.trans (show _ = true by rw [decide_eq_true hn]; rfl))
  | have HE := Hd (hz.trans (show _ = false by first | rfl | (rw [decide_eq_false hn]; rfl) | simp))
 clear hz
 refine ent Tryz.func105 rfl Tryz.ntmps105 ?_
 gi_wp2
 all_goals first
  | exact (undef_no (by assumption)).elim
  | (go_ret; exact ⟨by first | (rw [HE.out]; done) | (rw [HE.out]; rfl) | (rw [HE.out]; simp; omega), by exact bel⟩))
def mostU (regs : Int) (inp : Bool) (i m k : Int) : Int := if k < regs then i else if k = 0 ∧ inp = true then m else 1
def atU : InsR → Nat → Int
 | (_, a, b, c, d, _), k => if k = 0 then a else if k = 1 then b else if k = 2 then c else d
def okU (regs : Int) (inp : Bool) (i m : Int) (x : InsR) (k : Nat) : Bool := belowB (atU x k) (mostU regs inp i m k)
def rightU (regs : Int) (inp num : Bool) (i m : Int) (x : InsR) : Bool := okU regs inp i m x 0 && okU regs inp i m x 1 && okU regs inp i m x 2 && okU regs inp i m x 3 && (if num then ratOk x.2.2.2.2.2 else zeroR x.2.2.2.2.2)
theorem rightU_bad {regs : Int} {inp num : Bool} {i m : Int} {x : InsR} {k : Nat} (hk : k < 4) (h : okU regs inp i m x k = false) : rightU regs inp num i m x = false := by
 unfold rightU
 have : k = 0 ∨ k = 1 ∨ k = 2 ∨ k = 3 := by omega
 rcases this with rfl | rfl | rfl | rfl <;> simp [h]
theorem rightU_good {regs : Int} {inp num : Bool} {i m : Int} {x : InsR} (h : ∀ k, k < 4 → okU regs inp i m x k = true) : rightU regs inp num i m x = (if num then ratOk x.2.2.2.2.2 else zeroR x.2.2.2.2.2) := by
 unfold rightU
 rw [h 0 (by omega), h 1 (by omega), h 2 (by omega), h 3 (by omega)]
 simp
theorem below_no {n m : Int} (h : ¬ (0 ≤ n ∧ n < m)) : belowB n m = false := decide_eq_false h
set_option maxRecDepth 100000 in
set_option maxHeartbeats 8000000 in
theorem cright_any {M : List Nat} {regs op a b c d i m : Int} {inp num : Bool} {r : RatR} {A B : Option Addr} {n1 c1 n2 c2 : Nat} {p q : Bool} {w : World} (hM : Bel M w) (hp : r.1.1 = p) (hq : r.2.1 = q) (h1 : Sl Int w M A n1 c1 r.1.2) (h2 : Sl Int w M B n2 c2 r.2.2) :
 Calls Tryz.prog 54 #[.agg #[.int .i64 regs, .bool inp, .bool num], .agg #[.int .i64 op, .int .i64 a, .int .i64 b, .int .i64 c, .int .i64 d, .bool p, .slice A n1 c1, .bool q, .slice B n2 c2], .int .i64 i, .int .i64 m] w fun e w' => e = .returned (.bool (rightU regs inp num i m (op, a, b, c, d, r))) ∧ Below w.heap.size w w' := by
 refine wid ?_
 obtain ⟨W1, hW1, F1⟩ := nam (((Fr.nil w).a w.heap.size [.int .i64 regs, .bool inp, .bool num] 74).a (w.heap.size + 1) [.int .i64 op, .int .i64 a, .int .i64 b, .int .i64 c, .int .i64 d, .bool p, .slice A n1 c1, .bool q, .slice B n2 c2] 55)
 have FO := F1
 refine op1 FO ?_; intros
 have X := Hd4 (show RV w M (.agg #[.bool p, .slice A n1 c1, .bool q, .slice B n2 c2]) r from ⟨A, n1, c1, B, n2, c2, by rw [hp, hq], h1, h2⟩) h1 h2 hM
 have F := Hd F1
 have HR := Hd (show ((p, r.1.2), (q, r.2.2)) = r by rw [← hp, ← hq])
 clear h1 h2 hM F1 FO hp hq
 have ix0 : ∀ w, (Instr.index 121 (.agg #[.int .i64 a, .int .i64 b, .int .i64 c, .int .i64 d]) (.int .i64 0)).run Tryz.prog w = .ok (.int .i64 a) w := fun _ => by kernel_rfl
 have ix1 : ∀ w, (Instr.index 121 (.agg #[.int .i64 a, .int .i64 b, .int .i64 c, .int .i64 d]) (.int .i64 1)).run Tryz.prog w = .ok (.int .i64 b) w := fun _ => by kernel_rfl
 have ix2 : ∀ w, (Instr.index 121 (.agg #[.int .i64 a, .int .i64 b, .int .i64 c, .int .i64 d]) (.int .i64 2)).run Tryz.prog w = .ok (.int .i64 c) w := fun _ => by kernel_rfl
 have ix3 : ∀ w, (Instr.index 121 (.agg #[.int .i64 a, .int .i64 b, .int .i64 c, .int .i64 d]) (.int .i64 3)).run Tryz.prog w = .ok (.int .i64 d) w := fun _ => by kernel_rfl
 refine ent Tryz.func54 rfl Tryz.ntmps54 ?_
 gi_wp2
 gi_loopw [21] (fun k0 wr => ∃ k : Nat, k ≤ 4 ∧ k0 = .int .i64 (k : Int) ∧ Hid (∀ j, j < k → okU regs inp i m (op, a, b, c, d, r) j = true) ∧ Hid (Fr w wr [(w.heap.size, [.int .i64 regs, .bool inp, .bool num]), (w.heap.size + 1, [.int .i64 op, .int .i64 a, .int .i64 b, .int .i64 c, .int .i64 d, .bool p, .slice A n1 c1, .bool q, .slice B n2 c2])])) (fun k0 _ => 4 - (intOf k0).toNat)
 case atStart => exact ⟨0, by omega, rfl, Hd (fun j hj => by omega), F.out⟩
 case round =>
  obtain ⟨k, hk, rfl, hok, hF⟩ := hrel; have hF1 := hF.out; refine op1 hF1 ?_; intros; clear hF1
  by_cases h4 : k = 4
  · subst h4
    have HG := Hd (rightU_good (num := num) (x := (op, a, b, c, d, r)) hok.out); cases num
    · gi_wp2_with (refine Cl 105 (czero_any (X.out.1.go hF.out.bl)) ?_; rintro e w2 ⟨rfl, hb2⟩; have G2 := Hd (hF.out.go hb2); clear hb2)
      go_ret; exact ⟨by first | (rw [HG.out]; done) | (rw [HG.out]; rfl), G2.out.bl⟩
    · cases hr : ratOk r
      · have HK := Hd (show ratE (ratOk ((p, r.1.2), (q, r.2.2))) = 100 by rw [HR.out, hr]; rfl)
        have HV := Hd (HG.out.trans hr)
        gi_wp2_with (refine Cl 32 (qcheck_any (M := M) (l1 := r.1.2) (l2 := r.2.2) (X.out.2.2.2.le hF.out.bl.size) (X.out.2.1.go hF.out.bl) (X.out.2.2.1.go hF.out.bl)) ?_; rintro e w2 ⟨rfl, hb2⟩; rw [HK.out]; have G2 := Hd (hF.out.go hb2); clear hb2)
        go_ret; exact ⟨by first | (rw [HV.out]; done) | (rw [HV.out]; rfl), G2.out.bl⟩
      · have HK := Hd (show ratE (ratOk ((p, r.1.2), (q, r.2.2))) = 0 by rw [HR.out, hr]; rfl)
        have HV := Hd (HG.out.trans hr)
        gi_wp2_with (refine Cl 32 (qcheck_any (M := M) (l1 := r.1.2) (l2 := r.2.2) (X.out.2.2.2.le hF.out.bl.size) (X.out.2.1.go hF.out.bl) (X.out.2.2.1.go hF.out.bl)) ?_; rintro e w2 ⟨rfl, hb2⟩; rw [HK.out]; have G2 := Hd (hF.out.go hb2); clear hb2)
        go_ret; exact ⟨by first | (rw [HV.out]; done) | (rw [HV.out]; rfl), G2.out.bl⟩
  · by_cases hk0 : k = 0
    · subst hk0
      by_cases hr : (0 : Int) < regs
      · have HM := Hd (show okU regs inp i m (op, a, b, c, d, r) 0 = belowB a i by simp [okU, mostU, atU, hr])
        by_cases hlo : a < 0
        · have HB := Hd (rightU_bad (num := num) (x := (op, a, b, c, d, r)) (k := 0) (by omega) (HM.out ▸ below_no (by show ¬ (0 ≤ a ∧ _); omega)))
          gi_wp2
          all_goals first
           | exact (undef_no (by assumption)).elim
           | (go_ret; exact ⟨by first | (rw [HB.out]; done) | (rw [HB.out]; rfl), hF.out.bl⟩)
        · by_cases hhi : a < i
          · have HB := Hd (show ∀ j, j < 0 + 1 → okU regs inp i m (op, a, b, c, d, r) j = true from fun j hj => by
             by_cases e : j = 0
             · subst e; exact HM.out ▸ decide_eq_true ⟨by show 0 ≤ a; omega, hhi⟩
             · exact hok.out j (by omega))
            gi_wp2; exact ⟨⟨0 + 1, by omega, by first | rfl | go_num, HB, hF⟩, by simp [intOf]⟩
          · have HB := Hd (rightU_bad (num := num) (x := (op, a, b, c, d, r)) (k := 0) (by omega) (HM.out ▸ below_no (by show ¬ (0 ≤ a ∧ a < i); omega)))
            gi_wp2
            all_goals first
             | exact (undef_no (by assumption)).elim
             | (go_ret; exact ⟨by first | (rw [HB.out]; done) | (rw [HB.out]; rfl), hF.out.bl⟩)
      · cases inp
        · have HM := Hd (show okU regs false i m (op, a, b, c, d, r) 0 = belowB a 1 by simp [okU, mostU, atU, hr])
          by_cases hlo : a < 0
          · have HB := Hd (rightU_bad (num := num) (x := (op, a, b, c, d, r)) (k := 0) (by omega) (HM.out ▸ below_no (by show ¬ (0 ≤ a ∧ _); omega)))
            gi_wp2
            all_goals first
             | exact (undef_no (by assumption)).elim
             | (go_ret; exact ⟨by first | (rw [HB.out]; done) | (rw [HB.out]; rfl), hF.out.bl⟩)
          · by_cases hhi : a < 1
            · have HB := Hd (show ∀ j, j < 0 + 1 → okU regs false i m (op, a, b, c, d, r) j = true from fun j hj => by
               by_cases e : j = 0
               · subst e; exact HM.out ▸ decide_eq_true ⟨by show 0 ≤ a; omega, hhi⟩
               · exact hok.out j (by omega))
              gi_wp2; exact ⟨⟨0 + 1, by omega, by first | rfl | go_num, HB, hF⟩, by simp [intOf]⟩
            · have HB := Hd (rightU_bad (num := num) (x := (op, a, b, c, d, r)) (k := 0) (by omega) (HM.out ▸ below_no (by show ¬ (0 ≤ a ∧ a < 1); omega)))
              gi_wp2
              all_goals first
               | exact (undef_no (by assumption)).elim
               | (go_ret; exact ⟨by first | (rw [HB.out]; done) | (rw [HB.out]; rfl), hF.out.bl⟩)
        · have HM := Hd (show okU regs true i m (op, a, b, c, d, r) 0 = belowB a m by simp [okU, mostU, atU, hr])
          by_cases hlo : a < 0
          · have HB := Hd (rightU_bad (num := num) (x := (op, a, b, c, d, r)) (k := 0) (by omega) (HM.out ▸ below_no (by show ¬ (0 ≤ a ∧ _); omega)))
            gi_wp2
            all_goals first
             | exact (undef_no (by assumption)).elim
             | (go_ret; exact ⟨by first | (rw [HB.out]; done) | (rw [HB.out]; rfl), hF.out.bl⟩)
          · by_cases hhi : a < m
            · have HB := Hd (show ∀ j, j < 0 + 1 → okU regs true i m (op, a, b, c, d, r) j = true from fun j hj => by
               by_cases e : j = 0
               · subst e; exact HM.out ▸ decide_eq_true ⟨by show 0 ≤ a; omega, hhi⟩
               · exact hok.out j (by omega))
              gi_wp2; exact ⟨⟨0 + 1, by omega, by first | rfl | go_num, HB, hF⟩, by simp [intOf]⟩
            · have HB := Hd (rightU_bad (num := num) (x := (op, a, b, c, d, r)) (k := 0) (by omega) (HM.out ▸ below_no (by show ¬ (0 ≤ a ∧ a < m); omega)))
              gi_wp2
              all_goals first
               | exact (undef_no (by assumption)).elim
               | (go_ret; exact ⟨by first | (rw [HB.out]; done) | (rw [HB.out]; rfl), hF.out.bl⟩)
    · by_cases hk1 : k = 1
      · obtain rfl : k = 1 := by omega
        by_cases hr : (1 : Int) < regs
        · have HM := Hd (show okU regs inp i m (op, a, b, c, d, r) 1 = belowB b i by simp [okU, mostU, atU, hr])
          by_cases hlo : b < 0
          · have HB := Hd (rightU_bad (num := num) (x := (op, a, b, c, d, r)) (k := 1) (by omega) (HM.out ▸ below_no (by show ¬ (0 ≤ b ∧ _); omega)))
            gi_wp2
            all_goals first
             | exact (undef_no (by assumption)).elim
             | (go_ret; exact ⟨by first | (rw [HB.out]; done) | (rw [HB.out]; rfl), hF.out.bl⟩)
          · by_cases hhi : b < i
            · have HB := Hd (show ∀ j, j < 1 + 1 → okU regs inp i m (op, a, b, c, d, r) j = true from fun j hj => by
               by_cases e : j = 1
               · subst e; exact HM.out ▸ decide_eq_true ⟨by show 0 ≤ b; omega, hhi⟩
               · exact hok.out j (by omega))
              gi_wp2; exact ⟨⟨1 + 1, by omega, by first | rfl | go_num, HB, hF⟩, by simp [intOf]⟩
            · have HB := Hd (rightU_bad (num := num) (x := (op, a, b, c, d, r)) (k := 1) (by omega) (HM.out ▸ below_no (by show ¬ (0 ≤ b ∧ b < i); omega)))
              gi_wp2
              all_goals first
               | exact (undef_no (by assumption)).elim
               | (go_ret; exact ⟨by first | (rw [HB.out]; done) | (rw [HB.out]; rfl), hF.out.bl⟩)
        · have HM := Hd (show okU regs inp i m (op, a, b, c, d, r) 1 = belowB b 1 by simp [okU, mostU, atU, hr])
          by_cases hlo : b < 0
          · have HB := Hd (rightU_bad (num := num) (x := (op, a, b, c, d, r)) (k := 1) (by omega) (HM.out ▸ below_no (by show ¬ (0 ≤ b ∧ _); omega)))
            gi_wp2
            all_goals first
             | exact (undef_no (by assumption)).elim
             | (go_ret; exact ⟨by first | (rw [HB.out]; done) | (rw [HB.out]; rfl), hF.out.bl⟩)
          · by_cases hhi : b < 1
            · have HB := Hd (show ∀ j, j < 1 + 1 → okU regs inp i m (op, a, b, c, d, r) j = true from fun j hj => by
               by_cases e : j = 1
               · subst e; exact HM.out ▸ decide_eq_true ⟨by show 0 ≤ b; omega, hhi⟩
               · exact hok.out j (by omega))
              gi_wp2; exact ⟨⟨1 + 1, by omega, by first | rfl | go_num, HB, hF⟩, by simp [intOf]⟩
            · have HB := Hd (rightU_bad (num := num) (x := (op, a, b, c, d, r)) (k := 1) (by omega) (HM.out ▸ below_no (by show ¬ (0 ≤ b ∧ b < 1); omega)))
              gi_wp2
              all_goals first
               | exact (undef_no (by assumption)).elim
               | (go_ret; exact ⟨by first | (rw [HB.out]; done) | (rw [HB.out]; rfl), hF.out.bl⟩)
      · by_cases hk2 : k = 2
        · obtain rfl : k = 2 := by omega
          by_cases hr : (2 : Int) < regs
          · have HM := Hd (show okU regs inp i m (op, a, b, c, d, r) 2 = belowB c i by simp [okU, mostU, atU, hr])
            by_cases hlo : c < 0
            · have HB := Hd (rightU_bad (num := num) (x := (op, a, b, c, d, r)) (k := 2) (by omega) (HM.out ▸ below_no (by show ¬ (0 ≤ c ∧ _); omega)))
              gi_wp2
              all_goals first
               | exact (undef_no (by assumption)).elim
               | (go_ret; exact ⟨by first | (rw [HB.out]; done) | (rw [HB.out]; rfl), hF.out.bl⟩)
            · by_cases hhi : c < i
              · have HB := Hd (show ∀ j, j < 2 + 1 → okU regs inp i m (op, a, b, c, d, r) j = true from fun j hj => by
                 by_cases e : j = 2
                 · subst e; exact HM.out ▸ decide_eq_true ⟨by show 0 ≤ c; omega, hhi⟩
                 · exact hok.out j (by omega))
                gi_wp2; exact ⟨⟨2 + 1, by omega, by first | rfl | go_num, HB, hF⟩, by simp [intOf]⟩
              · have HB := Hd (rightU_bad (num := num) (x := (op, a, b, c, d, r)) (k := 2) (by omega) (HM.out ▸ below_no (by show ¬ (0 ≤ c ∧ c < i); omega)))
                gi_wp2
                all_goals first
                 | exact (undef_no (by assumption)).elim
                 | (go_ret; exact ⟨by first | (rw [HB.out]; done) | (rw [HB.out]; rfl), hF.out.bl⟩)
          · have HM := Hd (show okU regs inp i m (op, a, b, c, d, r) 2 = belowB c 1 by simp [okU, mostU, atU, hr])
            by_cases hlo : c < 0
            · have HB := Hd (rightU_bad (num := num) (x := (op, a, b, c, d, r)) (k := 2) (by omega) (HM.out ▸ below_no (by show ¬ (0 ≤ c ∧ _); omega)))
              gi_wp2
              all_goals first
               | exact (undef_no (by assumption)).elim
               | (go_ret; exact ⟨by first | (rw [HB.out]; done) | (rw [HB.out]; rfl), hF.out.bl⟩)
            · by_cases hhi : c < 1
              · have HB := Hd (show ∀ j, j < 2 + 1 → okU regs inp i m (op, a, b, c, d, r) j = true from fun j hj => by
                 by_cases e : j = 2
                 · subst e; exact HM.out ▸ decide_eq_true ⟨by show 0 ≤ c; omega, hhi⟩
                 · exact hok.out j (by omega))
                gi_wp2; exact ⟨⟨2 + 1, by omega, by first | rfl | go_num, HB, hF⟩, by simp [intOf]⟩
              · have HB := Hd (rightU_bad (num := num) (x := (op, a, b, c, d, r)) (k := 2) (by omega) (HM.out ▸ below_no (by show ¬ (0 ≤ c ∧ c < 1); omega)))
                gi_wp2
                all_goals first
                 | exact (undef_no (by assumption)).elim
                 | (go_ret; exact ⟨by first | (rw [HB.out]; done) | (rw [HB.out]; rfl), hF.out.bl⟩)
        · obtain rfl : k = 3 := by omega
          by_cases hr : (3 : Int) < regs
          · have HM := Hd (show okU regs inp i m (op, a, b, c, d, r) 3 = belowB d i by simp [okU, mostU, atU, hr])
            by_cases hlo : d < 0
            · have HB := Hd (rightU_bad (num := num) (x := (op, a, b, c, d, r)) (k := 3) (by omega) (HM.out ▸ below_no (by show ¬ (0 ≤ d ∧ _); omega)))
              gi_wp2
              all_goals first
               | exact (undef_no (by assumption)).elim
               | (go_ret; exact ⟨by first | (rw [HB.out]; done) | (rw [HB.out]; rfl), hF.out.bl⟩)
            · by_cases hhi : d < i
              · have HB := Hd (show ∀ j, j < 3 + 1 → okU regs inp i m (op, a, b, c, d, r) j = true from fun j hj => by
                 by_cases e : j = 3
                 · subst e; exact HM.out ▸ decide_eq_true ⟨by show 0 ≤ d; omega, hhi⟩
                 · exact hok.out j (by omega))
                gi_wp2; exact ⟨⟨3 + 1, by omega, by first | rfl | go_num, HB, hF⟩, by simp [intOf]⟩
              · have HB := Hd (rightU_bad (num := num) (x := (op, a, b, c, d, r)) (k := 3) (by omega) (HM.out ▸ below_no (by show ¬ (0 ≤ d ∧ d < i); omega)))
                gi_wp2
                all_goals first
                 | exact (undef_no (by assumption)).elim
                 | (go_ret; exact ⟨by first | (rw [HB.out]; done) | (rw [HB.out]; rfl), hF.out.bl⟩)
          · have HM := Hd (show okU regs inp i m (op, a, b, c, d, r) 3 = belowB d 1 by simp [okU, mostU, atU, hr])
            by_cases hlo : d < 0
            · have HB := Hd (rightU_bad (num := num) (x := (op, a, b, c, d, r)) (k := 3) (by omega) (HM.out ▸ below_no (by show ¬ (0 ≤ d ∧ _); omega)))
              gi_wp2
              all_goals first
               | exact (undef_no (by assumption)).elim
               | (go_ret; exact ⟨by first | (rw [HB.out]; done) | (rw [HB.out]; rfl), hF.out.bl⟩)
            · by_cases hhi : d < 1
              · have HB := Hd (show ∀ j, j < 3 + 1 → okU regs inp i m (op, a, b, c, d, r) j = true from fun j hj => by
                 by_cases e : j = 3
                 · subst e; exact HM.out ▸ decide_eq_true ⟨by show 0 ≤ d; omega, hhi⟩
                 · exact hok.out j (by omega))
                gi_wp2; exact ⟨⟨3 + 1, by omega, by first | rfl | go_num, HB, hF⟩, by simp [intOf]⟩
              · have HB := Hd (rightU_bad (num := num) (x := (op, a, b, c, d, r)) (k := 3) (by omega) (HM.out ▸ below_no (by show ¬ (0 ≤ d ∧ d < 1); omega)))
                gi_wp2
                all_goals first
                 | exact (undef_no (by assumption)).elim
                 | (go_ret; exact ⟨by first | (rw [HB.out]; done) | (rw [HB.out]; rfl), hF.out.bl⟩)
end
section
open Go.RowKit Go.Shelf
attribute [local go_sem] Oper.semAt_some
theorem rights_all {m : Int} : ∀ {p : List InsR} {i : Int}, (∀ (k : Nat) (x : InsR), p[k]? = some x → rightI (i + k) m x = true) → rightsI m i p = true
 | [], _, _ => rfl
 | x :: p, i, h => by
   have h0 := h 0 x rfl; rw [show i + ((0 : Nat) : Int) = i by simp] at h0; rw [rightsI, h0, Bool.true_and]
   exact rights_all fun k y hk => by
    have := h (k + 1) y (by simpa using hk)
    rwa [show i + ((k + 1 : Nat) : Int) = i + 1 + (k : Int) by omega] at this
theorem rights_bad {m : Int} {p : List InsR} {k : Nat} {x : InsR} (h : p[k]? = some x) (hx : rightI k m x = false) : rightsI m 0 p = false := by
 cases hp : rightsI m 0 p
 · rfl
 · have := rights_at hp h
   rw [Int.zero_add, hx] at this; cases this
set_option maxHeartbeats 2000000 in
theorem rcodeE_any {M : List Nat} (A : Option Addr) (n c : Nat) (l : List InsR) (m : Int) (w : World) (hM : Bel M w) (hx : Sl InsR w M A n c l) :
 Calls Tryz.prog 35 #[.slice A n c, .int .i64 m] w fun e w' => e = .returned (.int .i64 (codeE l m)) ∧ Below w.heap.size w w' := by
 refine wid ?_
 have hs := hx.small
 have H := Hd3 hx hx.len hM
 have HD := Hd (show codeE l m = if n < 1 ∨ 4096 < n then 190 else if rightsI m 0 l then 0 else 190 by unfold codeE; rw [hx.len])
 clear hx hM
 by_cases h1 : n < 1
 · have HE := Hd (show codeE l m = 190 by rw [HD.out, if_pos (.inl h1)])
   refine ent Tryz.func35 rfl Tryz.ntmps35 ?_; gi_wp2; go_ret; exact ⟨by first | (rw [HE.out]; done) | (rw [HE.out]; rfl), Below.refl _ _⟩
 by_cases h2 : 4096 < n
 · have HE := Hd (show codeE l m = 190 by rw [HD.out, if_pos (.inr h2)])
   refine ent Tryz.func35 rfl Tryz.ntmps35 ?_; gi_wp2; go_ret; exact ⟨by first | (rw [HE.out]; done) | (rw [HE.out]; rfl), Below.refl _ _⟩
 have HE := Hd (show codeE l m = if rightsI m 0 l then 0 else 190 by rw [HD.out, if_neg (by omega)])
 clear HD
 refine ent Tryz.func35 rfl Tryz.ntmps35 ?_
 gi_wp2
 gi_loopw [5] (fun i wr => ∃ k : Nat, k ≤ n ∧ i = .int .i64 k ∧ Hid (∀ (j : Nat) (x : InsR), j < k → l[j]? = some x → rightI j m x = true) ∧ Below w.heap.size w wr) (fun i _ => n - (intOf i).toNat)
 case atStart => exact ⟨0, Nat.zero_le _, rfl, Hd (fun j x hj => by omega), Below.refl _ _⟩
 case round =>
  obtain ⟨k, hk, rfl, ht, hb⟩ := hrel
  by_cases hlt : k < n
  · obtain ⟨x, hx⟩ : ∃ x, l[k]? = some x := ⟨_, List.getElem?_eq_getElem (by rw [H.out.2.1]; exact hlt)⟩
    obtain ⟨op, xa, xb, xc, xd, r⟩ := x; obtain ⟨b, o, A1, n1, c1, A2, n2, c2, rfl, ⟨g0, g1, g2, g3, g4⟩, ⟨h5, h6, h7, h8⟩, -, s1, s2⟩ := (H.out.1.go hb).insat hx
    obtain ⟨p, hp⟩ : ∃ p, r.1.1 = p := ⟨_, rfl⟩
    obtain ⟨q, hq⟩ : ∃ q, r.2.1 = q := ⟨_, rfl⟩
    have HX := Hd5 s1 s2 hp hq hx; rw [hp] at h5; rw [hq] at h7; clear s1 s2 hx hp hq; cases hr : rightI k m (op, xa, xb, xc, xd, r)
    all_goals (
    have HR := Hd hr; clear hr
    gi_wp2_with (refine Cl 73 (rright_any (r := r) (H.out.2.2.le hb.size) HX.out.2.2.1 HX.out.2.2.2.1 HX.out.1 HX.out.2.1) ?_; rintro e w2 ⟨rfl, hb2⟩; rw [HR.out]; have G2 := Hd (hb.trans (hb2.mono hb.size)); clear hb2))
    · have HF := Hd (show codeE l m = 190 by rw [HE.out, rights_bad HX.out.2.2.2.2 HR.out]; rfl)
      go_ret; exact ⟨by first | (rw [HF.out]; done) | (rw [HF.out]; rfl), G2.out⟩
    · exact ⟨⟨k + 1, by omega, by go_num, Hd (fun j y hj hy => by
       by_cases e : j = k
       · subst e; rw [HX.out.2.2.2.2] at hy; cases hy; exact HR.out
       · exact ht.out j y (by omega) hy), G2.out⟩, by simp [intOf]; omega⟩
  · obtain rfl : k = n := by omega
    have HF := Hd (show codeE l m = 0 by
     rw [HE.out, rights_all (fun j y hy => by rw [Int.zero_add]; exact ht.out j y (by rw [← H.out.2.1]; exact (List.getElem?_eq_some_iff.1 hy).1) hy)]; rfl)
    gi_wp2; go_ret; exact ⟨by first | (rw [HF.out]; done) | (rw [HF.out]; rfl), hb⟩
end
section
open Go.RowKit Go.Shelf
attribute [local go_sem] Oper.semAt_some
def RowV (w : World) (b : Nat) (cs : List Value) (ty : TypeId) : Prop := w.heap[b]? = some (.cells cs.toArray ty (0, 0))
section
variable {w w' : World} {b : Nat} {cs : List Value} {ty : TypeId}
theorem RowV.lt (h : RowV w b cs ty) : b < w.heap.size := (Array.getElem?_eq_some_iff.1 h).1
theorem RowV.cell (h : RowV w b cs ty) {k : Nat} {x : Value} (hk : cs[k]? = some x) : w.cell? ⟨b, k, none⟩ = some x := by
 unfold RowV at h
 simp [World.cell?, h, hk]
theorem RowV.free (h : RowV w b cs ty) (k : Nat) : w.frozen? ⟨b, k, none⟩ = false := by
 unfold RowV at h
 simp [World.frozen?, h]
theorem RowV.put (h : RowV w b cs ty) (k : Nat) (x : Value) : RowV (w.setCell ⟨b, k, none⟩ x) b (cs.set k x) ty := by
 unfold RowV at *
 simp only [World.setCell, Array.getElem?_modify, if_true]
 rw [h]
 simp only [Option.map_some, Option.isSome_none, Bool.false_eq_true, if_false, List.setIfInBounds_toArray]
theorem RowV.go (h : RowV w b cs ty) {s : Nat} (hb : Below s w w') (hs : b < s) : RowV w' b cs ty := by unfold RowV at *; rw [hb.block b hs]; exact h
theorem RowV.drew (h : RowV w b cs ty) : RowV w.drew b cs ty := h
end
theorem RowV.sameRow {w : World} {b : Nat} {cs : List Value} {ty : TypeId} (h : RowV w b cs ty) : w.setRow b cs.toArray = w := by
 have := setRow_heap w b cs.toArray cs.toArray ty (0, 0) h
 have e : (w.setRow b cs.toArray).heap = w.heap := by
  apply Array.ext_getElem?; intro i
  by_cases hi : i = b
  · subst hi; rw [this]; exact h.symm
  · rw [setRow_other w b i _ hi]
 cases w
 simp only [World.setRow] at e ⊢
 rw [e]
theorem op_size : (Tryz.prog.info? 77).map (fun i => i.size) = some 4 := by kernel_rfl
theorem ops_size : (Tryz.prog.info? 78).map (fun i => i.size) = some 36 := by kernel_rfl
theorem store_op {W : World} {b : Nat} {cs : List Value} {ty : TypeId} (h : RowV W b cs ty) (j : Nat) {u0 u1 u2 u3 : Value} (h0 : cs[j]? = some u0) (h1 : cs[j + 1]? = some u1) (h2 : cs[j + 2]? = some u2) (h3 : cs[j + 3]? = some u3) (n : Int) (p q : Bool) (f : Fn) :
 ∃ W', (Instr.storeAt 77 (.pointer (some ⟨b, j, none⟩)) (.agg #[.int .i64 n, .bool p, .bool q, .func f #[] #[]])).run Tryz.prog W = .ok () W' ∧
  RowV W' b ((((cs.set j (.int .i64 n)).set (j + 1) (.bool p)).set (j + 2) (.bool q)).set (j + 3) (.func f #[] #[])) ty ∧ ∀ (s : Nat) (x : World), Below s x W → s ≤ b → Below s x W' := by
 have c0 := h.cell h0
 have c1 := h.cell h1
 have c2 := h.cell h2
 have c3 := h.cell h3
 have f0 := h.free j
 have f1 := h.free (j + 1)
 have f2 := h.free (j + 2)
 have f3 := h.free (j + 3)
 have hs := op_size
 refine ⟨_, ?_, (((h.put j (.int .i64 n)).put (j + 1) (.bool p)).put (j + 2) (.bool q)).put (j + 3) (.func f #[] #[]), fun s x hb hsb => (((hb.setCell (p := ⟨b, j, none⟩) hsb _).setCell (p := ⟨b, j + 1, none⟩) hsb _).setCell (p := ⟨b, j + 2, none⟩) hsb _).setCell (p := ⟨b, j + 3, none⟩) hsb _⟩
 cases hq : Tryz.prog.info? 77 with
 | none => simp [hq] at hs
 | some i =>
   have hi : i.size = 4 := by simpa [hq] using hs
   simp [Instr.storeAt, Instr.sureAddr, storeVar, sizeOf, typeInfo, hq, hi, storeCells, Value.cells, go_sem, Go.WideShapes.add_plain, run_store_int, run_store_bool, run_store_func, stored, c0, c1, c2, c3, f0, f1, f2, f3]
def opsL : List Value := [.int .i64 0, .bool false, .bool false, .nilFunc, .int .i64 0, .bool false, .bool true, .func (.func 84) #[] #[], .int .i64 0, .bool true, .bool false, .func (.func 85) #[] #[], .int .i64 2, .bool false, .bool false, .func (.func 86) #[] #[], .int .i64 2, .bool false, .bool false, .func (.func 87) #[] #[], .int .i64 1, .bool false, .bool true, .func (.func 88) #[] #[], .int .i64 2, .bool false, .bool false, .func (.func 89) #[] #[], .int .i64 2, .bool false, .bool false, .func (.func 91) #[] #[], .int .i64 4, .bool false, .bool false, .func (.func 92) #[] #[]]
attribute [-go_sem] Instr.storeAt Instr.loadAt
set_option maxRecDepth 20000 in
set_option maxHeartbeats 4000000 in
theorem operations_any (w : World) : Calls Tryz.prog 41 #[] w fun e w' => e = .returned (.agg opsL.toArray) ∧ Below w.heap.size w w' := by
 refine wid ?_
 obtain ⟨W0, hW0⟩ : ∃ W0 : World, w.alloc (.cells #[.int .i64 0, .bool false, .bool false, .nilFunc, .int .i64 0, .bool false, .bool false, .nilFunc, .int .i64 0, .bool false, .bool false, .nilFunc, .int .i64 0, .bool false, .bool false, .nilFunc, .int .i64 0, .bool false, .bool false, .nilFunc, .int .i64 0, .bool false, .bool false, .nilFunc, .int .i64 0, .bool false, .bool false, .nilFunc, .int .i64 0, .bool false, .bool false, .nilFunc, .int .i64 0, .bool false, .bool false, .nilFunc] 78) = W0 := ⟨_, rfl⟩
 have R0 : RowV W0 w.heap.size [.int .i64 0, .bool false, .bool false, .nilFunc, .int .i64 0, .bool false, .bool false, .nilFunc, .int .i64 0, .bool false, .bool false, .nilFunc, .int .i64 0, .bool false, .bool false, .nilFunc, .int .i64 0, .bool false, .bool false, .nilFunc, .int .i64 0, .bool false, .bool false, .nilFunc, .int .i64 0, .bool false, .bool false, .nilFunc, .int .i64 0, .bool false, .bool false, .nilFunc, .int .i64 0, .bool false, .bool false, .nilFunc] 78 := by rw [← hW0]; exact heap_alloc_new w _
 have B0 : Below w.heap.size w W0 := by rw [← hW0]; exact bel
 obtain ⟨W1, S1, r1, b1⟩ := store_op R0 4 rfl rfl rfl rfl 0 false true (.func 84)
 have R1 : RowV W1 w.heap.size [.int .i64 0, .bool false, .bool false, .nilFunc, .int .i64 0, .bool false, .bool true, .func (.func 84) #[] #[], .int .i64 0, .bool false, .bool false, .nilFunc, .int .i64 0, .bool false, .bool false, .nilFunc, .int .i64 0, .bool false, .bool false, .nilFunc, .int .i64 0, .bool false, .bool false, .nilFunc, .int .i64 0, .bool false, .bool false, .nilFunc, .int .i64 0, .bool false, .bool false, .nilFunc, .int .i64 0, .bool false, .bool false, .nilFunc] 78 := r1
 have B1 := b1 _ _ B0 (Nat.le_refl _)
 clear r1 b1
 obtain ⟨W2, S2, r2, b2⟩ := store_op R1 8 rfl rfl rfl rfl 0 true false (.func 85)
 have R2 : RowV W2 w.heap.size [.int .i64 0, .bool false, .bool false, .nilFunc, .int .i64 0, .bool false, .bool true, .func (.func 84) #[] #[], .int .i64 0, .bool true, .bool false, .func (.func 85) #[] #[], .int .i64 0, .bool false, .bool false, .nilFunc, .int .i64 0, .bool false, .bool false, .nilFunc, .int .i64 0, .bool false, .bool false, .nilFunc, .int .i64 0, .bool false, .bool false, .nilFunc, .int .i64 0, .bool false, .bool false, .nilFunc, .int .i64 0, .bool false, .bool false, .nilFunc] 78 := r2
 have B2 := b2 _ _ B1 (Nat.le_refl _)
 clear r2 b2
 obtain ⟨W3, S3, r3, b3⟩ := store_op R2 12 rfl rfl rfl rfl 2 false false (.func 86)
 have R3 : RowV W3 w.heap.size [.int .i64 0, .bool false, .bool false, .nilFunc, .int .i64 0, .bool false, .bool true, .func (.func 84) #[] #[], .int .i64 0, .bool true, .bool false, .func (.func 85) #[] #[], .int .i64 2, .bool false, .bool false, .func (.func 86) #[] #[], .int .i64 0, .bool false, .bool false, .nilFunc, .int .i64 0, .bool false, .bool false, .nilFunc, .int .i64 0, .bool false, .bool false, .nilFunc, .int .i64 0, .bool false, .bool false, .nilFunc, .int .i64 0, .bool false, .bool false, .nilFunc] 78 := r3
 have B3 := b3 _ _ B2 (Nat.le_refl _)
 clear r3 b3
 obtain ⟨W4, S4, r4, b4⟩ := store_op R3 16 rfl rfl rfl rfl 2 false false (.func 87)
 have R4 : RowV W4 w.heap.size [.int .i64 0, .bool false, .bool false, .nilFunc, .int .i64 0, .bool false, .bool true, .func (.func 84) #[] #[], .int .i64 0, .bool true, .bool false, .func (.func 85) #[] #[], .int .i64 2, .bool false, .bool false, .func (.func 86) #[] #[], .int .i64 2, .bool false, .bool false, .func (.func 87) #[] #[], .int .i64 0, .bool false, .bool false, .nilFunc, .int .i64 0, .bool false, .bool false, .nilFunc, .int .i64 0, .bool false, .bool false, .nilFunc, .int .i64 0, .bool false, .bool false, .nilFunc] 78 := r4
 have B4 := b4 _ _ B3 (Nat.le_refl _)
 clear r4 b4
 obtain ⟨W5, S5, r5, b5⟩ := store_op R4 20 rfl rfl rfl rfl 1 false true (.func 88)
 have R5 : RowV W5 w.heap.size [.int .i64 0, .bool false, .bool false, .nilFunc, .int .i64 0, .bool false, .bool true, .func (.func 84) #[] #[], .int .i64 0, .bool true, .bool false, .func (.func 85) #[] #[], .int .i64 2, .bool false, .bool false, .func (.func 86) #[] #[], .int .i64 2, .bool false, .bool false, .func (.func 87) #[] #[], .int .i64 1, .bool false, .bool true, .func (.func 88) #[] #[], .int .i64 0, .bool false, .bool false, .nilFunc, .int .i64 0, .bool false, .bool false, .nilFunc, .int .i64 0, .bool false, .bool false, .nilFunc] 78 := r5
 have B5 := b5 _ _ B4 (Nat.le_refl _)
 clear r5 b5
 obtain ⟨W6, S6, r6, b6⟩ := store_op R5 24 rfl rfl rfl rfl 2 false false (.func 89)
 have R6 : RowV W6 w.heap.size [.int .i64 0, .bool false, .bool false, .nilFunc, .int .i64 0, .bool false, .bool true, .func (.func 84) #[] #[], .int .i64 0, .bool true, .bool false, .func (.func 85) #[] #[], .int .i64 2, .bool false, .bool false, .func (.func 86) #[] #[], .int .i64 2, .bool false, .bool false, .func (.func 87) #[] #[], .int .i64 1, .bool false, .bool true, .func (.func 88) #[] #[], .int .i64 2, .bool false, .bool false, .func (.func 89) #[] #[], .int .i64 0, .bool false, .bool false, .nilFunc, .int .i64 0, .bool false, .bool false, .nilFunc] 78 := r6
 have B6 := b6 _ _ B5 (Nat.le_refl _)
 clear r6 b6
 obtain ⟨W7, S7, r7, b7⟩ := store_op R6 28 rfl rfl rfl rfl 2 false false (.func 91)
 have R7 : RowV W7 w.heap.size [.int .i64 0, .bool false, .bool false, .nilFunc, .int .i64 0, .bool false, .bool true, .func (.func 84) #[] #[], .int .i64 0, .bool true, .bool false, .func (.func 85) #[] #[], .int .i64 2, .bool false, .bool false, .func (.func 86) #[] #[], .int .i64 2, .bool false, .bool false, .func (.func 87) #[] #[], .int .i64 1, .bool false, .bool true, .func (.func 88) #[] #[], .int .i64 2, .bool false, .bool false, .func (.func 89) #[] #[], .int .i64 2, .bool false, .bool false, .func (.func 91) #[] #[], .int .i64 0, .bool false, .bool false, .nilFunc] 78 := r7
 have B7 := b7 _ _ B6 (Nat.le_refl _)
 clear r7 b7
 obtain ⟨W8, S8, r8, b8⟩ := store_op R7 32 rfl rfl rfl rfl 4 false false (.func 92)
 have R8 : RowV W8 w.heap.size [.int .i64 0, .bool false, .bool false, .nilFunc, .int .i64 0, .bool false, .bool true, .func (.func 84) #[] #[], .int .i64 0, .bool true, .bool false, .func (.func 85) #[] #[], .int .i64 2, .bool false, .bool false, .func (.func 86) #[] #[], .int .i64 2, .bool false, .bool false, .func (.func 87) #[] #[], .int .i64 1, .bool false, .bool true, .func (.func 88) #[] #[], .int .i64 2, .bool false, .bool false, .func (.func 89) #[] #[], .int .i64 2, .bool false, .bool false, .func (.func 91) #[] #[], .int .i64 4, .bool false, .bool false, .func (.func 92) #[] #[]] 78 := r8
 have B8 := b8 _ _ B7 (Nat.le_refl _)
 clear r8 b8
 have hl : (Instr.loadAt 78 (.pointer (some ⟨w.heap.size, 0, none⟩))).run Tryz.prog W8 = .ok (.agg opsL.toArray) W8 := by
  show (loadVar _ _).run _ _ = _
  exact run_loadVar_row W8 w.heap.size 78 78 opsL.toArray (0, 0) _ R8 Tryz.underlying78 rfl ops_size
 have hst : (Instr.storeAt 78 (.pointer (some ⟨w.heap.size, 0, none⟩)) (.agg opsL.toArray)).run Tryz.prog W8 = .ok () (W8.setRow w.heap.size opsL.toArray) := by
  show (storeVar _ _ _).run _ _ = _
  exact run_storeVar_row W8 w.heap.size 78 78 opsL.toArray opsL.toArray R8 ops_size rfl (by simp [opsL, Value.oneCell'])
 have R9 : RowV W8 w.heap.size opsL 78 := R8
 rw [R9.sameRow] at hst
 have HR := Hd2 R9 B8
 clear R0 R1 R2 R3 R4 R5 R6 R7 R8 R9 B0 B1 B2 B3 B4 B5 B6 B7 B8
 refine ent Tryz.func41 rfl Tryz.ntmps41 ?_
 gi_wp2
 refine ⟨rfl, .agg opsL.toArray, results_cell_row rfl _ W8 w.heap.size 78 opsL.toArray (0, 0) _ rfl HR.out.1 Tryz.underlying78 rfl ops_size, rfl, HR.out.2⟩
end
section
open Go.RowKit Go.Shelf
attribute [local go_sem] Oper.semAt_some
def gOpsL (ib : Nat) : List Value := [.nilFunc, .func (.func 59) #[] #[], .func (.func 60) #[] #[.pointer (some ⟨ib, 0, none⟩)], .func (.func 61) #[] #[], .func (.func 64) #[] #[], .func (.func 66) #[] #[], .func (.func 68) #[] #[], .func (.func 70) #[] #[], .func (.func 72) #[] #[]]
theorem gops_size : (Tryz.prog.info? 66).map (fun i => i.size) = some 9 := by kernel_rfl
attribute [-go_sem] Instr.storeAt
set_option maxRecDepth 20000 in
set_option maxHeartbeats 4000000 in
theorem gsteps_any (A : Option Addr) (n c : Nat) (w : World) : Calls Tryz.prog 34 #[.slice A n c] w fun e w' => e = .returned (.agg (gOpsL w.heap.size).toArray) ∧ w'.cell? ⟨w.heap.size, 0, none⟩ = some (.slice A n c) ∧ Below w.heap.size w w' := by
 refine wid ?_
 obtain ⟨W1, hW1⟩ : ∃ W1 : World, (w.alloc (.cells #[.slice A n c] 23)).alloc (.cells #[.nilFunc, .nilFunc, .nilFunc, .nilFunc, .nilFunc, .nilFunc, .nilFunc, .nilFunc, .nilFunc] 66) = W1 := ⟨_, rfl⟩
 have F1 : Fr w W1 [(w.heap.size, [.slice A n c]), (w.heap.size + 1, [.nilFunc, .nilFunc, .nilFunc, .nilFunc, .nilFunc, .nilFunc, .nilFunc, .nilFunc, .nilFunc])] := by
  rw [← hW1]; exact ((Fr.nil w).al w.heap.size [.slice A n c] 23 rfl).al (w.heap.size + 1) [.nilFunc, .nilFunc, .nilFunc, .nilFunc, .nilFunc, .nilFunc, .nilFunc, .nilFunc, .nilFunc] 66 (by simp)
 refine op1 F1 ?_; intros
 have g0 := F1.nth 0
 have c0 := g0 0 _ rfl
 have hB := F1.bl
 have R1 : RowV W1 (w.heap.size + 1) [.nilFunc, .nilFunc, .nilFunc, .nilFunc, .nilFunc, .nilFunc, .nilFunc, .nilFunc, .nilFunc] 66 := by
  rw [← hW1]; have := heap_alloc_new (w.alloc (.cells #[.slice A n c] 23)) (.cells #[.nilFunc, .nilFunc, .nilFunc, .nilFunc, .nilFunc, .nilFunc, .nilFunc, .nilFunc, .nilFunc] 66)
  simpa [RowV] using this
 obtain ⟨W2, hW2⟩ : ∃ W2, W1.setRow (w.heap.size + 1) (gOpsL w.heap.size).toArray = W2 := ⟨_, rfl⟩
 have hst : (Instr.storeAt 66 (.pointer (some ⟨w.heap.size + 1, 0, none⟩)) (.agg #[.nilFunc, .func (.func 59) #[] #[], .func (.func 60) #[] #[.pointer (some ⟨w.heap.size, 0, none⟩)], .func (.func 61) #[] #[], .func (.func 64) #[] #[], .func (.func 66) #[] #[], .func (.func 68) #[] #[], .func (.func 70) #[] #[], .func (.func 72) #[] #[]])).run Tryz.prog W1 = .ok () W2 := by
  rw [← hW2]
  show (storeVar _ _ _).run _ _ = _
  exact run_storeVar_row W1 (w.heap.size + 1) 66 66 #[.nilFunc, .nilFunc, .nilFunc, .nilFunc, .nilFunc, .nilFunc, .nilFunc, .nilFunc, .nilFunc] (gOpsL w.heap.size).toArray R1 gops_size rfl (by simp [gOpsL, Value.oneCell'])
 have R2 : RowV W2 (w.heap.size + 1) (gOpsL w.heap.size) 66 := by
  rw [← hW2]; exact setRow_heap W1 (w.heap.size + 1) _ (gOpsL w.heap.size).toArray 66 (0, 0) R1
 have c2 : W2.cell? ⟨w.heap.size, 0, none⟩ = some (.slice A n c) := by
  rw [← c0, ← hW2]; simp only [World.cell?]; rw [setRow_other W1 (w.heap.size + 1) w.heap.size _ (by omega)]
 have B2 : Below w.heap.size w W2 := by
  rw [← hW2]; exact ⟨hB.os, hB.tape, hB.output, by simpa using hB.size, fun k hk => by rw [setRow_other W1 (w.heap.size + 1) k _ (by omega)]; exact hB.block k hk⟩
 have HR := Hd3 R2 c2 B2
 clear F1 g0 R1 R2 c2 B2 c0 hB
 refine ent Tryz.func34 rfl Tryz.ntmps34 ?_
 gi_wp2
 refine ⟨rfl, .agg (gOpsL w.heap.size).toArray, results_cell_row rfl _ W2 (w.heap.size + 1) 66 (gOpsL w.heap.size).toArray (0, 0) _ rfl HR.out.1 Tryz.underlying66 rfl gops_size, rfl, HR.out.2⟩
end
section
open Go.RowKit Go.Shelf
attribute [local go_sem] Oper.semAt_some
set_option maxRecDepth 20000 in
theorem caughtG_idle {n : Nat} (p : Addr) (w : World) :
 CallsDIn Fence.wide n Tryz.prog 29 #[.pointer (some p)] .returning w fun e u' w' => e = .returned (.tuple #[]) ∧ u' = .returning ∧ w' = w := by
 refine callsDIn_of_wpSIn Tryz.func29 rfl trivial fun c₀ cs hu => ?_
 apply wpSIn_seq
 apply wpSIn_region
 simp [wpOpsSIn, go_sem, recoverD, hu, Tryz.ntmps29, Exit.thenS]
 refine wpSIn_of_wpIn rfl ?_
 refine Go.wpIn_mono (Q := fun e a' w' => e = .normal ∧ a'.defers = [] ∧ w' = w) ?_ ?_
 rotate_left
 · rintro e a' w' ⟨rfl, hd, rfl⟩
   cases c₀
   simp_all [bodyPostS, results, Tryz.results29, hd]
 clear hu
 simp only [Array.replicate_succ, Array.replicate_zero, List.push_toArray, List.append_toArray, List.nil_append, List.cons_append, List.setIfInBounds_toArray, List.set_cons_succ, List.set_cons_zero]
 gi_wp2
end
end Go.Proofs.YtboapndkopabiaaGreat
