/- Lemmas and walks (Code1 Code2 Code3). No statement is proved here. -/
import Derived.Test.YtboapndkopabiaaGreatM14
set_option linter.unusedVariables false
set_option linter.unusedSimpArgs false
namespace Go.Proofs.YtboapndkopabiaaGreat
section
theorem mulQ_comm (a b : Rt) : mulQ a b = mulQ b a := by unfold mulQ; rw [Int.mul_comm a.num, Int.mul_comm a.den]
theorem Fine.swap {a b : Rt} (h : Fine a b) : Fine b a :=
 ⟨h.dn, h.nd, by rw [Int.mul_comm]; exact h.dd, by rw [Int.mul_comm]; exact h.nn, by rw [Int.add_comm]; exact h.ad, by rw [← Int.neg_sub]; exact fits_neg h.sb⟩
def regQ (l : List Rt) (i : Int) : Rt := l.getD i.toNat ⟨0, 1⟩
def minT (a b : Rt) : Rt := if cmpQ b a < 0 then b else a
def maxT (a b : Rt) : Rt := if cmpQ a b < 0 then b else a
def stepQ (ins reg : List Rt) : InsR → Rt
 | (op, a, b, c, d, r) =>
   if op = 1 then decQ r else if op = 2 then regQ ins a
   else if op = 3 then addQ (regQ reg a) (regQ reg b) else if op = 4 then subQ (regQ reg a) (regQ reg b)
   else if op = 5 then mulQ (regQ reg a) (decQ r)
   else if op = 6 then minT (regQ reg a) (regQ reg b) else if op = 7 then maxT (regQ reg a) (regQ reg b)
   else if cmpQ (regQ reg a) (regQ reg b) ≤ 0 then regQ reg c else regQ reg d
def runsQ (ins : List Rt) : List Rt → List InsR → List Rt
 | reg, [] => reg
 | reg, x :: p => runsQ ins (reg ++ [stepQ ins reg x]) p
abbrev Rg := Rt × Rt
def regG (l : List Rg) (i : Int) : Rg := l.getD i.toNat (⟨0, 1⟩, ⟨0, 1⟩)
def addG (a b : Rg) : Rg := (addQ a.1 b.1, addQ a.2 b.2)
def subG (a b : Rg) : Rg := (subQ a.1 b.2, subQ a.2 b.1)
def mulG (r : Rt) (a : Rg) : Rg := if r.num < 0 then (mulQ a.2 r, mulQ a.1 r) else (mulQ a.1 r, mulQ a.2 r)
def minG (a b : Rg) : Rg := (minT a.1 b.1, minT a.2 b.2)
def maxG (a b : Rg) : Rg := (maxT a.1 b.1, maxT a.2 b.2)
def selG (a b c d : Rg) : Rg := if ¬ cmpQ b.1 a.2 < 0 then c else if cmpQ b.2 a.1 < 0 then d else (minT c.1 d.1, maxT c.2 d.2)
def stepG (ins reg : List Rg) : InsR → Rg
 | (op, a, b, c, d, r) =>
   if op = 1 then (decQ r, decQ r) else if op = 2 then regG ins a
   else if op = 3 then addG (regG reg a) (regG reg b) else if op = 4 then subG (regG reg a) (regG reg b)
   else if op = 5 then mulG (decQ r) (regG reg a)
   else if op = 6 then minG (regG reg a) (regG reg b) else if op = 7 then maxG (regG reg a) (regG reg b)
   else selG (regG reg a) (regG reg b) (regG reg c) (regG reg d)
def runsG (ins : List Rg) : List Rg → List InsR → List Rg
 | reg, [] => reg
 | reg, x :: p => runsG ins (reg ++ [stepG ins reg x]) p
theorem runsQ_snoc (ins : List Rt) (x : InsR) : ∀ (p : List InsR) (reg : List Rt), runsQ ins reg (p ++ [x]) = runsQ ins reg p ++ [stepQ ins (runsQ ins reg p) x]
 | [], _ => rfl
 | _ :: p, _ => runsQ_snoc ins x p _
theorem runsG_snoc (ins : List Rg) (x : InsR) : ∀ (p : List InsR) (reg : List Rg), runsG ins reg (p ++ [x]) = runsG ins reg p ++ [stepG ins (runsG ins reg p) x]
 | [], _ => rfl
 | _ :: p, _ => runsG_snoc ins x p _
theorem runsQ_len (ins : List Rt) : ∀ (p : List InsR) (reg : List Rt), (runsQ ins reg p).length = reg.length + p.length
 | [], _ => rfl
 | _ :: p, reg => by rw [runsQ, runsQ_len ins p]; simp; omega
theorem runsG_len (ins : List Rg) : ∀ (p : List InsR) (reg : List Rg), (runsG ins reg p).length = reg.length + p.length
 | [], _ => rfl
 | _ :: p, reg => by rw [runsG, runsG_len ins p]; simp; omega
def AllB (D A : Nat) (l : List Rt) : Prop := ∀ x, x ∈ l → Bd D A x
theorem AllB.up {D D' A A' : Nat} {l : List Rt} (h : AllB D A l) (hD : D ∣ D') (hA : A ≤ A') : AllB D' A' l := fun x hx => (h x hx).up hD hA
theorem AllB.at_ {D A : Nat} {l : List Rt} (h : AllB D A l) {i : Int} (hi : belowB i l.length = true) : Bd D A (regQ l i) := by
 have h1 := of_decide_eq_true hi
 have h2 : i.toNat < l.length := by omega
 unfold regQ
 rw [List.getD_eq_getElem?_getD, List.getElem?_eq_getElem h2]
 exact h _ (List.getElem_mem h2)
def Few3 (r : RatR) : Prop := r.1.2.length ≤ 3 ∧ r.2.2.length ≤ 3
theorem few3_bd {r : RatR} (hr : ratOk r = true) (h : Few3 r) : ∃ E, 0 < E ∧ E < BB ^ 3 ∧ Bd E (BB ^ 3) (decQ r) := by
 obtain ⟨x, hx, rfl⟩ := (ratOk_iff r).1 hr
 rw [decQ_enc]
 have h1 : (zmag x.num).length ≤ 3 := by have := h.1; simpa [encQ, encB, ints] using this
 have h2 : (zmag x.den).length ≤ 3 := by have := h.2; simpa [encQ, encB, ints] using this
 have h3 := (dig_len x.num.natAbs 3).2 h1
 have h4 := (dig_len x.den.natAbs 3).2 h2
 have hp := hx.pos
 refine ⟨x.den.natAbs, by omega, h4, hx, ?_, ?_⟩
 · exact Int.dvd_natAbs.2 (Int.dvd_refl _)
 · have : BB ^ 3 * 1 ≤ BB ^ 3 * x.den.natAbs := Nat.mul_le_mul_left _ (by omega)
   omega
def dE (k : Nat) : Nat := 400 + 3 * k
def Regs (k : Nat) (l : List Rt) : Prop := ∃ D, 0 < D ∧ D < BB ^ dE k ∧ AllB D (BB ^ (30 + 3 * k)) l
theorem Bd.sh_of {k : Nat} (hk : k ≤ 20) {D : Nat} (h0 : 0 < D) (hD : D < BB ^ dE k) {x : Rt} (h : Bd D (BB ^ (30 + 3 * k)) x) : Sh x := h.sh h0 hD (Nat.le_refl _) (by unfold dE; omega)
theorem Regs.sh {k : Nat} {l : List Rt} (h : Regs k l) (hk : k ≤ 20) : ∀ x, x ∈ l → x.ok ∧ Sh x := by
 obtain ⟨D, h0, hD, h⟩ := h
 exact fun x hx => ⟨(h x hx).ok, (h x hx).sh_of hk h0 hD⟩
theorem pow_two_le (k : Nat) : 2 * BB ^ (30 + 3 * k) ≤ BB ^ (30 + 3 * (k + 1)) := by
 rw [show 30 + 3 * (k + 1) = (30 + 3 * k) + 3 by omega, Nat.pow_add BB (30 + 3 * k) 3, Nat.mul_comm]
 exact Nat.mul_le_mul_left _ (by decide)
theorem pow_three (k : Nat) : BB ^ (30 + 3 * k) * BB ^ 3 = BB ^ (30 + 3 * (k + 1)) := by rw [← Nat.pow_add, show 30 + 3 * k + 3 = 30 + 3 * (k + 1) by omega]
theorem pow_up (k : Nat) : BB ^ (30 + 3 * k) ≤ BB ^ (30 + 3 * (k + 1)) := pow_BB (by omega)
theorem pow_d (k : Nat) {D E : Nat} (hD : D < BB ^ dE k) (hE : E < BB ^ 3) : D * E < BB ^ dE (k + 1) := by
 rw [show dE (k + 1) = dE k + 3 by unfold dE; omega, Nat.pow_add]
 exact Nat.mul_lt_mul'' hD hE
theorem minT_mem (a b : Rt) : minT a b = a ∨ minT a b = b := by unfold minT; split <;> simp
theorem maxT_mem (a b : Rt) : maxT a b = a ∨ maxT a b = b := by unfold maxT; split <;> simp
theorem right_at {i m : Int} {op a b c d : Int} {r : RatR} (h : rightI i m (op, a, b, c, d, r) = true) :
 (op = 1 ∧ ratOk r = true) ∨ (op = 2 ∧ belowB a m = true) ∨ ((op = 3 ∨ op = 4 ∨ op = 6 ∨ op = 7) ∧ belowB a i = true ∧ belowB b i = true) ∨ (op = 5 ∧ belowB a i = true ∧ ratOk r = true) ∨ (op = 8 ∧ belowB a i = true ∧ belowB b i = true ∧ belowB c i = true ∧ belowB d i = true) := by
 unfold rightI at h
 by_cases h1 : op = 1
 · simp [h1] at h; exact .inl ⟨h1, h.1.1.1.1⟩
 by_cases h2 : op = 2
 · simp [h2] at h; exact .inr (.inl ⟨h2, h.1.1.1.1⟩)
 by_cases h3 : op = 3 ∨ op = 4 ∨ op = 6 ∨ op = 7
 · simp only [h1, h2, h3, if_true, if_false, Bool.and_eq_true] at h; exact .inr (.inr (.inl ⟨h3, h.1.1.1.1, h.1.1.1.2⟩))
 by_cases h5 : op = 5
 · simp [h5] at h; exact .inr (.inr (.inr (.inl ⟨h5, h.1.1.1.1, h.2⟩)))
 by_cases h8 : op = 8
 · simp [h8] at h; exact .inr (.inr (.inr (.inr ⟨h8, h.1.1.1.1, h.1.1.1.2, h.1.1.2, h.1.2⟩)))
 · simp [h1, h2, h3, h5, h8] at h
theorem step_bd {k D A : Nat} {ins reg : List Rt} {x : InsR} (hk : k ≤ 20) (hr : rightI reg.length ins.length x = true) (hf : Few3 x.2.2.2.2.2) (h0 : 0 < D) (hD : D < BB ^ dE k) (hA : A = BB ^ (30 + 3 * k)) (hi : AllB D A ins) (hg : AllB D A reg) :
 ∃ E, 0 < E ∧ E < BB ^ 3 ∧ Bd (D * E) (BB ^ (30 + 3 * (k + 1))) (stepQ ins reg x) := by
 subst hA
 obtain ⟨op, a, b, c, d, r⟩ := x
 have one : ∀ y, Bd D (BB ^ (30 + 3 * k)) y → ∃ E, 0 < E ∧ E < BB ^ 3 ∧ Bd (D * E) (BB ^ (30 + 3 * (k + 1))) y := fun y hy => ⟨1, by omega, by decide, hy.up (by simp) (pow_up k)⟩
 rcases right_at hr with ⟨rfl, h1⟩ | ⟨rfl, h1⟩ | ⟨h3, h1, h2⟩ | ⟨rfl, h1, h2⟩ | ⟨rfl, h1, h2, h4, h5⟩
 · obtain ⟨E, e0, e1, e2⟩ := few3_bd h1 hf
   exact ⟨E, e0, e1, e2.up (Nat.dvd_mul_left _ _) (pow_BB (by omega))⟩
 · exact one _ (hi.at_ h1)
 · have ha := hg.at_ h1
   have hb := hg.at_ h2; have hfn := (ha.sh_of hk h0 hD).fine (hb.sh_of hk h0 hD)
   rcases h3 with rfl | rfl | rfl | rfl
   · exact ⟨1, by omega, by decide, (ha.sum hb hfn).up (by simp) (pow_two_le k)⟩
   · exact ⟨1, by omega, by decide, (ha.diff hb hfn).up (by simp) (pow_two_le k)⟩
   · refine one _ ?_
     show Bd _ _ (minT _ _)
     rcases minT_mem (regQ reg a) (regQ reg b) with e | e <;> rw [e] <;> assumption
   · refine one _ ?_
     show Bd _ _ (maxT _ _)
     rcases maxT_mem (regQ reg a) (regQ reg b) with e | e <;> rw [e] <;> assumption
 · obtain ⟨E, e0, e1, e2⟩ := few3_bd h2 hf
   have ha := hg.at_ h1
   have hs := (e2.sh (i := 3) (j := 3) e0 e1 (Nat.le_refl _) (by omega))
   exact ⟨E, e0, e1, pow_three k ▸ ha.prod e2 ((ha.sh_of hk h0 hD).fine hs)⟩
 · refine one _ ?_
   show Bd _ _ (if cmpQ _ _ ≤ 0 then _ else _)
   split
   · exact hg.at_ h4
   · exact hg.at_ h5
theorem Regs.step {k : Nat} {ins reg : List Rt} {x : InsR} (h : Regs k (ins ++ reg)) (hk : k ≤ 20) (hr : rightI reg.length ins.length x = true) (hf : Few3 x.2.2.2.2.2) : Regs (k + 1) (ins ++ (reg ++ [stepQ ins reg x])) := by
 obtain ⟨D, h0, hD, h⟩ := h
 obtain ⟨E, e0, e1, e2⟩ := step_bd hk hr hf h0 hD rfl (fun y hy => h y (List.mem_append_left _ hy)) (fun y hy => h y (List.mem_append_right _ hy))
 refine ⟨D * E, Nat.mul_pos h0 e0, pow_d k hD e1, fun y hy => ?_⟩
 rw [← List.append_assoc] at hy
 rcases List.mem_append.1 hy with hy | hy
 · exact (h y hy).up (Nat.dvd_mul_right _ _) (pow_up k)
 · rw [List.mem_singleton] at hy; subst hy; exact e2
def ends : List Rg → List Rt
 | [] => []
 | x :: l => x.1 :: x.2 :: ends l
theorem ends_append : ∀ a b : List Rg, ends (a ++ b) = ends a ++ ends b
 | [], _ => rfl
 | x :: a, b => by simp [ends, ends_append a b]
theorem mem_ends {x : Rg} : ∀ {l : List Rg}, x ∈ l → x.1 ∈ ends l ∧ x.2 ∈ ends l
 | y :: l, h => by
   rcases List.mem_cons.1 h with rfl | h
   · simp [ends]
   · have := mem_ends h; simp [ends, this]
theorem ends_at {D A : Nat} {l : List Rg} (h : AllB D A (ends l)) {i : Int} (hi : belowB i l.length = true) : Bd D A (regG l i).1 ∧ Bd D A (regG l i).2 := by
 have h1 := of_decide_eq_true hi
 have h2 : i.toNat < l.length := by omega
 unfold regG
 rw [List.getD_eq_getElem?_getD, List.getElem?_eq_getElem h2]
 have := mem_ends (List.getElem_mem h2)
 exact ⟨h _ this.1, h _ this.2⟩
theorem step_bdG {k D A : Nat} {ins reg : List Rg} {x : InsR} (hk : k ≤ 20) (hr : rightI reg.length ins.length x = true) (hf : Few3 x.2.2.2.2.2) (h0 : 0 < D) (hD : D < BB ^ dE k) (hA : A = BB ^ (30 + 3 * k)) (hi : AllB D A (ends ins)) (hg : AllB D A (ends reg)) :
 ∃ E, 0 < E ∧ E < BB ^ 3 ∧ Bd (D * E) (BB ^ (30 + 3 * (k + 1))) (stepG ins reg x).1 ∧ Bd (D * E) (BB ^ (30 + 3 * (k + 1))) (stepG ins reg x).2 := by
 subst hA
 obtain ⟨op, a, b, c, d, r⟩ := x
 have one : ∀ y : Rg, Bd D (BB ^ (30 + 3 * k)) y.1 → Bd D (BB ^ (30 + 3 * k)) y.2 → ∃ E, 0 < E ∧ E < BB ^ 3 ∧ Bd (D * E) (BB ^ (30 + 3 * (k + 1))) y.1 ∧ Bd (D * E) (BB ^ (30 + 3 * (k + 1))) y.2 :=
  fun y h1 h2 => ⟨1, by omega, by decide, h1.up (by simp) (pow_up k), h2.up (by simp) (pow_up k)⟩
 have fin : ∀ {y z : Rt}, Bd D (BB ^ (30 + 3 * k)) y → Bd D (BB ^ (30 + 3 * k)) z → Fine y z := fun hy hz => (hy.sh_of hk h0 hD).fine (hz.sh_of hk h0 hD)
 have mn : ∀ {y z : Rt}, Bd D (BB ^ (30 + 3 * k)) y → Bd D (BB ^ (30 + 3 * k)) z → Bd D (BB ^ (30 + 3 * k)) (minT y z) := fun {y z} hy hz => by
  rcases minT_mem y z with e | e <;> rw [e] <;> assumption
 have mx : ∀ {y z : Rt}, Bd D (BB ^ (30 + 3 * k)) y → Bd D (BB ^ (30 + 3 * k)) z → Bd D (BB ^ (30 + 3 * k)) (maxT y z) := fun {y z} hy hz => by
  rcases maxT_mem y z with e | e <;> rw [e] <;> assumption
 rcases right_at hr with ⟨rfl, h1⟩ | ⟨rfl, h1⟩ | ⟨h3, h1, h2⟩ | ⟨rfl, h1, h2⟩ | ⟨rfl, h1, h2, h4, h5⟩
 · obtain ⟨E, e0, e1, e2⟩ := few3_bd h1 hf
   have := e2.up (Nat.dvd_mul_left E D) (pow_BB (show 3 ≤ 30 + 3 * (k + 1) by omega)); exact ⟨E, e0, e1, this, this⟩
 · exact one _ (ends_at hi h1).1 (ends_at hi h1).2
 · obtain ⟨a1, a2⟩ := ends_at hg h1
   obtain ⟨b1, b2⟩ := ends_at hg h2
   rcases h3 with rfl | rfl | rfl | rfl
   · exact ⟨1, by omega, by decide, (a1.sum b1 (fin a1 b1)).up (by simp) (pow_two_le k), (a2.sum b2 (fin a2 b2)).up (by simp) (pow_two_le k)⟩
   · exact ⟨1, by omega, by decide, (a1.diff b2 (fin a1 b2)).up (by simp) (pow_two_le k), (a2.diff b1 (fin a2 b1)).up (by simp) (pow_two_le k)⟩
   · exact one (minG _ _) (mn a1 b1) (mn a2 b2)
   · exact one (maxG _ _) (mx a1 b1) (mx a2 b2)
 · obtain ⟨E, e0, e1, e2⟩ := few3_bd h2 hf
   obtain ⟨a1, a2⟩ := ends_at hg h1
   have hs := (e2.sh (i := 3) (j := 3) e0 e1 (Nat.le_refl _) (by omega))
   have p1 := a1.prod e2 ((a1.sh_of hk h0 hD).fine hs); have p2 := a2.prod e2 ((a2.sh_of hk h0 hD).fine hs); rw [pow_three] at p1 p2; refine ⟨E, e0, e1, ?_⟩
   show Bd _ _ (mulG _ _).1 ∧ Bd _ _ (mulG _ _).2
   unfold mulG
   split
   · exact ⟨p2, p1⟩
   · exact ⟨p1, p2⟩
 · obtain ⟨c1, c2⟩ := ends_at hg h4
   obtain ⟨d1, d2⟩ := ends_at hg h5
   show ∃ E, 0 < E ∧ E < BB ^ 3 ∧ Bd _ _ (selG _ _ _ _).1 ∧ Bd _ _ (selG _ _ _ _).2
   unfold selG
   split
   · exact one _ c1 c2
   · split
     · exact one _ d1 d2
     · exact one (_, _) (mn c1 d1) (mx c2 d2)
theorem Regs.stepG {k : Nat} {ins reg : List Rg} {x : InsR} (h : Regs k (ends (ins ++ reg))) (hk : k ≤ 20) (hr : rightI reg.length ins.length x = true) (hf : Few3 x.2.2.2.2.2) : Regs (k + 1) (ends (ins ++ (reg ++ [stepG ins reg x]))) := by
 obtain ⟨D, h0, hD, h⟩ := h
 rw [ends_append] at h
 obtain ⟨E, e0, e1, e2, e3⟩ := step_bdG hk hr hf h0 hD rfl (fun y hy => h y (List.mem_append_left _ hy)) (fun y hy => h y (List.mem_append_right _ hy))
 refine ⟨D * E, Nat.mul_pos h0 e0, pow_d k hD e1, fun y hy => ?_⟩
 rw [← List.append_assoc, ends_append, ends_append] at hy
 rcases List.mem_append.1 hy with hy | hy
 · exact (h y hy).up (Nat.dvd_mul_right _ _) (pow_up k)
 · simp only [ends, List.mem_cons, List.not_mem_nil, or_false] at hy
   rcases hy with rfl | rfl
   · exact e2
   · exact e3
end
section
theorem rights_at {m : Int} : ∀ {p : List InsR} {i : Int} {k : Nat} {x : InsR}, rightsI m i p = true → p[k]? = some x → rightI (i + k) m x = true
 | y :: p, i, 0, x, h, hx => by
   simp only [rightsI, Bool.and_eq_true] at h
   simp at hx
   subst hx
   simpa using h.1
 | y :: p, i, k + 1, x, h, hx => by
   simp only [rightsI, Bool.and_eq_true] at h; have := rights_at (k := k) h.2 (by simpa using hx); rw [show i + ((k + 1 : Nat) : Int) = i + 1 + (k : Int) by omega]; exact this
def FewP (p : List InsR) : Prop := ∀ x, x ∈ p → Few3 x.2.2.2.2.2
theorem take_snoc {α : Type} {p : List α} {k : Nat} {x : α} (h : p[k]? = some x) : p.take (k + 1) = p.take k ++ [x] := by rw [List.take_add_one, h, Option.toList_some]
theorem runs_regs {ins : List Rt} {p : List InsR} (h0 : Regs 0 ins) (hr : rightsI ins.length 0 p = true) (hf : FewP p) (hl : p.length ≤ 20) : ∀ k, k ≤ p.length → Regs k (ins ++ runsQ ins [] (p.take k))
 | 0, _ => by simpa [runsQ] using h0
 | k + 1, hk => by
   have h := runs_regs h0 hr hf hl k (by omega)
   obtain ⟨x, hx⟩ : ∃ x, p[k]? = some x := ⟨_, List.getElem?_eq_getElem (by omega)⟩
   have h2 := rights_at hr hx; rw [take_snoc hx, runsQ_snoc]; refine h.step (by omega) ?_ (hf x (List.mem_of_getElem? hx)); rw [runsQ_len, List.length_take, List.length_nil, Nat.zero_add, Nat.min_eq_left (by omega)]
   simpa using h2
theorem runs_regsG {ins : List Rg} {p : List InsR} (h0 : Regs 0 (ends ins)) (hr : rightsI ins.length 0 p = true) (hf : FewP p) (hl : p.length ≤ 20) : ∀ k, k ≤ p.length → Regs k (ends (ins ++ runsG ins [] (p.take k)))
 | 0, _ => by simpa [runsG] using h0
 | k + 1, hk => by
   have h := runs_regsG h0 hr hf hl k (by omega)
   obtain ⟨x, hx⟩ : ∃ x, p[k]? = some x := ⟨_, List.getElem?_eq_getElem (by omega)⟩
   have h2 := rights_at hr hx; rw [take_snoc hx, runsG_snoc]; refine h.stepG (by omega) ?_ (hf x (List.mem_of_getElem? hx)); rw [runsG_len, List.length_take, List.length_nil, Nat.zero_add, Nat.min_eq_left (by omega)]
   simpa using h2
def prodD : List Rt → Nat
 | [] => 1
 | x :: l => x.den.natAbs * prodD l
theorem prodD_dvd {x : Rt} : ∀ {l : List Rt}, x ∈ l → x.den ∣ (prodD l : Int)
 | y :: l, h => by
   have e : (prodD (y :: l) : Int) = (y.den.natAbs : Int) * (prodD l : Int) := by simp [prodD]
   rw [e]
   rcases List.mem_cons.1 h with rfl | h
   · exact Int.dvd_trans (Int.dvd_natAbs.2 (Int.dvd_refl _)) (Int.dvd_mul_right _ _)
   · exact Int.dvd_trans (prodD_dvd h) (Int.dvd_mul_left _ _)
theorem prodD_le {j : Nat} : ∀ {l : List Rt}, (∀ x, x ∈ l → x.den.natAbs < BB ^ j) → prodD l ≤ BB ^ (j * l.length)
 | [], _ => by simp [prodD]
 | y :: l, h => by
   have h1 := h y List.mem_cons_self; have h2 := prodD_le (l := l) (fun x hx => h x (List.mem_cons_of_mem _ hx)); rw [List.length_cons, Nat.mul_add, Nat.mul_one, Nat.add_comm, Nat.pow_add]; exact Nat.mul_le_mul (Nat.le_of_lt h1) h2
theorem prodD_pos : ∀ {l : List Rt}, (∀ x, x ∈ l → x.ok) → 0 < prodD l
 | [], _ => by decide
 | y :: l, h => Nat.mul_pos (by have := (h y List.mem_cons_self).pos; omega) (prodD_pos (fun x hx => h x (List.mem_cons_of_mem _ hx)))
theorem regs_few {j : Nat} {l : List Rt} (h : ∀ x, x ∈ l → x.ok ∧ x.num.natAbs < BB ^ 30 ∧ x.den.natAbs < BB ^ j) (hl : j * l.length < 400) : Regs 0 l := by
 have h9 : ∀ e, j * l.length < e → prodD l < BB ^ e := fun e he => Nat.lt_of_le_of_lt (prodD_le (fun x hx => (h x hx).2.2)) (Nat.pow_lt_pow_right BB_two he)
 refine ⟨prodD l, prodD_pos (fun x hx => (h x hx).1), h9 (dE 0) (by unfold dE; omega), fun x hx => ⟨(h x hx).1, prodD_dvd hx, ?_⟩⟩
 have h1 := (h x hx).2.1
 have h2 := (h x hx).1.pos
 have h3 : BB ^ 30 * 1 ≤ BB ^ 30 * x.den.natAbs := Nat.mul_le_mul_left _ (by omega)
 show _ ≤ BB ^ 30 * _
 omega
def rvG (x : Rg) : Rat × Rat := (rv x.1, rv x.2)
section
variable {a b c d r : Rt}
theorem rv_addQ (ha : a.ok) (hb : b.ok) (h : Fine a b) : rv (addQ a b) = rv a + rv b := rv_add ha hb (addQ_some h)
theorem rv_subQ (ha : a.ok) (hb : b.ok) (h : Fine a b) : rv (subQ a b) = rv a - rv b := rv_sub ha hb (subQ_some h)
theorem rv_mulQ (ha : a.ok) (hb : b.ok) (h : Fine a b) : rv (mulQ a b) = rv a * rv b := rv_mul ha hb (mulQ_some h)
theorem cmpQ_lt (ha : a.ok) (hb : b.ok) : cmpQ a b < 0 ↔ rv a < rv b := by
 rw [rv_lt ha hb]
 unfold cmpQ
 repeat' split
 all_goals omega
theorem cmpQ_le (ha : a.ok) (hb : b.ok) : cmpQ a b ≤ 0 ↔ rv a ≤ rv b := by
 rw [rv_le ha hb]
 unfold cmpQ
 repeat' split
 all_goals omega
theorem rv_minT (ha : a.ok) (hb : b.ok) : rv (minT a b) = minQ (rv a) (rv b) := by
 unfold minT minQ
 simp only [cmpQ_lt hb ha]
 split <;> rfl
theorem rv_maxT (ha : a.ok) (hb : b.ok) : rv (maxT a b) = maxQ (rv a) (rv b) := by
 unfold maxT maxQ
 simp only [cmpQ_lt ha hb]
 split <;> rfl
theorem rv_neg_iff (hr : r.ok) : r.num < 0 ↔ rv r < 0 := by
 have h := hr.pos
 have h1 := Rat.divInt_nonneg_iff_of_pos_right (a := r.num) h
 have e : rv r = Rat.divInt r.num r.den := rfl
 rw [← e] at h1
 rw [← Rat.not_le, h1]
 omega
end
def AllS (l : List Rt) : Prop := ∀ x, x ∈ l → x.ok ∧ Sh x
theorem AllS.ref {l : List Rt} (h : AllS l) {i : Int} (hi : belowB i l.length = true) : (regQ l i).ok ∧ Sh (regQ l i) := by
 have h1 := of_decide_eq_true hi
 have h2 : i.toNat < l.length := by omega
 unfold regQ
 rw [List.getD_eq_getElem?_getD, List.getElem?_eq_getElem h2]
 exact h _ (List.getElem_mem h2)
theorem AllS.refG {l : List Rg} (h : AllS (ends l)) {i : Int} (hi : belowB i l.length = true) : ((regG l i).1.ok ∧ Sh (regG l i).1) ∧ (regG l i).2.ok ∧ Sh (regG l i).2 := by
 have h1 := of_decide_eq_true hi
 have h2 : i.toNat < l.length := by omega
 unfold regG
 rw [List.getD_eq_getElem?_getD, List.getElem?_eq_getElem h2]
 have := mem_ends (List.getElem_mem h2)
 exact ⟨h _ this.1, h _ this.2⟩
theorem few3_sh {r : RatR} (hr : ratOk r = true) (h : Few3 r) : (decQ r).ok ∧ Sh (decQ r) := by
 obtain ⟨E, e0, e1, e2⟩ := few3_bd hr h
 exact ⟨e2.ok, e2.sh (i := 3) (j := 3) e0 e1 (Nat.le_refl _) (by omega)⟩
def HoldsL (l : List Rt) (g : List Rg) : Prop := l.length = g.length ∧ ∀ i, belowB i l.length = true → InR (rv (regQ l i)) (rvG (regG g i))
def SubL (l g : List Rg) : Prop := l.length = g.length ∧ ∀ i, belowB i l.length = true → Sub2 (rvG (regG l i)) (rvG (regG g i))
theorem regQ_snoc {l : List Rt} {y : Rt} {i : Int} (hi : belowB i (l ++ [y]).length = true) : (i = l.length ∧ regQ (l ++ [y]) i = y) ∨ (belowB i l.length = true ∧ regQ (l ++ [y]) i = regQ l i) := by
 have h1 := of_decide_eq_true hi
 rw [List.length_append, List.length_singleton] at h1
 by_cases e : i = l.length
 · left
   subst e; exact ⟨rfl, by simp [regQ]⟩
 · right
   have h2 : i.toNat < l.length := by omega
   refine ⟨decide_eq_true (by omega), ?_⟩
   simp [regQ, List.getD_eq_getElem?_getD, List.getElem?_append_left h2]
theorem regG_snoc {l : List Rg} {y : Rg} {i : Int} (hi : belowB i (l ++ [y]).length = true) : (i = l.length ∧ regG (l ++ [y]) i = y) ∨ (belowB i l.length = true ∧ regG (l ++ [y]) i = regG l i) := by
 have h1 := of_decide_eq_true hi
 rw [List.length_append, List.length_singleton] at h1
 by_cases e : i = l.length
 · left
   subst e; exact ⟨rfl, by simp [regG]⟩
 · right
   have h2 : i.toNat < l.length := by omega
   refine ⟨decide_eq_true (by omega), ?_⟩
   simp [regG, List.getD_eq_getElem?_getD, List.getElem?_append_left h2]
theorem regG_at {l : List Rg} {i : Int} (hi : ¬ belowB i l.length = true) (h0 : 0 ≤ i) : regG l i = (⟨0, 1⟩, ⟨0, 1⟩) := by
 have : ¬ (0 ≤ i ∧ i < l.length) := fun h => hi (decide_eq_true h)
 simp [regG, List.getD_eq_getElem?_getD, List.getElem?_eq_none (show l.length ≤ i.toNat by omega)]
theorem HoldsL.snoc {l : List Rt} {g : List Rg} {x : Rt} {y : Rg} (h : HoldsL l g) (hxy : InR (rv x) (rvG y)) : HoldsL (l ++ [x]) (g ++ [y]) := by
 refine ⟨by simp [h.1], fun i hi => ?_⟩
 have hi2 : belowB i (g ++ [y]).length = true := by rw [List.length_append, List.length_singleton] at hi ⊢; rw [← h.1]; exact hi
 rcases regQ_snoc hi with ⟨e1, e2⟩ | ⟨e1, e2⟩
 · rcases regG_snoc hi2 with ⟨e3, e4⟩ | ⟨e3, e4⟩
   · rw [e2, e4]; exact hxy
   · have := of_decide_eq_true e3; have := h.1; omega
 · rcases regG_snoc hi2 with ⟨e3, e4⟩ | ⟨e3, e4⟩
   · have := of_decide_eq_true e1; have := h.1; omega
   · rw [e2, e4]; exact h.2 i e1
theorem SubL.snoc {l g : List Rg} {x y : Rg} (h : SubL l g) (hxy : Sub2 (rvG x) (rvG y)) : SubL (l ++ [x]) (g ++ [y]) := by
 refine ⟨by simp [h.1], fun i hi => ?_⟩
 have hi2 : belowB i (g ++ [y]).length = true := by rw [List.length_append, List.length_singleton] at hi ⊢; rw [← h.1]; exact hi
 rcases regG_snoc hi with ⟨e1, e2⟩ | ⟨e1, e2⟩
 · rcases regG_snoc hi2 with ⟨e3, e4⟩ | ⟨e3, e4⟩
   · rw [e2, e4]; exact hxy
   · have := of_decide_eq_true e3; have := h.1; omega
 · rcases regG_snoc hi2 with ⟨e3, e4⟩ | ⟨e3, e4⟩
   · have := of_decide_eq_true e1; have := h.1; omega
   · rw [e2, e4]; exact h.2 i e1
section
variable {a b c d : Rg} {r : Rt}
def OkG (a : Rg) : Prop := (a.1.ok ∧ Sh a.1) ∧ a.2.ok ∧ Sh a.2
theorem rvG_add (ha : OkG a) (hb : OkG b) : rvG (addG a b) = addI (rvG a) (rvG b) :=
 Prod.ext (rv_addQ ha.1.1 hb.1.1 (ha.1.2.fine hb.1.2)) (rv_addQ ha.2.1 hb.2.1 (ha.2.2.fine hb.2.2))
theorem rvG_sub (ha : OkG a) (hb : OkG b) : rvG (subG a b) = subI (rvG a) (rvG b) :=
 Prod.ext (rv_subQ ha.1.1 hb.2.1 (ha.1.2.fine hb.2.2)) (rv_subQ ha.2.1 hb.1.1 (ha.2.2.fine hb.1.2))
theorem rvG_mul (ha : OkG a) (hr : r.ok ∧ Sh r) : rvG (mulG r a) = mulI (rv r) (rvG a) := by
 have h1 := rv_mulQ ha.1.1 hr.1 (ha.1.2.fine hr.2)
 have h2 := rv_mulQ ha.2.1 hr.1 (ha.2.2.fine hr.2)
 rw [Rat.mul_comm] at h1 h2
 have e := rv_neg_iff hr.1
 unfold mulG mulI
 by_cases h : r.num < 0
 · rw [if_pos h, if_pos (e.1 h)]; exact Prod.ext h2 h1
 · rw [if_neg h, if_neg (fun g => h (e.2 g))]; exact Prod.ext h1 h2
theorem rvG_min (ha : OkG a) (hb : OkG b) : rvG (minG a b) = minI (rvG a) (rvG b) := Prod.ext (rv_minT ha.1.1 hb.1.1) (rv_minT ha.2.1 hb.2.1)
theorem rvG_max (ha : OkG a) (hb : OkG b) : rvG (maxG a b) = maxI (rvG a) (rvG b) := Prod.ext (rv_maxT ha.1.1 hb.1.1) (rv_maxT ha.2.1 hb.2.1)
theorem rvG_sel (ha : OkG a) (hb : OkG b) (hc : OkG c) (hd : OkG d) : rvG (selG a b c d) = selI (rvG a) (rvG b) (rvG c) (rvG d) := by
 have e1 : cmpQ b.1 a.2 < 0 ↔ (rvG b).1 < (rvG a).2 := cmpQ_lt hb.1.1 ha.2.1
 have e2 : cmpQ b.2 a.1 < 0 ↔ (rvG b).2 < (rvG a).1 := cmpQ_lt hb.2.1 ha.1.1
 unfold selG selI
 simp only [e1, e2]
 split
 · rfl
 · split
   · rfl
   · exact Prod.ext (rv_minT hc.1.1 hd.1.1) (rv_maxT hc.2.1 hd.2.1)
end
theorem step_holds {ins reg : List Rt} {insG regG' : List Rg} {x : InsR} (hr : rightI reg.length ins.length x = true) (hf : Few3 x.2.2.2.2.2) (hi : HoldsL ins insG) (hg : HoldsL reg regG') (sg : AllS reg) (tg : AllS (ends regG')) :
 InR (rv (stepQ ins reg x)) (rvG (stepG insG regG' x)) := by
 obtain ⟨op, a, b, c, d, r⟩ := x
 have up : ∀ {j : Int}, belowB j reg.length = true → belowB j regG'.length = true := fun h => by rw [← hg.1]; exact h
 rcases right_at hr with ⟨rfl, h1⟩ | ⟨rfl, h1⟩ | ⟨h3, h1, h2⟩ | ⟨rfl, h1, h2⟩ | ⟨rfl, h1, h2, h4, h5⟩
 · exact ⟨Rat.le_refl, Rat.le_refl⟩
 · exact hi.2 _ h1
 · have ha := sg.ref h1
   have hb := sg.ref h2; have ga := tg.refG (up h1); have gb := tg.refG (up h2)
   rcases h3 with rfl | rfl | rfl | rfl
   · show InR (rv (addQ _ _)) (rvG (addG _ _))
     rw [rv_addQ ha.1 hb.1 (ha.2.fine hb.2), rvG_add ga gb]; exact add_in (hg.2 _ h1) (hg.2 _ h2)
   · show InR (rv (subQ _ _)) (rvG (subG _ _))
     rw [rv_subQ ha.1 hb.1 (ha.2.fine hb.2), rvG_sub ga gb]; exact sub_in (hg.2 _ h1) (hg.2 _ h2)
   · show InR (rv (minT _ _)) (rvG (minG _ _))
     rw [rv_minT ha.1 hb.1, rvG_min ga gb]; exact min_in (hg.2 _ h1) (hg.2 _ h2)
   · show InR (rv (maxT _ _)) (rvG (maxG _ _))
     rw [rv_maxT ha.1 hb.1, rvG_max ga gb]; exact max_in (hg.2 _ h1) (hg.2 _ h2)
 · have ha := sg.ref h1
   have hc := few3_sh h2 hf
   show InR (rv (mulQ _ _)) (rvG (mulG _ _))
   rw [rv_mulQ ha.1 hc.1 (ha.2.fine hc.2), rvG_mul (tg.refG (up h1)) hc, Rat.mul_comm]; exact mul_in (hg.2 _ h1)
 · show InR (rv (if cmpQ _ _ ≤ 0 then _ else _)) (rvG (selG _ _ _ _))
   rw [rvG_sel (tg.refG (up h1)) (tg.refG (up h2)) (tg.refG (up h4)) (tg.refG (up h5))]; have := sel_in (hg.2 _ h1) (hg.2 _ h2) (hg.2 _ h4) (hg.2 _ h5); have e := cmpQ_le (sg.ref h1).1 (sg.ref h2).1
   by_cases hc : cmpQ (regQ reg a) (regQ reg b) ≤ 0
   · rw [if_pos hc]; rw [if_pos (e.1 hc)] at this; exact this
   · rw [if_neg hc]; rw [if_neg (fun h => hc (e.2 h))] at this; exact this
theorem sel_sub {a b c d a' b' c' d' : Rat × Rat} (ha : Sub2 a a') (hb : Sub2 b b') (hc : Sub2 c c') (hd : Sub2 d d') (wa : a.1 ≤ a.2) (wb : b.1 ≤ b.2) : Sub2 (selI a b c d) (selI a' b' c' d') := by
 unfold Sub2 selI minQ maxQ at *
 grind
theorem step_sub {insG reg insG' reg' : List Rg} {x : InsR} (hr : rightI reg.length insG.length x = true) (hf : Few3 x.2.2.2.2.2) (hi : SubL insG insG') (hg : SubL reg reg') (sg : AllS (ends reg)) (tg : AllS (ends reg')) (hw : ∀ i, belowB i reg.length = true → (rvG (regG reg i)).1 ≤ (rvG (regG reg i)).2) :
 Sub2 (rvG (stepG insG reg x)) (rvG (stepG insG' reg' x)) := by
 obtain ⟨op, a, b, c, d, r⟩ := x
 have up : ∀ {j : Int}, belowB j reg.length = true → belowB j reg'.length = true := fun h => by rw [← hg.1]; exact h
 rcases right_at hr with ⟨rfl, h1⟩ | ⟨rfl, h1⟩ | ⟨h3, h1, h2⟩ | ⟨rfl, h1, h2⟩ | ⟨rfl, h1, h2, h4, h5⟩
 · exact ⟨Rat.le_refl, Rat.le_refl⟩
 · exact hi.2 _ h1
 · have ha := sg.refG h1
   have hb := sg.refG h2; have ga := tg.refG (up h1); have gb := tg.refG (up h2)
   rcases h3 with rfl | rfl | rfl | rfl
   · show Sub2 (rvG (addG _ _)) (rvG (addG _ _))
     rw [rvG_add ha hb, rvG_add ga gb]; exact add_sub (hg.2 _ h1) (hg.2 _ h2)
   · show Sub2 (rvG (subG _ _)) (rvG (subG _ _))
     rw [rvG_sub ha hb, rvG_sub ga gb]; exact sub_sub (hg.2 _ h1) (hg.2 _ h2)
   · show Sub2 (rvG (minG _ _)) (rvG (minG _ _))
     rw [rvG_min ha hb, rvG_min ga gb]; exact min_sub (hg.2 _ h1) (hg.2 _ h2)
   · show Sub2 (rvG (maxG _ _)) (rvG (maxG _ _))
     rw [rvG_max ha hb, rvG_max ga gb]; exact max_sub (hg.2 _ h1) (hg.2 _ h2)
 · have hc := few3_sh h2 hf
   show Sub2 (rvG (mulG _ _)) (rvG (mulG _ _))
   rw [rvG_mul (sg.refG h1) hc, rvG_mul (tg.refG (up h1)) hc]; exact mul_sub2 (hg.2 _ h1)
 · show Sub2 (rvG (selG _ _ _ _)) (rvG (selG _ _ _ _))
   rw [rvG_sel (sg.refG h1) (sg.refG h2) (sg.refG h4) (sg.refG h5), rvG_sel (tg.refG (up h1)) (tg.refG (up h2)) (tg.refG (up h4)) (tg.refG (up h5))]; exact sel_sub (hg.2 _ h1) (hg.2 _ h2) (hg.2 _ h4) (hg.2 _ h5) (hw _ h1) (hw _ h2)
theorem AllS.left {l m : List Rt} (h : AllS (l ++ m)) : AllS l := fun x hx => h x (List.mem_append_left _ hx)
theorem AllS.right {l m : List Rt} (h : AllS (l ++ m)) : AllS m := fun x hx => h x (List.mem_append_right _ hx)
theorem Regs.all {k : Nat} {l : List Rt} (h : Regs k l) (hk : k ≤ 20) : AllS l := h.sh hk
theorem whole_holds {ins : List Rt} {insG : List Rg} {p : List InsR} (h0 : Regs 0 ins) (g0 : Regs 0 (ends insG)) (hi : HoldsL ins insG) (hr : rightsI ins.length 0 p = true) (hf : FewP p) (hl : p.length ≤ 20) : ∀ k, k ≤ p.length → HoldsL (runsQ ins [] (p.take k)) (runsG insG [] (p.take k))
 | 0, _ => ⟨rfl, fun i h => by have := of_decide_eq_true h; simp [runsQ] at this; omega⟩
 | k + 1, hk => by
   have h := whole_holds h0 g0 hi hr hf hl k (by omega)
   obtain ⟨x, hx⟩ : ∃ x, p[k]? = some x := ⟨_, List.getElem?_eq_getElem (by omega)⟩
   have h2 := rights_at hr hx; have a1 := (runs_regs h0 hr hf hl k (by omega)).all (by omega); have a2 := (runs_regsG g0 (by rw [← hi.1]; exact hr) hf hl k (by omega)).all (by omega); rw [ends_append] at a2; rw [take_snoc hx, runsQ_snoc, runsG_snoc]; refine h.snoc (step_holds ?_ (hf x (List.mem_of_getElem? hx)) hi h a1.right a2.right); rw [runsQ_len, List.length_take, List.length_nil, Nat.zero_add, Nat.min_eq_left (by omega)]
   simpa using h2
theorem whole_sub {ins : List Rt} {insG insG' : List Rg} {p : List InsR} (h0 : Regs 0 ins) (g0 : Regs 0 (ends insG)) (g1 : Regs 0 (ends insG')) (hi : HoldsL ins insG) (hs : SubL insG insG') (hr : rightsI ins.length 0 p = true) (hf : FewP p) (hl : p.length ≤ 20) : ∀ k, k ≤ p.length → SubL (runsG insG [] (p.take k)) (runsG insG' [] (p.take k))
 | 0, _ => ⟨rfl, fun i h => by have := of_decide_eq_true h; simp [runsG] at this; omega⟩
 | k + 1, hk => by
   have h := whole_sub h0 g0 g1 hi hs hr hf hl k (by omega); have hh := whole_holds h0 g0 hi hr hf hl k (by omega)
   obtain ⟨x, hx⟩ : ∃ x, p[k]? = some x := ⟨_, List.getElem?_eq_getElem (by omega)⟩
   have h2 := rights_at hr hx; have a1 := (runs_regsG g0 (by rw [← hi.1]; exact hr) hf hl k (by omega)).all (by omega); have a2 := (runs_regsG g1 (by rw [← hs.1, ← hi.1]; exact hr) hf hl k (by omega)).all (by omega); rw [ends_append] at a1 a2; rw [take_snoc hx, runsG_snoc, runsG_snoc]; refine h.snoc (step_sub ?_ (hf x (List.mem_of_getElem? hx)) hs h a1.right a2.right fun i hb => ?_)
   · rw [runsG_len, List.length_take, List.length_nil, Nat.zero_add, Nat.min_eq_left (by omega), ← hi.1]
     simpa using h2
   · have := hh.2 i (by rw [hh.1]; exact hb)
     exact Rat.le_trans this.1 this.2
def dup (x : Rt) : Rg := (x, x)
theorem regG_dup (l : List Rt) (i : Int) : regG (l.map dup) i = dup (regQ l i) := by
 unfold regG regQ
 rw [List.getD_eq_getElem?_getD, List.getD_eq_getElem?_getD, List.getElem?_map]
 cases l[i.toNat]? <;> rfl
theorem step_dup (ins reg : List Rt) (x : InsR) : stepG (ins.map dup) (reg.map dup) x = dup (stepQ ins reg x) := by
 obtain ⟨op, a, b, c, d, r⟩ := x
 unfold stepG stepQ
 simp only [regG_dup]
 repeat' split
 all_goals try rfl
 · unfold mulG
   split <;> rfl
 · next h => unfold selG dup; simp only; rw [cmpQ_swap (regQ reg a)]; rw [if_pos (by omega)]
 · next h => unfold selG dup; simp only; rw [cmpQ_swap (regQ reg a)]; rw [if_neg (by omega), if_pos (by omega)]
theorem runs_dup (ins : List Rt) : ∀ (p : List InsR) (reg : List Rt), runsG (ins.map dup) (reg.map dup) p = (runsQ ins reg p).map dup
 | [], _ => rfl
 | x :: p, reg => by
   rw [runsG, runsQ, ← runs_dup ins p, step_dup]
   simp
end
section
def encG (x : Rg) : RngR := (encQ x.1, encQ x.2)
def decG (x : RngR) : Rg := (decQ x.1, decQ x.2)
theorem decG_enc (x : Rg) : decG (encG x) = x := by simp [decG, encG, decQ_enc]
def rngOk (x : RngR) : Bool := ratOk x.1 && ratOk x.2
def zeroQ : RatR := ((false, []), (false, []))
def zeroG : RngR := (zeroQ, zeroQ)
def under (x : RngR) : Bool := decide (cmpQ (decQ x.2) (decQ x.1) < 0)
def outE (p : List InsR) (ins : List RngR) : Int := if codeE p ins.length = 0 then (if ins.all rngOk then (if ins.any under then 200 else 0) else 100) else 190
def outG (p : List InsR) (ins : List Rg) : Rg := regG (runsG ins [] p) (p.length - 1)
def outV (p : List InsR) (ins : List RngR) : RngR := if outE p ins = 0 then encG (outG p (ins.map decG)) else zeroG
def resQ (p : List InsR) (ins : List Rt) : Rt := regQ (runsQ ins [] p) (p.length - 1)
def ascends : List Rt → Bool
 | x :: y :: l => decide (cmpQ x y < 0) && ascends (y :: l)
 | _ => true
def needE (p : List InsR) (ins : List RatR) (at_ : Int) (vs : List RatR) (t : RatR) : Int :=
 if codeE p ins.length = 0 then (if ins.all ratOk && vs.all ratOk && ratOk t then (if 0 ≤ at_ ∧ at_ < ins.length then (if ascends (vs.map decQ) then 0 else 200) else 1) else 100) else 190
def enough (p : List InsR) (ins : List Rt) (at_ : Int) (t : Rt) (v : Rt) : Bool := decide (0 ≤ cmpQ (resQ p (ins.set at_.toNat v)) t)
def firstK (f : Rt → Bool) : Nat → List Rt → Int × Bool
 | _, [] => (0, false)
 | k, v :: l => if f v then (k, true) else firstK f (k + 1) l
def needV (p : List InsR) (ins : List RatR) (at_ : Int) (vs : List RatR) (t : RatR) : Int × Bool :=
 if needE p ins at_ vs t = 0 then firstK (enough p (ins.map decQ) at_ (decQ t)) 0 (vs.map decQ) else (0, false)
theorem codeE_iff (p : List InsR) (m : Int) : codeE p m = 0 ↔ (1 ≤ p.length ∧ p.length ≤ 4096) ∧ rightsI m 0 p = true := by
 unfold codeE
 split
 · next h => constructor
             · intro e; cases e
             · intro e; omega
 · next h =>
   split
   · next g => exact ⟨fun _ => ⟨by omega, g⟩, fun _ => rfl⟩
   · next g => exact ⟨fun e => (by cases e), fun e => absurd e.2 g⟩
theorem codeE_not {p : List InsR} {m : Int} (h : codeE p m ≠ 0) : codeE p m = 190 := by
 unfold codeE at *
 split
 · rfl
 · next g =>
   rw [if_neg g] at h
   split
   · next g2 => rw [if_pos g2] at h; exact absurd rfl h
   · rfl
theorem firstK_some {f : Rt → Bool} : ∀ {l : List Rt} {k : Nat} {i : Int}, firstK f k l = (i, true) → ∃ j : Nat, i = ((k + j : Nat) : Int) ∧ (∃ v, l[j]? = some v ∧ f v = true) ∧ ∀ m v, m < j → l[m]? = some v → f v = false
 | [], k, i, h => by simp [firstK] at h
 | x :: l, k, i, h => by
   unfold firstK at h
   split at h
   · next hf =>
     refine ⟨0, by simpa using (congrArg Prod.fst h).symm, ⟨x, rfl, hf⟩, fun m v hm => by omega⟩
   · next hf =>
     obtain ⟨j, h1, ⟨v, h2, h3⟩, h4⟩ := firstK_some h; refine ⟨j + 1, by rw [h1]; congr 1; omega, ⟨v, by simpa using h2, h3⟩, fun m v hm hv => ?_⟩
     match m, hv with
     | 0, hv => simp at hv; subst hv; simpa using hf
     | m + 1, hv => exact h4 m v (by omega) (by simpa using hv)
theorem firstK_none {f : Rt → Bool} : ∀ {l : List Rt} {k : Nat} {i : Int}, firstK f k l = (i, false) → i = 0 ∧ ∀ v, v ∈ l → f v = false
 | [], k, i, h => by simp [firstK] at h; exact ⟨h.symm, by simp⟩
 | x :: l, k, i, h => by
   unfold firstK at h
   split at h
   · simp at h
   · next hf =>
     obtain ⟨h1, h2⟩ := firstK_none h; refine ⟨h1, fun v hv => ?_⟩
     rcases List.mem_cons.1 hv with rfl | hv
     · simpa using hf
     · exact h2 v hv
end
end Go.Proofs.YtboapndkopabiaaGreat
