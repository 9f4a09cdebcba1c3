/- Lemmas and walks (Big4 Big5 Big8 Big9 Raw Big6 Big7 Dig). No statement is proved here. -/
import Derived.OwnWalkIn
import Derived.Test.YtboapndkopabiaaGreatM03
set_option linter.unusedVariables false
set_option linter.unusedSimpArgs false
namespace Go.Proofs.YtboapndkopabiaaGreat
section
def zneg (z : Int) : Bool := decide (z < 0)
def zmag (z : Int) : List Nat := dig z.natAbs
def bigM (neg : Bool) (n : Nat) : Int := if neg then -(n : Int) else (n : Int)
theorem val_zmag (z : Int) : val (zmag z) = z.natAbs := val_dig _
theorem good_zmag (z : Int) : Good (zmag z) := good_dig _
theorem topped_zmag (z : Int) : topped (zmag z) = true := topped_dig _
theorem zmag_big (neg : Bool) (n : Nat) : zmag (bigM neg n) = dig n := by
 unfold zmag bigM
 cases neg <;> simp
theorem dig_nil {n : Nat} : dig n = [] ↔ n = 0 := by
 constructor
 · intro h
   have := val_dig n; rw [h] at this
   simpa [val] using this.symm
 · rintro rfl; exact dig_zero
theorem zneg_big (neg : Bool) (n : Nat) : zneg (bigM neg n) = (neg && decide (0 < (dig n).length)) := by
 by_cases hn : n = 0
 · subst hn
   cases neg <;> simp [zneg, bigM, dig_zero]
 · have h : 0 < (dig n).length := List.length_pos_iff.2 (fun e => hn (dig_nil.1 e))
   cases neg
   · simp [zneg, bigM]
   · simp only [h, decide_true, Bool.and_true, zneg, bigM, if_true]
     exact decide_eq_true (by omega)
theorem big_mul (s t : Bool) (q k : Nat) : bigM (s != t) q * bigM t k = bigM s (q * k) := by
 cases s <;> cases t <;> simp [bigM, Int.natCast_mul, Int.neg_mul, Int.mul_neg]
theorem big_own (z : Int) : bigM (zneg z) z.natAbs = z := by
 unfold bigM zneg
 by_cases h : z < 0
 · simp [h]; omega
 · simp [h]; omega
theorem add_same {a b : Int} (h : zneg a = zneg b) : bigM (zneg a) (a.natAbs + b.natAbs) = a + b := by
 unfold bigM zneg at *
 have h2 : (a < 0) ↔ (b < 0) := decide_eq_decide.1 h
 by_cases c : a < 0
 · have d := h2.1 c
   simp only [c, decide_true, if_true]; omega
 · have d : ¬ b < 0 := fun e => c (h2.2 e)
   simp only [c, decide_false, Bool.false_eq_true, if_false]; omega
theorem add_other {a b : Int} (h : zneg a ≠ zneg b) (hl : b.natAbs ≤ a.natAbs) : bigM (zneg a) (a.natAbs - b.natAbs) = a + b := by
 unfold bigM zneg at *
 have h2 : ¬ ((a < 0) ↔ (b < 0)) := fun e => h (decide_eq_decide.2 e)
 by_cases c : a < 0
 · have d : ¬ b < 0 := fun e => h2 ⟨fun _ => e, fun _ => c⟩
   simp only [c, decide_true, if_true]; omega
 · have d : b < 0 := by
    by_cases e : b < 0
    · exact e
    · exact absurd ⟨fun x => absurd x c, fun x => absurd x e⟩ h2
   simp only [c, decide_false, Bool.false_eq_true, if_false]; omega
theorem mul_big (a b : Int) : bigM (zneg a != zneg b) (a.natAbs * b.natAbs) = a * b := by
 have e : ((a.natAbs * b.natAbs : Nat) : Int) = (a * b).natAbs := by rw [Int.natAbs_mul]
 unfold bigM zneg
 by_cases c : a < 0 <;> by_cases d : b < 0
 · have := Int.mul_pos_of_neg_of_neg c d
   simp only [c, d, decide_true, bne_self_eq_false, Bool.false_eq_true, if_false]; omega
 · have : a * b ≤ 0 := Int.mul_nonpos_of_nonpos_of_nonneg (by omega) (by omega)
   simp only [c, d, decide_true, decide_false, Bool.true_bne, Bool.not_false, if_true]; omega
 · have : a * b ≤ 0 := Int.mul_nonpos_of_nonneg_of_nonpos (by omega) (by omega)
   simp only [c, d, decide_true, decide_false, Bool.false_bne, if_true]; omega
 · have : 0 ≤ a * b := Int.mul_nonneg (by omega) (by omega)
   simp only [c, d, decide_false, bne_self_eq_false, Bool.false_eq_true, if_false]; omega
theorem emod_abs {a b : Int} (ha : ¬ a < 0) : a % b = ((a.natAbs % b.natAbs : Nat) : Int) := by
 obtain ⟨m, rfl⟩ : ∃ m : Nat, a = (m : Int) := ⟨a.toNat, by omega⟩
 obtain ⟨k, hk⟩ : ∃ k : Nat, b = (k : Int) ∨ b = -(k : Int) := ⟨b.natAbs, by omega⟩
 rcases hk with rfl | rfl
 · simp [Int.natCast_emod]
 · simp [Int.natCast_emod, Int.emod_neg]
theorem div_exact {a b : Int} (h : (a.natAbs : Nat) % b.natAbs = 0 ∨ ¬ a < 0) (hb : b ≠ 0) : bigM (zneg a != zneg b) (a.natAbs / b.natAbs) = a / b ∧ ((a.natAbs % b.natAbs : Nat) : Int) = a % b := by
 have hm : ((a.natAbs % b.natAbs : Nat) : Int) = a % b := by
  by_cases c : a < 0
  · have h0 := h.resolve_right (fun x => x c)
    rw [h0]; have : b ∣ a := Int.natAbs_dvd_natAbs.1 (Nat.dvd_of_mod_eq_zero h0); exact (Int.emod_eq_zero_of_dvd this).symm
  · exact (emod_abs c).symm
 refine ⟨?_, hm⟩
 have h1 := Nat.mod_add_div a.natAbs b.natAbs
 have h3 : bigM (zneg a != zneg b) (a.natAbs / b.natAbs) * b = bigM (zneg a) (a.natAbs / b.natAbs * b.natAbs) := by
  have := big_mul (zneg a) (zneg b) (a.natAbs / b.natAbs) b.natAbs
  rwa [big_own b] at this
 have h4 : bigM (zneg a != zneg b) (a.natAbs / b.natAbs) * b + a % b = a := by
  rw [h3, ← hm]
  have h5 : a.natAbs / b.natAbs * b.natAbs = a.natAbs - a.natAbs % b.natAbs := by rw [Nat.mul_comm]; omega
  have h6 := Nat.mod_le a.natAbs b.natAbs; rw [h5]; unfold bigM zneg
  by_cases c : a < 0
  · have h0 := h.resolve_right (fun x => x c)
    simp only [c, decide_true, if_true, h0]; omega
  · simp only [c, decide_false, Bool.false_eq_true, if_false]; omega
 have h7 := Int.mul_ediv_add_emod a b
 have h8 : bigM (zneg a != zneg b) (a.natAbs / b.natAbs) * b = b * (a / b) := by omega
 rw [Int.mul_comm b] at h8
 exact Int.eq_of_mul_eq_mul_right hb h8
def bigOk (most : Nat) (neg : Bool) (l : List Int) : Bool := decide (l.length ≤ most) && (!(l.isEmpty && neg)) && (l.getLast?.all fun d => d != 0) && l.all fun d => decide (0 ≤ d ∧ d < (BB : Int))
theorem topped_last : ∀ (l : List Nat), topped l = (l.getLast?.all fun d => d != 0)
 | [] => rfl
 | [d] => by simp [topped]
 | d :: e :: r => by
   have := topped_last (e :: r)
   simpa [topped] using this
theorem big_of_ok {most : Nat} {neg : Bool} {l : List Int} (h : bigOk most neg l = true) : ∃ z : Int, neg = zneg z ∧ l = (zmag z).map (fun (d : Nat) => (d : Int)) ∧ (zmag z).length ≤ most := by
 simp only [bigOk, Bool.and_eq_true, decide_eq_true_eq, List.all_eq_true] at h
 obtain ⟨⟨⟨h1, h2⟩, h3⟩, h4⟩ := h
 have hl : l = (l.map Int.toNat).map (fun (d : Nat) => (d : Int)) := by
  rw [List.map_map]
  conv => lhs; rw [← List.map_id l]
  apply List.map_congr_left; intro d hd; have := h4 d hd; simp only [id, Function.comp]; omega
 have hg : Good (l.map Int.toNat) := by
  intro d hd; obtain ⟨x, hx, rfl⟩ := List.mem_map.1 hd; have := h4 x hx; omega
 have ht : topped (l.map Int.toNat) = true := by
  rw [topped_last, List.getLast?_map]
  cases hq : l.getLast? with
  | none => rfl
  | some d =>
    rw [hq] at h3; have h5 := h4 d (List.mem_of_getLast? hq)
    simp at h3 ⊢
    omega
 have hd := dig_val _ hg ht
 refine ⟨bigM neg (val (l.map Int.toNat)), ?_, ?_, ?_⟩
 · rw [zneg_big, hd, List.length_map]
   cases neg
   · rfl
   · simp at h2
     have : 0 < l.length := List.length_pos_iff.2 h2
     simp [this]
 · rw [zmag_big, hd]; exact hl
 · rw [zmag_big, hd, List.length_map]; exact h1
end
section
theorem dig_len : ∀ (n : Nat) (k : Nat), n < BB ^ k ↔ (dig n).length ≤ k
 | n, 0 => by
   rw [Nat.pow_zero, Nat.le_zero, List.length_eq_zero_iff, dig_nil]; omega
 | n, k + 1 => by
   by_cases h : n = 0
   · subst h
     rw [dig_zero]
     simp [Nat.pow_pos BB_pos]
   · rw [dig_pos h, List.length_cons, Nat.succ_le_succ_iff, ← dig_len (n / BB) k, Nat.pow_succ, Nat.div_lt_iff_lt_mul BB_pos]
theorem dig_mono {m n : Nat} (h : m ≤ n) : (dig m).length ≤ (dig n).length := (dig_len m _).1 (Nat.lt_of_le_of_lt h ((dig_len n _).2 (Nat.le_refl _)))
def fits (z : Int) : Bool := decide ((zmag z).length ≤ 2048)
theorem fits_mono {a b : Int} (h : a.natAbs ≤ b.natAbs) (hb : fits b = true) : fits a = true := by
 have h1 := of_decide_eq_true hb
 exact decide_eq_true (Nat.le_trans (dig_mono h) h1)
theorem fits_neg {a : Int} (h : fits a = true) : fits (-a) = true := fits_mono (by omega) h
structure Rt where
 num : Int
 den : Int
structure Rt.ok (x : Rt) : Prop where
 pos : 0 < x.den
 low : Int.gcd x.num x.den = 1
 fn : fits x.num = true
 fd : fits x.den = true
def lowM (n d : Int) : Rt := if d / (Int.gcd n d : Int) < 0 then ⟨-(n / (Int.gcd n d : Int)), -(d / (Int.gcd n d : Int))⟩ else ⟨n / (Int.gcd n d : Int), d / (Int.gcd n d : Int)⟩
theorem low_pos {n d : Int} (hd : 0 < d) : lowM n d = ⟨n / (Int.gcd n d : Int), d / (Int.gcd n d : Int)⟩ := by
 have : 0 ≤ d / (Int.gcd n d : Int) := Int.ediv_nonneg (by omega) (by omega)
 unfold lowM
 rw [if_neg (by omega)]
theorem low_ok {n d : Int} (hd : 0 < d) (hn : fits n = true) (hf : fits d = true) : (lowM n d).ok := by
 rw [low_pos hd]
 have hg : 0 < Int.gcd n d := Int.gcd_pos_iff.2 (.inr (by omega))
 obtain ⟨g, hgd⟩ : ∃ g, Int.gcd n d = g := ⟨_, rfl⟩
 rw [hgd] at hg ⊢
 obtain ⟨a, rfl⟩ : (g : Int) ∣ n := by rw [← hgd]; exact Int.gcd_dvd_left ..
 obtain ⟨b, rfl⟩ : (g : Int) ∣ d := by rw [← hgd]; exact Int.gcd_dvd_right ..
 rw [Int.mul_ediv_cancel_left _ (by omega), Int.mul_ediv_cancel_left _ (by omega)]
 have hbp : 0 < b := by
  by_cases c : 0 < b
  · exact c
  · have : (g : Int) * b ≤ 0 := Int.mul_nonpos_of_nonneg_of_nonpos (by omega) (by omega)
    omega
 refine ⟨hbp, ?_, ?_, ?_⟩
 · rw [Int.gcd_mul_left, Int.natAbs_natCast] at hgd
   have e3 : g * Int.gcd a b = g * 1 := by rw [hgd, Nat.mul_one]
   exact Nat.eq_of_mul_eq_mul_left hg e3
 · refine fits_mono ?_ hn
   rw [Int.natAbs_mul, Int.natAbs_natCast]; exact Nat.le_mul_of_pos_left _ hg
 · refine fits_mono ?_ hf
   rw [Int.natAbs_mul, Int.natAbs_natCast]; exact Nat.le_mul_of_pos_left _ hg
theorem dvd_low {x y z : Int} (h : x ∣ y * z) (hl : Int.gcd y x = 1) : x ∣ z := by
 have h1 : x.natAbs ∣ y.natAbs * z.natAbs := by rw [← Int.natAbs_mul]; exact Int.natAbs_dvd_natAbs.2 h
 have h2 : Nat.Coprime x.natAbs y.natAbs := Nat.Coprime.symm hl
 exact Int.natAbs_dvd_natAbs.1 (h2.dvd_of_dvd_mul_left h1)
theorem low_same {n d : Int} (hd : 0 < d) : (lowM n d).num * d = n * (lowM n d).den := by
 rw [low_pos hd]
 have h1 : (Int.gcd n d : Int) ∣ n := Int.gcd_dvd_left ..
 have h2 : (Int.gcd n d : Int) ∣ d := Int.gcd_dvd_right ..
 show n / (Int.gcd n d : Int) * d = n * (d / (Int.gcd n d : Int))
 rw [← Int.mul_ediv_assoc _ h2, Int.mul_comm (n / _) d, ← Int.mul_ediv_assoc _ h1, Int.mul_comm d n]
def cmpR (a b : Rt) : Option Int := if fits (a.num * b.den) && fits (b.num * a.den) then some (if a.num * b.den < b.num * a.den then -1 else if b.num * a.den < a.num * b.den then 1 else 0) else none
def addR (a b : Rt) : Option Rt := if fits (a.num * b.den) && fits (b.num * a.den) && fits (a.den * b.den) && fits (a.num * b.den + b.num * a.den) then some (lowM (a.num * b.den + b.num * a.den) (a.den * b.den)) else none
def negR (a : Rt) : Rt := ⟨-a.num, a.den⟩
def subR (a b : Rt) : Option Rt := addR a (negR b)
def mulR (a b : Rt) : Option Rt := if fits (a.num * b.num) && fits (a.den * b.den) then some (lowM (a.num * b.num) (a.den * b.den)) else none
theorem neg_ok {a : Rt} (h : a.ok) : (negR a).ok := ⟨h.pos, by show Int.gcd (-a.num) a.den = 1; rw [Int.neg_gcd]; exact h.low, fits_neg h.fn, h.fd⟩
theorem add_ok {a b x : Rt} (ha : a.ok) (hb : b.ok) (h : addR a b = some x) : x.ok := by
 unfold addR at h
 split at h
 · next c =>
   simp only [Bool.and_eq_true] at c
   obtain rfl := Option.some.inj h
   exact low_ok (Int.mul_pos ha.pos hb.pos) c.2 c.1.2
 · cases h
theorem sub_ok {a b x : Rt} (ha : a.ok) (hb : b.ok) (h : subR a b = some x) : x.ok := add_ok ha (neg_ok hb) h
theorem mul_ok {a b x : Rt} (ha : a.ok) (hb : b.ok) (h : mulR a b = some x) : x.ok := by
 unfold mulR at h
 split at h
 · next c =>
   simp only [Bool.and_eq_true] at c
   obtain rfl := Option.some.inj h
   exact low_ok (Int.mul_pos ha.pos hb.pos) c.1 c.2
 · cases h
theorem rt_ext {a b : Rt} (ha : a.ok) (hb : b.ok) (h : a.num * b.den = b.num * a.den) : a = b := by
 have h1 : a.den ∣ b.den := by
  have : a.den ∣ a.num * b.den := ⟨b.num, by rw [h, Int.mul_comm]⟩
  exact dvd_low this ha.low
 have h2 : b.den ∣ a.den := by
  have : b.den ∣ b.num * a.den := ⟨a.num, by rw [← h, Int.mul_comm]⟩
  exact dvd_low this hb.low
 have h3 : a.den = b.den := Int.dvd_antisymm (Int.le_of_lt ha.pos) (Int.le_of_lt hb.pos) h1 h2
 rw [h3] at h
 have h4 : a.num = b.num := Int.eq_of_mul_eq_mul_right (by have := hb.pos; omega) h
 cases a; cases b
 simp only at h3 h4
 rw [h3, h4]
end
section
def rv (x : Rt) : Rat := Rat.divInt x.num x.den
theorem rv_inj {a b : Rt} (ha : a.ok) (hb : b.ok) (h : rv a = rv b) : a = b := by
 have h1 := ha.pos
 have h2 := hb.pos
 exact rt_ext ha hb ((Rat.divInt_eq_divInt_iff (by omega) (by omega)).1 h)
theorem low_den {n d : Int} (hd : 0 < d) : 0 < (lowM n d).den := by
 rw [low_pos hd]
 have hg : 0 < Int.gcd n d := Int.gcd_pos_iff.2 (.inr (by omega))
 have h2 : (Int.gcd n d : Int) ∣ d := Int.gcd_dvd_right ..
 exact Int.ediv_pos_of_pos_of_dvd hd (by omega) h2
theorem rv_low {n d : Int} (hd : 0 < d) : rv (lowM n d) = Rat.divInt n d := by
 have h1 := low_den (n := n) hd
 refine (Rat.divInt_eq_divInt_iff (by omega) (by omega)).2 ?_
 rw [low_same hd]
theorem rv_add {a b x : Rt} (ha : a.ok) (hb : b.ok) (h : addR a b = some x) : rv x = rv a + rv b := by
 have h1 := ha.pos
 have h2 := hb.pos
 unfold addR at h
 split at h
 · obtain rfl := Option.some.inj h
   rw [rv_low (Int.mul_pos h1 h2)]; exact (Rat.divInt_add_divInt _ _ (by omega) (by omega)).symm
 · cases h
theorem rv_neg (a : Rt) : rv (negR a) = -rv a := by
 unfold rv negR
 exact (Rat.neg_divInt _ _).symm
theorem rv_sub {a b x : Rt} (ha : a.ok) (hb : b.ok) (h : subR a b = some x) : rv x = rv a - rv b := by
 rw [rv_add ha (neg_ok hb) h, rv_neg, Rat.sub_eq_add_neg]
theorem rv_mul {a b x : Rt} (ha : a.ok) (hb : b.ok) (h : mulR a b = some x) : rv x = rv a * rv b := by
 have h1 := ha.pos
 have h2 := hb.pos
 unfold mulR at h
 split at h
 · obtain rfl := Option.some.inj h
   rw [rv_low (Int.mul_pos h1 h2)]; exact (Rat.divInt_mul_divInt _ _).symm
 · cases h
theorem rv_le {a b : Rt} (ha : a.ok) (hb : b.ok) : rv a ≤ rv b ↔ a.num * b.den ≤ b.num * a.den := by
 have h1 := ha.pos
 have h2 := hb.pos
 rw [Rat.le_iff_sub_nonneg]
 unfold rv
 rw [Rat.divInt_sub_divInt _ _ (by omega) (by omega), Rat.divInt_nonneg_iff_of_pos_right (Int.mul_pos h2 h1)]
 omega
theorem rv_lt {a b : Rt} (ha : a.ok) (hb : b.ok) : rv a < rv b ↔ a.num * b.den < b.num * a.den := by
 rw [← Rat.not_le, rv_le hb ha]
 omega
theorem rv_cmp {a b : Rt} {c : Int} (ha : a.ok) (hb : b.ok) (h : cmpR a b = some c) : (c < 0 ↔ rv a < rv b) ∧ (0 < c ↔ rv b < rv a) ∧ (c = 0 ↔ rv a = rv b) := by
 have h1 := ha.pos
 have h2 := hb.pos
 have e1 := rv_lt ha hb
 have e2 := rv_lt hb ha
 have e3 : rv a = rv b ↔ a.num * b.den = b.num * a.den := Rat.divInt_eq_divInt_iff (by omega) (by omega)
 unfold cmpR at h
 split at h
 · obtain rfl := Option.some.inj h
   rw [e1, e2, e3]; generalize a.num * b.den = x; generalize b.num * a.den = y
   repeat' split
   all_goals omega
 · cases h
end
section
def InR (x : Rat) (r : Rat × Rat) : Prop := r.1 ≤ x ∧ x ≤ r.2
def Sub2 (r s : Rat × Rat) : Prop := s.1 ≤ r.1 ∧ r.2 ≤ s.2
def addI (r s : Rat × Rat) : Rat × Rat := (r.1 + s.1, r.2 + s.2)
def subI (r s : Rat × Rat) : Rat × Rat := (r.1 - s.2, r.2 - s.1)
def mulI (k : Rat) (r : Rat × Rat) : Rat × Rat := if k < 0 then (k * r.2, k * r.1) else (k * r.1, k * r.2)
def minQ (a b : Rat) : Rat := if b < a then b else a
def maxQ (a b : Rat) : Rat := if a < b then b else a
def minI (r s : Rat × Rat) : Rat × Rat := (minQ r.1 s.1, minQ r.2 s.2)
def maxI (r s : Rat × Rat) : Rat × Rat := (maxQ r.1 s.1, maxQ r.2 s.2)
def selI (a b c d : Rat × Rat) : Rat × Rat := if ¬ b.1 < a.2 then c else if b.2 < a.1 then d else (minQ c.1 d.1, maxQ c.2 d.2)
theorem add_in {x y : Rat} {r s : Rat × Rat} (h : InR x r) (g : InR y s) : InR (x + y) (addI r s) := by
 obtain ⟨h1, h2⟩ := h
 obtain ⟨g1, g2⟩ := g
 exact ⟨show r.1 + s.1 ≤ x + y by grind, show x + y ≤ r.2 + s.2 by grind⟩
theorem sub_in {x y : Rat} {r s : Rat × Rat} (h : InR x r) (g : InR y s) : InR (x - y) (subI r s) := by
 obtain ⟨h1, h2⟩ := h
 obtain ⟨g1, g2⟩ := g
 exact ⟨show r.1 - s.2 ≤ x - y by grind, show x - y ≤ r.2 - s.1 by grind⟩
theorem mul_le_neg {k a b : Rat} (hk : k < 0) (h : a ≤ b) : k * b ≤ k * a := by
 have h2 := Rat.mul_le_mul_of_nonneg_left h (show 0 ≤ -k by grind)
 grind
theorem mul_in {x k : Rat} {r : Rat × Rat} (h : InR x r) : InR (k * x) (mulI k r) := by
 obtain ⟨h1, h2⟩ := h
 unfold mulI InR
 split
 · next hk => exact ⟨mul_le_neg hk h2, mul_le_neg hk h1⟩
 · next hk => exact ⟨Rat.mul_le_mul_of_nonneg_left h1 (by grind), Rat.mul_le_mul_of_nonneg_left h2 (by grind)⟩
theorem min_in {x y : Rat} {r s : Rat × Rat} (h : InR x r) (g : InR y s) : InR (minQ x y) (minI r s) := by
 unfold InR minI minQ at *
 grind
theorem max_in {x y : Rat} {r s : Rat × Rat} (h : InR x r) (g : InR y s) : InR (maxQ x y) (maxI r s) := by
 unfold InR maxI maxQ at *
 grind
theorem sel_in {x y u v : Rat} {a b c d : Rat × Rat} (hx : InR x a) (hy : InR y b) (hu : InR u c) (hv : InR v d) : InR (if x ≤ y then u else v) (selI a b c d) := by
 unfold InR selI minQ maxQ at *
 grind
theorem add_sub {r s r' s' : Rat × Rat} (h : Sub2 r r') (g : Sub2 s s') : Sub2 (addI r s) (addI r' s') := by
 unfold Sub2 addI at *
 grind
theorem sub_sub {r s r' s' : Rat × Rat} (h : Sub2 r r') (g : Sub2 s s') : Sub2 (subI r s) (subI r' s') := by
 unfold Sub2 subI at *
 grind
theorem mul_sub2 {k : Rat} {r r' : Rat × Rat} (h : Sub2 r r') : Sub2 (mulI k r) (mulI k r') := by
 obtain ⟨h1, h2⟩ := h
 unfold mulI Sub2
 split
 · next hk => exact ⟨mul_le_neg hk h2, mul_le_neg hk h1⟩
 · next hk => exact ⟨Rat.mul_le_mul_of_nonneg_left h1 (by grind), Rat.mul_le_mul_of_nonneg_left h2 (by grind)⟩
theorem min_sub {r s r' s' : Rat × Rat} (h : Sub2 r r') (g : Sub2 s s') : Sub2 (minI r s) (minI r' s') := by
 unfold Sub2 minI minQ at *
 grind
theorem max_sub {r s r' s' : Rat × Rat} (h : Sub2 r r') (g : Sub2 s s') : Sub2 (maxI r s) (maxI r' s') := by
 unfold Sub2 maxI maxQ at *
 grind
end
section
def ints (l : List Nat) : List Int := l.map (fun (d : Nat) => (d : Int))
abbrev BigR := Bool × List Int
abbrev RatR := BigR × BigR
abbrev RngR := RatR × RatR
def encB (z : Int) : BigR := (zneg z, ints (zmag z))
def encQ (r : Rt) : RatR := (encB r.num, encB r.den)
def natOk (x : BigR) : Bool := bigOk 2048 x.1 x.2
def decB (x : BigR) : Int := bigM x.1 (val (x.2.map Int.toNat))
def decQ (x : RatR) : Rt := ⟨decB x.1, decB x.2⟩
theorem ints_back (l : List Nat) : (ints l).map Int.toNat = l := by
 unfold ints
 rw [List.map_map]
 conv => rhs; rw [← List.map_id l]
 apply List.map_congr_left
 intro d _
 rfl
theorem dec_enc (z : Int) : decB (encB z) = z := by
 unfold decB encB
 simp only [ints_back, val_zmag]
 exact big_own z
theorem decQ_enc (r : Rt) : decQ (encQ r) = r := by
 unfold decQ encQ
 simp only [dec_enc]
theorem getLast?_ints (l : List Nat) : (ints l).getLast? = l.getLast?.map (fun (d : Nat) => (d : Int)) := by unfold ints; rw [List.getLast?_map]
theorem natOk_enc (z : Int) (h : fits z = true) : natOk (encB z) = true := by
 have h1 := of_decide_eq_true h
 have h2 := topped_zmag z
 have h3 := good_zmag z
 rw [topped_last] at h2
 simp only [natOk, bigOk, encB, Bool.and_eq_true, decide_eq_true_eq, List.all_eq_true]
 refine ⟨⟨⟨by simpa [ints] using h1, ?_⟩, ?_⟩, ?_⟩
 · cases hz : zneg z
   · simp
   · have : 0 < z.natAbs := by
      unfold zneg at hz; have := of_decide_eq_true hz; omega
     have hne : zmag z ≠ [] := fun e => by
      have := dig_nil.1 e; omega
     cases hq : zmag z with
     | nil => exact absurd hq hne
     | cons a l => simp [ints]
 · rw [getLast?_ints]
   cases hq : (zmag z).getLast? with
   | none => rfl
   | some d =>
     rw [hq] at h2
     simp at h2 ⊢
     omega
 · intro d hd
   obtain ⟨k, hk, rfl⟩ := List.mem_map.1 hd; have := h3 k hk; omega
theorem natOk_iff (x : BigR) : natOk x = true ↔ ∃ z : Int, x = encB z ∧ fits z = true := by
 constructor
 · intro h
   obtain ⟨z, h1, h2, h3⟩ := big_of_ok h; exact ⟨z, Prod.ext h1 h2, decide_eq_true h3⟩
 · rintro ⟨z, rfl, h⟩
   exact natOk_enc z h
def ratOk (x : RatR) : Bool := natOk x.1 && natOk x.2 && decide (0 < decB x.2) && decide (Int.gcd (decB x.1) (decB x.2) = 1)
theorem ratOk_iff (x : RatR) : ratOk x = true ↔ ∃ r : Rt, r.ok ∧ x = encQ r := by
 constructor
 · intro h
   simp only [ratOk, Bool.and_eq_true, decide_eq_true_eq] at h; obtain ⟨⟨⟨h1, h2⟩, h3⟩, h4⟩ := h; obtain ⟨n, e1, f1⟩ := (natOk_iff _).1 h1; obtain ⟨d, e2, f2⟩ := (natOk_iff _).1 h2; rw [e1, e2, dec_enc, dec_enc] at h4; rw [e2, dec_enc] at h3; exact ⟨⟨n, d⟩, ⟨h3, h4, f1, f2⟩, Prod.ext e1 e2⟩
 · rintro ⟨r, h, rfl⟩
   simp only [ratOk, encQ, natOk_enc _ h.fn, natOk_enc _ h.fd, dec_enc, h.pos, h.low, decide_true, Bool.and_self]
abbrev InsR := Int × Int × Int × Int × Int × RatR
def zeroR (x : RatR) : Bool := x == ((false, []), (false, []))
def belowB (n most : Int) : Bool := decide (0 ≤ n ∧ n < most)
def rightI (i m : Int) : InsR → Bool
 | (op, a, b, c, d, r) =>
   if op = 1 then ratOk r && a == 0 && b == 0 && c == 0 && d == 0
   else if op = 2 then belowB a m && b == 0 && c == 0 && d == 0 && zeroR r
   else if op = 3 ∨ op = 4 ∨ op = 6 ∨ op = 7 then belowB a i && belowB b i && c == 0 && d == 0 && zeroR r
   else if op = 5 then belowB a i && b == 0 && c == 0 && d == 0 && ratOk r
   else if op = 8 then belowB a i && belowB b i && belowB c i && belowB d i && zeroR r
   else false
def rightsI (m : Int) : Int → List InsR → Bool
 | _, [] => true
 | i, x :: l => rightI i m x && rightsI m (i + 1) l
def codeE (p : List InsR) (m : Int) : Int := if p.length < 1 ∨ 4096 < p.length then 190 else if rightsI m 0 p then 0 else 190
end
section
theorem drop_cons {l : List Nat} {j x : Nat} (h : l[j]? = some x) : l.drop j = x :: l.drop (j + 1) := by
 have hj : j < l.length := (List.getElem?_eq_some_iff.1 h).1
 rw [List.drop_eq_getElem_cons hj]
 congr 1
 exact (List.getElem?_eq_some_iff.1 h).2
theorem val_top2 {l : List Nat} {j x y : Nat} (hx : l[j]? = some x) (hy : l[j + 1]? = some y) (hl : l.length = j + 2) : val (l.drop j) = y * BB + x := by
 rw [drop_cons hx, drop_cons hy, List.drop_of_length_le (by omega)]
 simp only [val, Nat.mul_zero, Nat.add_zero]
 rw [Nat.mul_comm y BB, Nat.add_comm]
theorem val_top3 {l : List Nat} {j x y z : Nat} (hx : l[j]? = some x) (hy : l[j + 1]? = some y) (hz : l[j + 2]? = some z) (hl : l.length = j + 3) : val (l.drop j) = (z * BB + y) * BB + x := by
 rw [drop_cons hx, drop_cons hy, drop_cons hz, List.drop_of_length_le (by omega)]
 simp only [val, Nat.mul_zero, Nat.add_zero]
 rw [Nat.mul_comm (z * BB + y) BB, Nat.mul_comm z BB, Nat.mul_add, Nat.mul_add]
 omega
structure GuessOk (us vs : List Nat) (g : Nat) : Prop where
 small : g < BB
 low : val us / val vs ≤ g
theorem guess_start {us vs : List Nat} {j u1 u0 v1 : Nat} (hu : Good us) (hv : Good vs) (h1 : us[j + 1]? = some u1) (h0 : us[j + 2]? = some u0) (hl : us.length = j + 3) (hv1 : vs[j + 1]? = some v1) (hlv : vs.length = j + 2) (hp : 0 < v1) (hW : val us < BB * val vs) :
 GuessOk us vs (min ((u0 * BB + u1) / v1) (BB - 1)) := by
 have hV0 : 0 < val vs := by
  rcases Nat.eq_zero_or_pos (val vs) with e | e
  · rw [e, Nat.mul_zero] at hW; omega
  · exact e
 refine ⟨Nat.lt_of_le_of_lt (Nat.min_le_right _ _) (Nat.sub_lt BB_pos Nat.one_pos), ?_⟩
 have hq : val us / val vs * val vs ≤ val us := Nat.div_mul_le_self _ _
 have a1 : val us / val vs < BB := (Nat.div_lt_iff_lt_mul hV0).2 hW
 obtain ⟨b1, b2⟩ := top_bounds hu (k := j + 1) (by omega)
 obtain ⟨c1, c2⟩ := top_bounds hv (k := j + 1) (by omega)
 rw [val_top2 h1 h0 (by omega)] at b1 b2
 rw [drop_cons hv1, List.drop_of_length_le (by omega)] at c1
 simp only [val, Nat.mul_zero, Nat.add_zero] at c1
 exact Nat.le_min.2 ⟨guess_first hq c1 b2 hp, Nat.le_sub_one_of_lt a1⟩
theorem guess_less {us vs : List Nat} {j u2 u1 u0 v2 v1 g : Nat} (hu : Good us) (hv : Good vs) (h2 : us[j]? = some u2) (h1 : us[j + 1]? = some u1) (h0 : us[j + 2]? = some u0) (hl : us.length = j + 3) (hv2 : vs[j]? = some v2) (hv1 : vs[j + 1]? = some v1) (hlv : vs.length = j + 2)
 (hV0 : 0 < val vs) (hg : GuessOk us vs g) (ht : (u0 * BB + u1) * BB + u2 < g * (v1 * BB + v2)) : GuessOk us vs (g - 1) := by
 obtain ⟨b1, b2⟩ := top_bounds hu (k := j) (by omega)
 obtain ⟨c1, c2⟩ := top_bounds hv (k := j) (by omega)
 rw [val_top3 h2 h1 h0 hl] at b1 b2
 rw [val_top2 hv2 hv1 hlv] at c1 c2
 have h := guess_down c1 b2 ht
 have h3 : val us / val vs < g := (Nat.div_lt_iff_lt_mul hV0).2 h
 have := hg.small
 exact ⟨by omega, by omega⟩
theorem guess_done {us vs : List Nat} {j u2 u1 u0 v2 v1 g : Nat} (hu : Good us) (hv : Good vs) (h2 : us[j]? = some u2) (h1 : us[j + 1]? = some u1) (h0 : us[j + 2]? = some u0) (hl : us.length = j + 3) (hv2 : vs[j]? = some v2) (hv1 : vs[j + 1]? = some v1) (hlv : vs.length = j + 2)
 (hp : 0 < v1) (hg : GuessOk us vs g) (ht : g * (v1 * BB + v2) ≤ (u0 * BB + u1) * BB + u2) : g * val vs ≤ val us + val vs := by
 obtain ⟨b1, b2⟩ := top_bounds hu (k := j) (by omega)
 obtain ⟨c1, c2⟩ := top_bounds hv (k := j) (by omega)
 rw [val_top3 h2 h1 h0 hl] at b1 b2
 rw [val_top2 hv2 hv1 hlv] at c1 c2
 refine guess_near c2 b1 ht ?_
 have := hg.small
 have : 1 * BB ≤ v1 * BB := Nat.mul_le_mul_right _ hp
 omega
theorem guess_far {g v1 v2 head u2 : Nat} (hg : g < BB) (hv : v2 < BB) (hh : g * v1 ≤ head) (h : BB - 1 < head - g * v1) : g * (v1 * BB + v2) ≤ head * BB + u2 := by
 have e : g * (v1 * BB + v2) = g * v1 * BB + g * v2 := by rw [Nat.mul_add, Nat.mul_assoc]
 have h1 : g * v2 ≤ BB * BB := Nat.mul_le_mul (by omega) (by omega)
 have h2 : (g * v1 + BB) * BB ≤ head * BB := Nat.mul_le_mul_right _ (by omega)
 rw [Nat.add_mul] at h2
 omega
theorem guess_test {g v1 v2 head u2 : Nat} (hh : g * v1 ≤ head) : (head - g * v1) * BB + u2 < g * v2 ↔ head * BB + u2 < g * (v1 * BB + v2) := by
 have e : g * (v1 * BB + v2) = g * v1 * BB + g * v2 := by rw [Nat.mul_add, Nat.mul_assoc]
 have e2 : (head - g * v1) * BB = head * BB - g * v1 * BB := Nat.sub_mul ..
 have h2 : g * v1 * BB ≤ head * BB := Nat.mul_le_mul_right _ hh
 omega
theorem digit_found {us vs ws : List Nat} {t g : Nat} (hus : us = ws ++ [t]) (hlw : ws.length = vs.length) (hv : Good vs) (hV0 : 0 < val vs) (hg : GuessOk us vs g)
 (hge : 0 ≤ (t : Int) + (carryM ((List.range vs.length).map fun j => (digAt ws j : Int) - (g : Int) * (digAt vs j : Int)) 0).2) :
 g = val us / val vs ∧ val (carryM ((List.range vs.length).map fun j => (digAt ws j : Int) - (g : Int) * (digAt vs j : Int)) 0).1 = val us % val vs ∧ (t : Int) + (carryM ((List.range vs.length).map fun j => (digAt ws j : Int) - (g : Int) * (digAt vs j : Int)) 0).2 = 0 := by
 have h1 := take_away g hlw
 obtain ⟨hm, hml⟩ := carry_good ((List.range vs.length).map fun j => (digAt ws j : Int) - (g : Int) * (digAt vs j : Int)) 0
 rw [List.length_map, List.length_range] at hml
 have hmv := val_lt _ hm
 rw [hml] at hmv
 have hVl := val_lt vs hv
 have hU : val us = val ws + BB ^ vs.length * t := by rw [hus, val_append, hlw]; simp [val]
 generalize (carryM ((List.range vs.length).map fun j => (digAt ws j : Int) - (g : Int) * (digAt vs j : Int)) 0).2 = o at *
 generalize val (carryM ((List.range vs.length).map fun j => (digAt ws j : Int) - (g : Int) * (digAt vs j : Int)) 0).1 = m at *
 have hpw : ((BB ^ vs.length : Nat) : Int) = (BB : Int) ^ vs.length := Int.natCast_pow ..
 rw [← hpw] at h1
 have h2 : (m : Int) + ((BB ^ vs.length : Nat) : Int) * ((t : Int) + o) = (val us : Int) - (g : Int) * (val vs : Int) := by
  rw [Int.mul_add, hU, Int.natCast_add, Int.natCast_mul]; omega
 have h3 : 0 ≤ ((BB ^ vs.length : Nat) : Int) * ((t : Int) + o) := Int.mul_nonneg (by omega) hge
 have h4 : g * val vs ≤ val us := by
  have : ((g * val vs : Nat) : Int) = (g : Int) * (val vs : Int) := Int.natCast_mul ..; omega
 have h5 : g = val us / val vs := Nat.le_antisymm ((Nat.le_div_iff_mul_le hV0).2 h4) hg.low
 have h6 := Nat.mod_add_div (val us) (val vs)
 have h7 := Nat.mod_lt (val us) hV0
 rw [← h5] at h6
 have h8 : (m : Int) + ((BB ^ vs.length : Nat) : Int) * ((t : Int) + o) = ((val us % val vs : Nat) : Int) := by
  rw [h2]
  have : ((val vs * g : Nat) : Int) = (g : Int) * (val vs : Int) := by rw [Nat.mul_comm]; exact Int.natCast_mul ..
  omega
 obtain ⟨h9, h10⟩ := left_over hmv (by omega) h8
 exact ⟨h5, h10, h9⟩
theorem digit_back {us vs ws : List Nat} {t g : Nat} (hus : us = ws ++ [t]) (hlw : ws.length = vs.length) (hv : Good vs) (hnear : g * val vs ≤ val us + val vs) {m : List Nat} {o : Int}
 (hmo : carryM ((List.range vs.length).map fun j => (digAt ws j : Int) - (g : Int) * (digAt vs j : Int)) 0 = (m, o)) (hlt : (t : Int) + o < 0) :
 1 ≤ g ∧ g - 1 = val us / val vs ∧ val (carryM ((List.range vs.length).map fun j => (digAt m j : Int) + (digAt vs j : Int)) 0).1 = val us % val vs ∧ (t : Int) + o + (carryM ((List.range vs.length).map fun j => (digAt m j : Int) + (digAt vs j : Int)) 0).2 = 0 := by
 have h1 := take_away g hlw
 obtain ⟨hm, hml⟩ := carry_good ((List.range vs.length).map fun j => (digAt ws j : Int) - (g : Int) * (digAt vs j : Int)) 0
 rw [List.length_map, List.length_range] at hml
 rw [hmo] at h1 hm hml
 have hmv := val_lt _ hm
 simp only at h1 hm hml hmv
 rw [hml] at hmv
 have hVl := val_lt vs hv
 have hU : val us = val ws + BB ^ vs.length * t := by rw [hus, val_append, hlw]; simp [val]
 have hb1 := add_back (ws := m) (vs := vs) hml
 obtain ⟨hn, hnl⟩ := carry_good ((List.range vs.length).map fun j => (digAt m j : Int) + (digAt vs j : Int)) 0
 rw [List.length_map, List.length_range] at hnl
 have hnv := val_lt _ hn
 rw [hnl] at hnv
 generalize (carryM ((List.range vs.length).map fun j => (digAt m j : Int) + (digAt vs j : Int)) 0).2 = o2 at *
 generalize val (carryM ((List.range vs.length).map fun j => (digAt m j : Int) + (digAt vs j : Int)) 0).1 = n at *
 have hpw : ((BB ^ vs.length : Nat) : Int) = (BB : Int) ^ vs.length := Int.natCast_pow ..
 rw [← hpw] at h1 hb1
 have e1 : ((BB ^ vs.length : Nat) : Int) * ((t : Int) + o) = ((BB ^ vs.length : Nat) : Int) * (t : Int) + ((BB ^ vs.length : Nat) : Int) * o := Int.mul_add ..
 have e0 : ((val us : Nat) : Int) = (val ws : Int) + ((BB ^ vs.length : Nat) : Int) * (t : Int) := by rw [hU, Int.natCast_add, Int.natCast_mul]
 have h2 : (val m : Int) + ((BB ^ vs.length : Nat) : Int) * ((t : Int) + o) = (val us : Int) - (g : Int) * (val vs : Int) := by omega
 have h3 : ((BB ^ vs.length : Nat) : Int) * ((t : Int) + o) ≤ ((BB ^ vs.length : Nat) : Int) * (-1) := Int.mul_le_mul_of_nonneg_left (by omega) (by omega)
 have eg : ((g * val vs : Nat) : Int) = (g : Int) * (val vs : Int) := Int.natCast_mul ..
 have h4 : val us < g * val vs := by omega
 have hg1 : 1 ≤ g := by
  rcases Nat.eq_zero_or_pos g with e | e
  · subst e; simp at h4
  · exact e
 obtain ⟨f, rfl⟩ : ∃ f, g = f + 1 := ⟨g - 1, by omega⟩
 rw [Nat.add_mul, Nat.one_mul] at hnear h4 eg
 have h5 : val us = f * val vs + (val us - f * val vs) := by omega
 obtain ⟨h6, h7⟩ := quo_of h5 (by omega)
 have e2 : ((BB ^ vs.length : Nat) : Int) * ((t : Int) + o + o2) = ((BB ^ vs.length : Nat) : Int) * ((t : Int) + o) + ((BB ^ vs.length : Nat) : Int) * o2 := Int.mul_add ..
 have h8 : (n : Int) + ((BB ^ vs.length : Nat) : Int) * ((t : Int) + o + o2) = ((val us - f * val vs : Nat) : Int) := by omega
 obtain ⟨h9, h10⟩ := left_over hnv (by omega) h8
 exact ⟨hg1, by omega, by omega, h9⟩
end
section
theorem val_drop (l : List Nat) (i : Nat) : val (l.drop i) = digAt l i + BB * val (l.drop (i + 1)) := by
 by_cases h : i < l.length
 · rw [List.drop_eq_getElem_cons h, val]
   simp [digAt, List.getD, List.getElem?_eq_getElem h]
 · rw [List.drop_of_length_le (by omega), List.drop_of_length_le (by omega)]
   simp [val, digAt, List.getD, List.getElem?_eq_none (show l.length ≤ i by omega)]
theorem digAt_lt {l : List Nat} (h : Good l) (i : Nat) : digAt l i < BB := by
 unfold digAt List.getD
 cases hq : l[i]? with
 | none => exact BB_pos
 | some d => exact h d (List.mem_of_getElem? hq)
def PlusI (a b out : List Nat) (i over : Nat) : Prop := val out + BB ^ i * (over + val (a.drop i) + val (b.drop i)) = val a + val b ∧ out.length = i ∧ Good out ∧ over ≤ 1
theorem plus_start (a b : List Nat) : PlusI a b [] 0 0 := ⟨by simp [val], rfl, good_nil, by omega⟩
theorem plus_step {a b out : List Nat} {i over : Nat} (ha : Good a) (hb : Good b) (h : PlusI a b out i over) :
 PlusI a b (out ++ [(digAt a i + digAt b i + over) % BB]) (i + 1) ((digAt a i + digAt b i + over) / BB) := by
 obtain ⟨h1, h2, h3, h4⟩ := h
 have e := Nat.mod_add_div (digAt a i + digAt b i + over) BB
 have la := digAt_lt ha i
 have lb := digAt_lt hb i
 refine ⟨?_, by simp [h2], good_snoc h3 (Nat.mod_lt _ BB_pos), ?_⟩
 · rw [val_append, h2]
   rw [val_drop a i, val_drop b i] at h1; simp only [val, Nat.mul_zero, Nat.add_zero, Nat.pow_succ]; generalize (digAt a i + digAt b i + over) % BB = m at *; generalize (digAt a i + digAt b i + over) / BB = q at *; generalize val (a.drop (i + 1)) = x at *; generalize val (b.drop (i + 1)) = y at *; generalize BB ^ i = p at *
   have e1 : over + (digAt a i + BB * x) + (digAt b i + BB * y) = m + BB * (q + x + y) := by rw [Nat.mul_add, Nat.mul_add]; omega
   rw [e1, Nat.mul_add, ← Nat.mul_assoc] at h1; omega
 · refine Nat.lt_succ_iff.1 ((Nat.div_lt_iff_lt_mul BB_pos).2 ?_)
   omega
theorem plus_end {a b out : List Nat} {i : Nat} (h : PlusI a b out i 0) (ha : a.length ≤ i) (hb : b.length ≤ i) : val out = val a + val b ∧ Good out := by
 obtain ⟨h1, -, h3, -⟩ := h
 rw [List.drop_of_length_le ha, List.drop_of_length_le hb] at h1
 simp only [val, Nat.add_zero, Nat.mul_zero] at h1
 exact ⟨h1, h3⟩
def LessI (a b out : List Nat) (i : Nat) (owed : Int) : Prop := (val out : Int) + ((BB ^ i : Nat) : Int) * ((val (a.drop i) : Int) - (val (b.drop i) : Int) - owed) = (val a : Int) - (val b : Int) ∧ out.length = i ∧ Good out ∧ 0 ≤ owed ∧ owed ≤ 1
theorem less_start (a b : List Nat) : LessI a b [] 0 0 := ⟨by simp [val], rfl, good_nil, by omega, by omega⟩
theorem less_step {a b out : List Nat} {i : Nat} {owed n : Int} {k : Nat} (ha : Good a) (hb : Good b) (h : LessI a b out i owed) (hn : n = (digAt a i : Int) - (digAt b i : Int) - owed) (hk : (k : Int) = if n < 0 then n + (BB : Int) else n) :
 LessI a b (out ++ [k]) (i + 1) (if n < 0 then 1 else 0) := by
 obtain ⟨h1, h2, h3, h4, h5⟩ := h
 have la := digAt_lt ha i
 have lb := digAt_lt hb i
 have hkB : k < BB := by split at hk <;> omega
 refine ⟨?_, by simp [h2], good_snoc h3 hkB, by split <;> omega, by split <;> omega⟩
 rw [val_append, h2, Nat.pow_succ]
 rw [val_drop a i, val_drop b i] at h1
 simp only [val, Nat.mul_zero, Nat.add_zero]
 rw [Int.natCast_add, Int.natCast_mul, Int.natCast_mul]
 rw [Int.natCast_add, Int.natCast_add, Int.natCast_mul, Int.natCast_mul] at h1
 generalize ((BB ^ i : Nat) : Int) = p at *
 generalize (val (a.drop (i + 1)) : Int) = x at *
 generalize (val (b.drop (i + 1)) : Int) = y at *
 have e1 : (digAt a i : Int) + (BB : Int) * x - ((digAt b i : Int) + (BB : Int) * y) - owed = (k : Int) + (BB : Int) * (x - y - (if n < 0 then 1 else 0)) := by
  rw [Int.mul_sub, Int.mul_sub, hk]
  split <;> omega
 rw [e1, Int.mul_add, ← Int.mul_assoc] at h1
 omega
theorem less_end {a b out : List Nat} {owed : Int} (h : LessI a b out a.length owed) (hb : b.length ≤ a.length) (hle : val b ≤ val a) : val out = val a - val b ∧ Good out := by
 obtain ⟨h1, h2, h3, h4, h5⟩ := h
 rw [List.drop_of_length_le (Nat.le_refl _), List.drop_of_length_le hb] at h1
 have hv := val_lt _ h3
 rw [h2] at hv
 simp only [val] at h1
 generalize BB ^ a.length = p at *
 have ho : owed = 0 := by
  by_cases c : owed = 0
  · exact c
  · have : owed = 1 := by omega
    subst this; rw [show ((0 : Nat) : Int) - ((0 : Nat) : Int) - 1 = -1 from rfl] at h1; omega
 subst ho
 refine ⟨?_, h3⟩
 rw [show ((0 : Nat) : Int) - ((0 : Nat) : Int) - 0 = 0 from rfl] at h1
 omega
theorem drop_set {l : List Nat} {i : Nat} (h : i < l.length) (z : Nat) : (l.set i z).drop i = z :: l.drop (i + 1) := by
 rw [List.drop_eq_getElem_cons (by simpa using h), List.drop_set_of_lt (by omega)]
 simp
def DivI (a q : List Nat) (V i r : Nat) : Prop := val (a.drop i) = val (q.drop i) * V + r ∧ r < V ∧ q.length = a.length ∧ Good q
theorem div_step {a q : List Nat} {V i r : Nat} (ha : Good a) (h : DivI a q V (i + 1) r) (hi : i < a.length) :
 DivI a (q.set i ((r * BB + digAt a i) / V)) V i ((r * BB + digAt a i) % V) ∧ (r * BB + digAt a i) / V < BB := by
 obtain ⟨h1, h2, h3, h4⟩ := h
 obtain ⟨g1, g2, g3⟩ := short_step (x := digAt a i) (show 0 < V by omega) h1 h2
 have g4 := g3 (digAt_lt ha i)
 refine ⟨⟨?_, g2, by simpa using h3, ?_⟩, g4⟩
 · rw [val_drop, g1, drop_set (by omega), val]
 · intro d hd
   rcases List.mem_or_eq_of_mem_set hd with hd | rfl
   · exact h4 d hd
   · exact g4
theorem div_end {a q : List Nat} {V r : Nat} (h : DivI a q V 0 r) : val q = val a / V ∧ r = val a % V := by
 obtain ⟨h1, h2, -, -⟩ := h
 rw [List.drop_zero, List.drop_zero] at h1
 exact quo_of h1 h2
theorem search_step {lo hi V r mid : Nat} (h1 : lo * V ≤ r) (h2 : r < (hi + 1) * V) (hm : mid = (lo + hi + 1) / 2) (hl : lo < hi) :
 (mid * V ≤ r → mid * V ≤ r ∧ r < (hi + 1) * V ∧ hi - mid < hi - lo ∧ mid ≤ hi) ∧ (¬ mid * V ≤ r → lo * V ≤ r ∧ r < (mid - 1 + 1) * V ∧ mid - 1 - lo < hi - lo ∧ lo ≤ mid - 1) := by
 refine ⟨fun h => ⟨h, h2, by omega, by omega⟩, fun h => ⟨h1, ?_, by omega, by omega⟩⟩
 rw [show mid - 1 + 1 = mid by omega]
 omega
theorem search_end {lo V r : Nat} (h1 : lo * V ≤ r) (h2 : r < (lo + 1) * V) : lo = r / V ∧ r - lo * V = r % V := by
 rw [Nat.add_mul, Nat.one_mul] at h2
 exact quo_of (q := lo) (r := r - lo * V) (by omega) (by omega)
theorem gcd_step (m n : Nat) : Nat.gcd n (m % n) = Nat.gcd m n := by
 rw [Nat.gcd_comm n, ← Nat.gcd_rec, Nat.gcd_comm]
end
section
open Go.RowKit
theorem ints_len (l : List Nat) : (ints l).length = l.length := by simp [ints]
theorem ints_at {l : List Nat} {k : Nat} {x : Int} (h : (ints l)[k]? = some x) : ∃ d : Nat, l[k]? = some d ∧ x = (d : Int) := by
 unfold ints at h
 rw [List.getElem?_map] at h
 obtain ⟨d, h1, h2⟩ := Option.map_eq_some_iff.1 h
 exact ⟨d, h1, h2.symm⟩
theorem ints_take (l : List Nat) (k : Nat) : (ints l).take k = ints (l.take k) := by simp [ints, List.map_take]
theorem ints_drop (l : List Nat) (k : Nat) : (ints l).drop k = ints (l.drop k) := by simp [ints, List.map_drop]
theorem ints_set (l : List Nat) (k d : Nat) : (ints l).set k (d : Int) = ints (l.set k d) := by simp [ints, List.map_set]
theorem ints_zeros (n : Nat) : List.replicate n (0 : Int) = ints (List.replicate n 0) := by simp [ints]
theorem BB_i64 {d : Nat} (h : d < BB) : i64 (d : Int) := by
 have : BB ≤ 1073741824 := Nat.le_refl _
 unfold i64; omega
theorem ints_i64 {l : List Nat} (h : Good l) : ∀ x, x ∈ ints l → i64 x := by
 intro x hx
 obtain ⟨d, hd, rfl⟩ := List.mem_map.1 hx
 exact BB_i64 (h d hd)
theorem BB_le {d : Nat} (h : d < BB) : d ≤ 1073741823 := Nat.le_of_lt_succ h
theorem lt_BB {d : Nat} (h : d ≤ 1073741823) : d < BB := Nat.lt_succ_of_le h
theorem Sl.digd {M : List Nat} {w : World} {A : Option Addr} {n c : Nat} {l : List Nat} (h : Sl Int w M A n c (ints l)) (hg : Good l) {k : Nat} (hk : k < n) :
 ∃ (b o d : Nat), A = some ⟨b, o, none⟩ ∧ w.cell? ⟨b, o + k, none⟩ = some (.int .i64 (d : Int)) ∧ d ≤ 1073741823 ∧ l[k]? = some d ∧ digAt l k = d := by
 obtain ⟨b, o, x, rfl, hc, -, -, hx⟩ := h.intd hk
 obtain ⟨d, hd, rfl⟩ := ints_at hx
 exact ⟨b, o, d, rfl, hc, BB_le (hg d (List.mem_of_getElem? hd)), hd, by simp [digAt, List.getD, hd]⟩
theorem Sl.dlen {M : List Nat} {w : World} {A : Option Addr} {n c : Nat} {l : List Nat} (h : Sl Int w M A n c (ints l)) : l.length = n := by rw [← ints_len]; exact h.len
theorem trim_down {l : List Nat} {k : Nat} (h : l[k]? = some 0) : trimM (l.take (k + 1)) = trimM (l.take k) := by
 rw [List.take_add_one, h, Option.toList_some, trim_zero]
theorem trim_stop {l : List Nat} (hg : Good l) {k d : Nat} (h : l[k]? = some d) (hd : d ≠ 0) : trimM (l.take (k + 1)) = l.take (k + 1) := by
 have e : l.take (k + 1) = l.take k ++ [d] := by rw [List.take_add_one, h, Option.toList_some]
 rw [e]
 exact trim_snoc (by rw [← e]; exact good_take hg _) hd
theorem trim_nil : trimM [] = [] := by unfold trimM; simp [val, dig_zero]
def DV (w : World) (M : List Nat) (v : Value) (x : Nat) : Prop := ∃ A n c, v = .slice A n c ∧ Sl Int w M A n c (ints (dig x))
def DR (w : World) (M : List Nat) (x : Nat) (e : Ending) (w' : World) : Prop := ∃ A n c, e = .returned (.slice A n c) ∧ Sl Int w' M A n c (ints (dig x)) ∧ Below w.heap.size w w'
def ZV (w : World) (M : List Nat) (v : Value) (z : Int) : Prop := ∃ A n c, v = .agg #[.bool (zneg z), .slice A n c] ∧ Sl Int w M A n c (ints (zmag z))
theorem ZV.go {w w' : World} {M : List Nat} {v : Value} {z : Int} (h : ZV w M v z) (hb : Below w.heap.size w w') : ZV w' M v z := by
 obtain ⟨A, n, c, rfl, h⟩ := h
 exact ⟨A, n, c, rfl, h.go hb⟩
theorem ZV.zero (w : World) (M : List Nat) : ZV w M (.agg #[.bool false, .slice none 0 0]) 0 := ⟨none, 0, 0, rfl, by rw [show zmag 0 = [] from dig_zero]; exact Sl.nil0⟩
theorem DV.go {w w' : World} {M : List Nat} {v : Value} {x : Nat} (h : DV w M v x) (hb : Below w.heap.size w w') : DV w' M v x := by
 obtain ⟨A, n, c, rfl, h⟩ := h
 exact ⟨A, n, c, rfl, h.go hb⟩
def QV (w : World) (M : List Nat) (v : Value) (r : Rt) : Prop := ∃ u1 u2, v = .agg #[u1, u2] ∧ ZV w M u1 r.num ∧ ZV w M u2 r.den
theorem QV.go {w w' : World} {M : List Nat} {v : Value} {r : Rt} (h : QV w M v r) (hb : Below w.heap.size w w') : QV w' M v r := by
 obtain ⟨u1, u2, rfl, h1, h2⟩ := h
 exact ⟨u1, u2, rfl, h1.go hb, h2.go hb⟩
end
end Go.Proofs.YtboapndkopabiaaGreat
