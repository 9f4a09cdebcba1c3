/- Criteria: how they lie in memory, and the functions that look at one criterion (combine.right, combine.Better, the reference's Right and On, slices.Contains over ints). No statement is proved here. -/
import Derived.Test.YthbbefkmnahnlaaBase
namespace Go.Proofs.Ythbbefkmnahnlaa
open Go.RowKit

structure Crit where
  name : ByteArray
  lo : Int
  hi : Int
  st : Int
  how : Int
  tr : Int
  rev : Bool

abbrev Crit.cells (c : Crit) : List Value := [.string c.name, .int .i64 c.lo, .int .i64 c.hi, .int .i64 c.st, .int .i64 c.how, .int .i64 c.tr, .bool c.rev]
structure Crit.ok (c : Crit) : Prop where
  lo : i64 c.lo
  hi : i64 c.hi
  st : i64 c.st
  how : i64 c.how
  tr : i64 c.tr

instance : Rep Crit where
  sz := 7
  rd _ _ c cs := cs = c.cells ∧ c.ok
  len h := by rw [h.1]; rfl
  keep h _ := h
  less h _ := h
  more h _ := h
instance : Rep1 Crit := ⟨by decide⟩

def rightB (c : Crit) : Bool := decide (0 ≤ c.lo ∧ c.lo < c.hi ∧ c.hi ≤ 1000 ∧ 1 ≤ c.st ∧ 0 ≤ c.tr ∧ c.tr ≤ 127 ∧ 1 ≤ c.how ∧ c.how ≤ 3 ∧ (c.how ≠ 2 → c.tr = 0) ∧ (c.hi - c.lo) % c.st = 0)
def onB (c : Crit) (m : Int) : Bool := decide (c.lo ≤ m ∧ m ≤ c.hi ∧ (m - c.lo) % c.st = 0)

def idxM : List Int → Int → Int → Int
  | [], _, _ => -1
  | x :: r, v, k => if v = x then k else idxM r v (k+1)

set_option maxHeartbeats 400000 in
theorem index_any {M : List Nat} (A : Option Addr) (xs : List Int) (n c : Nat) (v : Int) (w : World) (hn : xs.length = n) (hm : n ≤ 1000000) (hx : Sl Int w M A n c xs) :
    Calls Try.prog 32 #[.slice A n c, .int .i64 v] w fun e w' => e = .returned (.int .i64 (idxM xs v 0)) ∧ w = w' := by
  have H := Lib.hid hx
  clear hx
  go_enter Try.func32, Try.ntmps32
  go_wp2
  go_loop [8] (fun i => ∃ k : Nat, k ≤ n ∧ i = .int .i64 k ∧ Hid (idxM (xs.drop k) v k = idxM xs v 0)) (fun i => n - (intOf i).toNat)
  case atStart => exact ⟨0, by omega, rfl, rfl⟩
  case round =>
    obtain ⟨k, hk, rfl, hr⟩ := hrel
    by_cases hlt : k < n
    · obtain ⟨b, o, x, rfl, hc, _, hd, _⟩ := H.out.intd hlt
      have hr2 := hr.out
      rw [hd, idxM] at hr2
      by_cases he : v = x
      · rw [if_pos he] at hr2
        have hr3 := Lib.hid hr2
        clear hr2 hd
        subst he
        go_wp2
        go_ret
        exact ⟨ret_int hr3.out, rfl⟩
      · rw [if_neg he] at hr2
        have hr3 := Lib.hid hr2
        clear hr2 hd
        go_wp2
        go_round
        case rel => exact ⟨k + 1, by omega, by go_num, hr3.out⟩
        case measure => simp [intOf]; omega
    · have hr2 := hr.out
      rw [List.drop_of_length_le (by omega), idxM] at hr2
      have hr3 := Lib.hid hr2
      clear hr2
      go_wp2
      go_ret
      exact ⟨ret_int hr3.out, rfl⟩

theorem idx_ge (v : Int) : ∀ (xs : List Int) (k : Int), 0 ≤ k → (v ∈ xs → k ≤ idxM xs v k) ∧ (v ∉ xs → idxM xs v k = -1)
  | [], k, hk => ⟨fun h => by simp at h, fun _ => rfl⟩
  | x :: r, k, hk => by
    have ih := idx_ge v r (k + 1) (by omega)
    by_cases h : v = x
    · subst h; simp [idxM]
    · simp only [idxM, if_neg h, List.mem_cons]
      exact ⟨fun g => by have := ih.1 (g.resolve_left h); omega, fun g => ih.2 (fun e => g (.inr e))⟩

theorem contains_eq (xs : List Int) (v : Int) : decide (0 ≤ idxM xs v 0) = decide (v ∈ xs) := by
  have h := idx_ge v xs 0 (by omega)
  by_cases g : v ∈ xs
  · simp [g, h.1 g]
  · simp [g, h.2 g]

set_option maxHeartbeats 400000 in
theorem contains_any {M : List Nat} (A : Option Addr) (xs : List Int) (n c : Nat) (v : Int) (w : World) (hn : xs.length = n) (hm : n ≤ 1000000) (hx : Sl Int w M A n c xs) :
    Calls Try.prog 31 #[.slice A n c, .int .i64 v] w fun e w' => e = .returned (.bool (decide (v ∈ xs))) ∧ w = w' := by
  have H := Lib.hid hx
  have E := Lib.hid (contains_eq xs v)
  clear hx
  go_enter Try.func31, Try.ntmps31
  go_wp2_with (go_at_call 32; refine (index_any A xs n c v _ hn hm H.out).mono ?_; rintro e w' ⟨rfl, rfl⟩)
  go_ret
  exact ⟨ret_bool E.out, rfl⟩

theorem sl3 {w : World} {b : Nat} {x y z : Int} (h0 : w.cell? ⟨b, 0, none⟩ = some (.int .i64 x)) (h1 : w.cell? ⟨b, 1, none⟩ = some (.int .i64 y)) (h2 : w.cell? ⟨b, 2, none⟩ = some (.int .i64 z))
    (hx : i64 x) (hy : i64 y) (hz : i64 z) : Sl Int w [] (some ⟨b, 0, none⟩) 3 3 [x, y, z] := by
  refine ⟨rfl, Nat.le_refl _, by unfold capOk; omega, by omega, .inr ⟨b, 0, rfl, ?_⟩⟩
  intro k u hu
  match k, hu with
  | 0, hu => cases hu; exact ⟨_, ⟨rfl, hx⟩, by simp, by intro j u hu; match j, hu with | 0, hu => cases hu; exact h0⟩
  | 1, hu => cases hu; exact ⟨_, ⟨rfl, hy⟩, by simp, by intro j u hu; match j, hu with | 0, hu => cases hu; exact h1⟩
  | 2, hu => cases hu; exact ⟨_, ⟨rfl, hz⟩, by simp, by intro j u hu; match j, hu with | 0, hu => cases hu; exact h2⟩

theorem contains3_any (b : Nat) (x y z v : Int) (w : World) (h0 : w.cell? ⟨b, 0, none⟩ = some (.int .i64 x)) (h1 : w.cell? ⟨b, 1, none⟩ = some (.int .i64 y)) (h2 : w.cell? ⟨b, 2, none⟩ = some (.int .i64 z))
    (hx : i64 x) (hy : i64 y) (hz : i64 z) :
    Calls Try.prog 31 #[.slice (some ⟨b, 0, none⟩) 3 3, .int .i64 v] w fun e w' => e = .returned (.bool (decide (v = x ∨ v = y ∨ v = z))) ∧ w = w' :=
  (contains_any _ [x, y, z] 3 3 v w rfl (by omega) (sl3 h0 h1 h2 hx hy hz)).mono fun e w' ⟨he, hw⟩ => ⟨by rw [he]; exact ret_bool (by simp), hw⟩

set_option maxHeartbeats 400000 in
theorem cright_any (s : ByteArray) (lo hi st how tr : Int) (rv : Bool) (w : World) :
    Calls Try.prog 30 #[.agg #[.string s, .int .i64 lo, .int .i64 hi, .int .i64 st, .int .i64 how, .int .i64 tr, .bool rv]] w fun e w' => e = .returned (.bool (rightB ⟨s, lo, hi, st, how, tr, rv⟩)) ∧ Below w.heap.size w w' := by
  go_enter Try.func30, Try.ntmps30
  go_wp2_with (go_at_call 31; refine (contains3_any _ 1 2 3 _ _ (by go_simp) (by go_simp) (by go_simp) (by simp [i64]) (by simp [i64]) (by simp [i64])).mono ?_; rintro e w' ⟨rfl, rfl⟩)
  all_goals go_ret
  all_goals refine ⟨ret_bool ?_, by first | exact ((Below.refl _ _).alloc (Nat.le_refl _) _) | exact (((Below.refl _ _).alloc (Nat.le_refl _) _).alloc (by simp) _)⟩
  all_goals grind [rightB]

theorem rightB_facts {c : Crit} (h : rightB c = true) : (0 ≤ c.lo ∧ c.lo < c.hi ∧ c.hi ≤ 1000) ∧ 1 ≤ c.st ∧ (0 ≤ c.tr ∧ c.tr ≤ 127) ∧ (1 ≤ c.how ∧ c.how ≤ 3) ∧ (c.how ≠ 2 → c.tr = 0) ∧ (c.hi - c.lo) % c.st = 0 := by
  unfold rightB at h
  have := of_decide_eq_true h
  grind

/-- combine.Better -/
def betterM (c : Crit) (m : Int) : Int × Int :=
  if rightB c then (if onB c m then ((if c.rev then c.lo + c.hi - m else m), 0) else (0, 160)) else (0, 150)

abbrev critV (s : ByteArray) (lo hi st how tr : Int) (rv : Bool) : Value := .agg #[.string s, .int .i64 lo, .int .i64 hi, .int .i64 st, .int .i64 how, .int .i64 tr, .bool rv]

theorem ret_pair {k k' : IntKind} {a b : Int × Int} (h : a = b) : Ending.returned (.tuple #[.int k a.1, .int k' a.2]) = Ending.returned (.tuple #[.int k b.1, .int k' b.2]) := by rw [h]

set_option maxHeartbeats 400000 in
theorem better_any (s : ByteArray) (lo hi st how tr : Int) (rv : Bool) (m : Int) (w : World) :
    Calls Try.prog 24 #[.agg #[.string s, .int .i64 lo, .int .i64 hi, .int .i64 st, .int .i64 how, .int .i64 tr, .bool rv], .int .i64 m] w fun e w' =>
      e = .returned (.tuple #[.int .i64 (betterM ⟨s, lo, hi, st, how, tr, rv⟩ m).1, .int .i64 (betterM ⟨s, lo, hi, st, how, tr, rv⟩ m).2]) ∧ Below w.heap.size w w' := by
  cases hr : rightB ⟨s, lo, hi, st, how, tr, rv⟩ with
  | false =>
    go_enter Try.func24, Try.ntmps24
    go_wp2_with (go_at_call 30; refine (cright_any s lo hi st how tr rv _).mono ?_; rintro e w1 ⟨rfl, hb⟩)
    go_ret2
    exact ⟨by simp [betterM, hr], ((Below.refl _ _).alloc (Nat.le_refl _) _).trans (hb.mono (by simp))⟩
  | true =>
    obtain ⟨⟨h1, h2, h3⟩, h4, -, -, -, -⟩ := rightB_facts hr
    simp only at h1 h2 h3 h4
    go_enter Try.func24, Try.ntmps24
    go_wp2_with (go_at_call 30; refine (cright_any s lo hi st how tr rv _).mono ?_; rintro e w1 ⟨rfl, hb⟩; have hc := hb.cell (p := ⟨w.heap.size, 0, none⟩) (by simp); have hc1 := hb.cell (p := ⟨w.heap.size, 1, none⟩) (by simp); have hc2 := hb.cell (p := ⟨w.heap.size, 2, none⟩) (by simp); have hc3 := hb.cell (p := ⟨w.heap.size, 3, none⟩) (by simp); have hc6 := hb.cell (p := ⟨w.heap.size, 6, none⟩) (by simp))
    all_goals (try go_ret2)
    all_goals refine ⟨ret2i ?_, ((Below.refl _ _).alloc (Nat.le_refl _) _).trans (hb.mono (by simp))⟩
    all_goals grind [betterM, onB]

set_option maxHeartbeats 400000 in
theorem on_any (s : ByteArray) (lo hi st how tr : Int) (rv : Bool) (m : Int) (w : World) (hr : rightB ⟨s, lo, hi, st, how, tr, rv⟩ = true) :
    Calls Try.prog 26 #[.agg #[.string s, .int .i64 lo, .int .i64 hi, .int .i64 st, .int .i64 how, .int .i64 tr, .bool rv], .int .i64 m] w fun e w' =>
      e = .returned (.bool (onB ⟨s, lo, hi, st, how, tr, rv⟩ m)) ∧ Below w.heap.size w w' := by
  obtain ⟨⟨h1, h2, h3⟩, h4, -, -, -, -⟩ := rightB_facts hr
  simp only at h1 h2 h3 h4
  clear hr
  go_enter Try.func26, Try.ntmps26
  go_wp2
  all_goals go_ret
  all_goals refine ⟨ret_bool ?_, (Below.refl _ _).alloc (Nat.le_refl _) _⟩
  all_goals grind [onB]

set_option maxHeartbeats 1000000 in
theorem right16_any (s : ByteArray) (lo hi st how tr : Int) (rv : Bool) (w : World) :
    Calls Try.prog 27 #[.agg #[.string s, .int .i64 lo, .int .i64 hi, .int .i64 st, .int .i64 how, .int .i64 tr, .bool rv]] w fun e w' => e = .returned (.bool (rightB ⟨s, lo, hi, st, how, tr, rv⟩)) ∧ Below w.heap.size w w' := by
  go_enter Try.func27, Try.ntmps27
  go_wp2
  all_goals go_ret
  all_goals refine ⟨ret_bool ?_, (Below.refl _ _).alloc (Nat.le_refl _) _⟩
  all_goals grind [rightB]

set_option maxHeartbeats 1000000 in
theorem between_any (n a b : Int) (w : World) :
    Calls Try.prog 25 #[.int .i64 n, .int .i64 a, .int .i64 b] w fun e w' => e = .returned (.bool (decide (a ≤ n) && decide (n ≤ b))) ∧ w = w' := by
  go_enter Try.func25, Try.ntmps25
  go_wp2
  all_goals go_ret
  all_goals refine ⟨ret_bool ?_, rfl⟩
  all_goals grind

set_option maxHeartbeats 1000000 in
theorem marks54_any (s : ByteArray) (lo hi st how tr : Int) (rv : Bool) (w : World) (hr : rightB ⟨s, lo, hi, st, how, tr, rv⟩ = true) :
    Calls Try.prog 20 #[.agg #[.string s, .int .i64 lo, .int .i64 hi, .int .i64 st, .int .i64 how, .int .i64 tr, .bool rv]] w fun e w' =>
      e = .returned (.int .i64 ((hi - lo) / st + 1)) ∧ Below w.heap.size w w' := by
  obtain ⟨⟨h1, h2, h3⟩, h4, -, -, -, -⟩ := rightB_facts hr
  simp only at h1 h2 h3 h4
  clear hr
  have h5 : (hi - lo) / st ≤ hi - lo := Int.ediv_le_self _ (by omega)
  have h6 : 0 ≤ (hi - lo) / st := Int.ediv_nonneg (by omega) (by omega)
  go_enter Try.func20, Try.ntmps20
  go_wp2
  go_ret
  exact ⟨rfl, (Below.refl _ _).alloc (Nat.le_refl _) _⟩

/-- Element k of a slice of criteria, and what is left of the list. -/
theorem Sl.critd {M : List Nat} {w : World} {A : Option Addr} {n c : Nat} {xs : List Crit} (h : Sl Crit w M A n c xs) {k : Nat} (hk : k < n) :
    ∃ b o s lo hi st how tr rv, A = some ⟨b, o, none⟩ ∧ xs[k]? = some ⟨s, lo, hi, st, how, tr, rv⟩ ∧ xs.drop k = ⟨s, lo, hi, st, how, tr, rv⟩ :: xs.drop (k + 1) ∧ (⟨s, lo, hi, st, how, tr, rv⟩ : Crit).ok ∧
      w.cell? ⟨b, o + k * 7, none⟩ = some (.string s) ∧ w.cell? ⟨b, o + k * 7 + 1, none⟩ = some (.int .i64 lo) ∧ w.cell? ⟨b, o + k * 7 + 2, none⟩ = some (.int .i64 hi) ∧
      w.cell? ⟨b, o + k * 7 + 3, none⟩ = some (.int .i64 st) ∧ w.cell? ⟨b, o + k * 7 + 4, none⟩ = some (.int .i64 how) ∧ w.cell? ⟨b, o + k * 7 + 5, none⟩ = some (.int .i64 tr) ∧
      w.cell? ⟨b, o + k * 7 + 6, none⟩ = some (.bool rv) := by
  have hl : k < xs.length := by rw [h.len]; exact hk
  obtain ⟨b, o, es, rfl, ⟨rfl, h1⟩, h2⟩ := h.get (List.getElem?_eq_getElem hl)
  exact ⟨b, o, _, _, _, _, _, _, _, rfl, List.getElem?_eq_getElem hl, List.drop_eq_getElem_cons hl, h1, h2.c0 rfl, h2.2 1 _ rfl, h2.2 2 _ rfl, h2.2 3 _ rfl, h2.2 4 _ rfl, h2.2 5 _ rfl, h2.2 6 _ rfl⟩

end Go.Proofs.Ythbbefkmnahnlaa
