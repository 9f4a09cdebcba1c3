/- podiumref54.Few and .Check: what they compute. No statement is proved here. -/
import Derived.Test.YthbbefkmnahnlaaAgr
namespace Go.Proofs.Ythbbefkmnahnlaa
open Go.RowKit Go.Shelf
attribute [local go_sem] Oper.semAt_some

theorem Sl.listd {M : List Nat} {w : World} {B : Option Addr} {m d : Nat} {bs : List (List Int)} (h : Sl (List Int) w M B m d bs) {k : Nat} (hk : k < m) :
    ∃ b o A n c x, B = some ⟨b, o, none⟩ ∧ w.cell? ⟨b, o + k, none⟩ = some (.slice A n c) ∧ bs[k]? = some x ∧ bs.drop k = x :: bs.drop (k + 1) ∧ Sl Int w M A n c x := by
  have hk' : k < bs.length := by rw [h.len]; exact hk
  obtain ⟨b, o, es, rfl, ⟨A, n, c, rfl, h1⟩, h2⟩ := h.get (List.getElem?_eq_getElem hk')
  exact ⟨b, o, A, n, c, _, rfl, by have := h2.c0 rfl; rwa [show Rep.sz (List Int) = 1 from rfl, Nat.mul_one] at this, List.getElem?_eq_getElem hk', List.drop_eq_getElem_cons hk', h1⟩

def fewM (c : List Crit) (s : Sheet) : Bool :=
  !((decide (8 < c.length) && decide (c.length ≤ 64)) || decide (80 < c.length) || decide (80 < s.boxes.length)) && s.boxes.all fun b => decide (b.length ≤ 1100)

set_option maxHeartbeats 1000000 in
theorem few_any {M M2 : List Nat} (A : Option Addr) (n cp : Nat) (c : List Crit) (no rd en ju : Int) (B : Option Addr) (m d : Nat) (bs : List (List Int)) (w : World) (hx : Sl Crit w M A n cp c) (hy : Sl (List Int) w M2 B m d bs) :
    Calls Try.prog 14 #[.slice A n cp, .agg #[.int .i64 no, .int .i64 rd, .int .i64 en, .int .i64 ju, .slice B m d]] w fun e w' => e = .returned (.bool (fewM c ⟨no, rd, en, ju, bs⟩)) ∧ Below w.heap.size w w' := by
  refine (callsIn_wide (n := 10)).1 ?_
  have H := Lib.hid hx
  have G := Lib.hid hy
  have hn := hx.small
  have hm := hy.small
  have h1 := hx.len
  have h2 := hy.len
  clear hx hy
  by_cases hq : ((decide (8 < n) && decide (n ≤ 64)) || decide (80 < n) || decide (80 < m)) = true
  · have hr : fewM c ⟨no, rd, en, ju, bs⟩ = false := by simp only [fewM, h1, h2, hq]; rfl
    rw [hr]
    clear hr h1 h2
    simp only [Bool.or_eq_true, Bool.and_eq_true, decide_eq_true_eq] at hq
    refine callsIn_of_wp Try.func14 rfl trivial ?_ rfl; simp only [Try.ntmps14, List.size_toArray, List.length_cons, List.length_nil, Nat.reduceAdd, Nat.reduceSub, Array.replicate_succ, Array.replicate_zero, List.push_toArray, List.append_toArray, List.nil_append, List.cons_append]
    gi_wp2
    all_goals first
      | (go_ret; exact ⟨rfl, (Below.refl _ _).alloc (Nat.le_refl _) _⟩)
      | (exfalso; simp only [decide_eq_true_eq, decide_eq_false_iff_not] at *; omega)
  · have hr : fewM c ⟨no, rd, en, ju, bs⟩ = bs.all fun b => decide (b.length ≤ 1100) := by simp only [fewM, h1, h2, Bool.not_eq_true] at hq ⊢; rw [hq]; rfl
    rw [hr]
    clear hr h1 h2
    generalize hr : (bs.all fun b => decide (b.length ≤ 1100)) = r
    have HR := Lib.hid hr
    clear hr
    simp only [Bool.or_eq_true, Bool.and_eq_true, decide_eq_true_eq, not_or, not_and, Nat.not_lt, Nat.not_le] at hq
    refine callsIn_of_wp Try.func14 rfl trivial ?_ rfl; simp only [Try.ntmps14, List.size_toArray, List.length_cons, List.length_nil, Nat.reduceAdd, Nat.reduceSub, Array.replicate_succ, Array.replicate_zero, List.push_toArray, List.append_toArray, List.nil_append, List.cons_append]
    obtain ⟨W1, hW1⟩ : ∃ W1 : World, w.alloc (.cells #[.int .i64 no, .int .i64 rd, .int .i64 en, .int .i64 ju, .slice B m d] 29) = W1 := ⟨_, rfl⟩
    have b1 : Below w.heap.size w W1 := by rw [← hW1]; exact (Below.refl _ _).alloc (Nat.le_refl _) _
    have z1 : W1.cell? ⟨w.heap.size, 4, none⟩ = some (.slice B m d) := by rw [← hW1]; simp [go_sem]
    have HB1 := Lib.hid b1
    clear b1
    gi_wp2
    all_goals first
      | (exfalso; simp only [decide_eq_true_eq, decide_eq_false_iff_not] at *; omega)
      | skip
    all_goals (
      gi_loop [5] (fun i => ∃ k : Nat, k ≤ m ∧ i = .int .i64 k ∧ Hid (((bs.drop k).all fun b => decide (b.length ≤ 1100)) = r)) (fun i => m - (intOf i).toNat)
      case atStart => exact ⟨0, by omega, rfl, HR⟩
      case round =>
        obtain ⟨k, hk, rfl, hr⟩ := hrel
        by_cases hlt : k < m
        · obtain ⟨b, o, A', n', c', x, rfl, hd, -, he, hs⟩ := ((G.out.less (M' := []) (by simp)).keep (Keeps.of_below HB1.out [])).listd hlt
          have hr2 := hr.out
          rw [he, List.all_cons, hs.len] at hr2
          have hn' := hs.small
          clear he hs
          by_cases hl : n' ≤ 1100
          · rw [decide_eq_true hl, Bool.true_and] at hr2
            have HR2 := Lib.hid hr2
            clear hr2
            gi_wp2
            go_round
            case rel => exact ⟨k + 1, by omega, by go_num, HR2⟩
            case measure => simp [intOf]; omega
          · rw [decide_eq_false hl, Bool.false_and] at hr2
            cases hr2
            gi_wp2
            go_ret
            exact ⟨rfl, HB1.out⟩
        · have hr2 := hr.out
          rw [List.drop_of_length_le (by rw [G.out.len]; omega), List.all_nil] at hr2
          cases hr2
          gi_wp2
          go_ret
          exact ⟨rfl, HB1.out⟩)
end Go.Proofs.Ythbbefkmnahnlaa
