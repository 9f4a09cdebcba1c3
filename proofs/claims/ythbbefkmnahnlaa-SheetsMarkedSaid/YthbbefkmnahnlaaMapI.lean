/- Maps from int to int that the program makes itself, as functions; sheets.class. No statement is proved here. -/
import Derived.Test.YthbbefkmnahnlaaBase
import Derived.Maps.OwnIn
import Derived.Maps.OwnOps
import Derived.Maps.Views
namespace Go.Proofs.Ythbbefkmnahnlaa
open Go.RowKit

/-- Block r is a map of at most n entries; at each key it holds f (0 where there is no entry). -/
def MapI (w : World) (r n : Nat) (f : Int → Int) : Prop :=
  ∃ D : DataW Unit, w.ownsMap Try.prog 3 (plainElem Try.prog 3) r n D ∧ Maps.IsMap D ∧ ∀ x : Int, D.atKey (.int .i64 x) (.lit (.int .i64 0)) = .lit (.int .i64 (f x))

theorem MapI.new (w : World) : MapI (w.alloc (.map #[] 0)) w.heap.size 0 (fun _ => 0) :=
  ⟨.map [], World.ownsMap_made w _ _ _, ⟨_, rfl⟩, fun _ => rfl⟩
theorem MapI.kept {w w' : World} {r n : Nat} {f : Int → Int} {row : Option Nat} (h : MapI w r n f) (hg : w.grownBy w' row) (hr : some r ≠ row) : MapI w' r n f := by
  obtain ⟨D, h1, h2, h3⟩ := h
  exact ⟨D, h1.kept hg hr, h2, h3⟩
theorem MapI.lookup {w : World} {r n : Nat} {f : Int → Int} (h : MapI w r n f) (x : Int) (hx : (Lit.int .i64 x).wf = true) :
    (Instr.lookup 52 (.map (some r)) (.int .i64 x) false).run Try.prog w = .ok (.int .i64 (f x)) w := by
  obtain ⟨D, h1, h2, h3⟩ := h
  obtain ⟨c, hrun, hat, _⟩ := h1.lookup_int (t := 52) (Maps.int_keyed Try.underlying3) Try.underlying52 Try.underlying3 (Try.zeroValue3 w) (Maps.keyOf_int_mk Try.underlying3 hx)
  rw [h3 x] at hat
  injection hat with hat
  injection hat with _ hat
  rw [hrun, hat]
theorem MapI.update {w : World} {r n : Nat} {f : Int → Int} (h : MapI w r n f) (x v : Int) (hx : (Lit.int .i64 x).wf = true) (hv : (Lit.int .i64 v).wf = true) (hn : n < maxLen) :
    ∃ w', (Instr.mapUpdate 52 (.map (some r)) (.int .i64 x) (.int .i64 v)).run Try.prog w = .ok () w' ∧ MapI w' r (n + 1) (fun y => if y = x then v else f y) ∧ w.grownBy w' (some r) := by
  obtain ⟨D, h1, h2, h3⟩ := h
  obtain ⟨w', hrun, hown, hg⟩ := h1.update (t := 52) (Maps.int_keyed Try.underlying3) Try.underlying52 hn (Maps.keyOf_int_mk Try.underlying3 hx) (plainElem_int Try.underlying3 hv)
  refine ⟨w', hrun, ⟨_, hown, ?_, fun y => ?_⟩, hg⟩
  · exact h2.put _ _
  · by_cases e : y = x
    · subst e; simp only [if_true]; exact Maps.atKey_put_same h2 (by simp [WideAt.IsKeyLit]) _ _
    · simp only [if_neg e]; rw [Maps.atKey_put_other (by intro g; injection g with _ g; exact e g)]; exact h3 y

def classM (sm tk : Int) : Int := if 0 < sm then 3 else if tk = 0 then 1 else if tk = 1 then 0 else 2

set_option maxHeartbeats 400000 in
theorem class_any (w : World) (r n : Nat) (f : Int → Int) (h : MapI w r n f) (h1 : 0 ≤ f 1) (h1' : f 1 ≤ 1000000000000000) (_ : f 2 ≤ 1000000000000000) :
    Calls Try.prog 22 #[.map (some r)] w fun e w' => e = .returned (.int .i64 (classM (f 2) (f 1))) ∧ w = w' := by
  have l1 := h.lookup 1 (by decide)
  have l2 := h.lookup 2 (by decide)
  generalize f 1 = t at *
  generalize f 2 = s at *
  generalize hc : classM s t = c
  have HC := Lib.hid hc
  clear h hc
  rcases Int.lt_or_le 0 s with hs | hs
  · go_enter Try.func22, Try.ntmps22
    go_wp2
    go_ret
    exact ⟨ret_int (by rw [← HC.out]; simp [classM, hs]), rfl⟩
  · have hmin : (if t < 2 then t else (2 : Int)) = if t < 2 then t else 2 := rfl
    have i0 : ∀ w, (Instr.index 63 (.agg #[.int .i64 1, .int .i64 0, .int .i64 2]) (.int .i64 0)).run Try.prog w = .ok (.int .i64 1) w := fun _ => by kernel_rfl
    have i1 : ∀ w, (Instr.index 63 (.agg #[.int .i64 1, .int .i64 0, .int .i64 2]) (.int .i64 1)).run Try.prog w = .ok (.int .i64 0) w := fun _ => by kernel_rfl
    have i2 : ∀ w, (Instr.index 63 (.agg #[.int .i64 1, .int .i64 0, .int .i64 2]) (.int .i64 2)).run Try.prog w = .ok (.int .i64 2) w := fun _ => by kernel_rfl
    clear hmin
    rcases Int.lt_or_le t 2 with ht | ht
    · rcases Int.lt_or_le 0 t with h0 | h0
      · obtain rfl : t = 1 := by omega
        go_enter Try.func22, Try.ntmps22
        go_wp2
        go_ret
        exact ⟨ret_int (by rw [← HC.out]; simp [classM, Int.not_lt.2 hs]), rfl⟩
      · obtain rfl : t = 0 := by omega
        go_enter Try.func22, Try.ntmps22
        go_wp2
        go_ret
        exact ⟨ret_int (by rw [← HC.out]; simp [classM, Int.not_lt.2 hs]), rfl⟩
    · go_enter Try.func22, Try.ntmps22
      go_wp2
      go_ret
      exact ⟨ret_int (by rw [← HC.out]; simp [classM, Int.not_lt.2 hs, show t ≠ 0 by omega, show t ≠ 1 by omega]), rfl⟩
end Go.Proofs.Ythbbefkmnahnlaa
