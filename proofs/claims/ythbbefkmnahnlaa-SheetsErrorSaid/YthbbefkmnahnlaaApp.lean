/- append of one element to a row of the call's own. No statement is proved here. -/
import Derived.Test.YthbbefkmnahnlaaBase
import Derived.Maps.AppendAt
import Derived.RangeFuncBox
namespace Go.Proofs.Ythbbefkmnahnlaa
open Go.RowKit

theorem int_info : (Try.prog.info? 3).map (fun i => (i.zero, i.size, i.bytes)) = some (some (.int .i64 0), 1, 8) := by kernel_rfl

theorem append_int {w : World} {base : Nat} {v : Value} {n : Nat} {xs : List Int} (h : w.ownsRow base 3 1 v n (xs.map (Value.int .i64))) (hb : base ≤ w.heap.size) (hn : n ≤ 1000000000) (g : Nat) (x : Int)
    (hc : w.cell? ⟨g, 0, none⟩ = some (.int .i64 x)) :
    ∃ v' w', (Builtin.append_ #[23, 23] 23 #[v, .slice (some ⟨g, 0, none⟩) 1 1]).run Try.prog w = .ok v' w' ∧ w'.ownsRow base 3 1 v' (n + 1) ((xs ++ [x]).map (Value.int .i64)) ∧ w.grownBy w' v.ownBlock ∧
      (v'.ownBlock = v.ownBlock ∨ v'.ownBlock = some w.heap.size) ∧ ∃ gg cc, v' = .slice (some ⟨gg, 0, none⟩) (n + 1) cc := by
  obtain ⟨i0, hi, hz0, hz1, hz2⟩ := info_parts int_info
  obtain ⟨v', w', h1, h2, h3, _, h5⟩ := run_append_own_at (P := Try.prog) w base 23 23 3 i0 (.int .i64 0) 1 8 Try.underlying23 hi hz0 hz1 hz2 rfl (by decide) v n _ h ⟨g, 0, none⟩ 1 1 [.int .i64 x] rfl
    (by intro j u hu; match j, hu with | 0, hu => cases hu; exact hc) (by simp [Value.oneCell']) (by unfold maxLen; omega) (by omega) hb
  rw [List.map_append]
  exact ⟨v', w', h1, h2, h3, h5, ownsRow_succ h2⟩
end Go.Proofs.Ythbbefkmnahnlaa
