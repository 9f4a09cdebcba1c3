/-
  No cell of these rows narrows 'for every input' (looked for: loops, veiled, ifaces, maps, wideKeys, modest, calm, conditions, laid).
  DERIVED. THE GIVEN ROWS OF THIS SEAT. 5 by the template 'for every input the law returns true; each argument reads behind the call as it read before'; 0 by the template 'total and deterministic' (their statements: YtboapndkopabiaaGreatTotals.lean).
  GIVEN WITH THE SEED: the statements are not yours to turn. If you find one false, say at which input.
  Laid BY PROGRAM, IN A SANDBOX (cutbox-rows.mjs): the forced cells as the released guide's own fill.sh prints them over the translation bfbc87c844a13e2d… (all of the seat's roots in one cut). By AI agents, Wed Nov 11 2026. No macro, syntax, notation, axiom, sorry.
-/
import Derived.Test.YtboapndkopabiaaGreatChecked
import GoSem.Claim
import GoSem.ClaimJoined
import GoSem.ClaimMapViews
import Derived.JoinedTies
import Derived.KernelRfl
namespace Go.Proofs.YtboapndkopabiaaGreat
/- THE CELL 'sum', in the pinned program and in every row, IS THE sha256 OF THE DUMP (.gsa) THAT YtboapndkopabiaaGreatProg.lean LOADS. Nothing in Lean hashes anything: it is a label: what it is worth is what the hold of that sum in a sandbox is worth. -/
noncomputable def Tryz.pinned : Pinned := { name := "ytboapndkopabiaagreat", sum := "bfbc87c844a13e2dc6bff27b93c1c84e82f581fe066116b646848958c595e815", checked := Tryz.checked }
namespace Rows
def none {H : Type} : Left H := { results := [], args := [] }

/-- 'podiumlaw20.RangesSpec': WHATEVER THE INPUT: true; the input reads as it did. -/
def rangesSpecSpec : ChangeSpec := { name := "rangesSpec", fn := fun _ => fun
  | [d1, d2] => { results := [.lit (.bool true)], args := [d1, d2] }
  | _ => none }
def rangesSpecRow : OpenClaim := { program := "ytboapndkopabiaagreat", sum := "bfbc87c844a13e2dc6bff27b93c1c84e82f581fe066116b646848958c595e815", func := "podium/podiumlaw20.RangesSpec", spec := "rangesSpec", unfollowed := true, recurses := true, apart := false }
def RangesSpecSaid : Prop := rangesSpecRow.holds Tryz.pinned (OpenSpec.ofChange rangesSpecSpec)

/-- ITS FALSE NEIGHBOUR: 'it returns false'. Refute it at one input. -/
def rangesSpecWrong : ChangeSpec := { name := "rangesSpec", fn := fun _ => fun
  | [d1, d2] => { results := [.lit (.bool false)], args := [d1, d2] }
  | _ => none }
def RangesSpecWrongFalsely : Prop := rangesSpecRow.holds Tryz.pinned (OpenSpec.ofChange rangesSpecWrong)

/-- 'podiumlaw20.RangesNeedSpec': WHATEVER THE INPUT: true; the input reads as it did. -/
def rangesNeedSpecSpec : ChangeSpec := { name := "rangesNeedSpec", fn := fun _ => fun
  | [d1, d2, d3, d4, d5] => { results := [.lit (.bool true)], args := [d1, d2, d3, d4, d5] }
  | _ => none }
def rangesNeedSpecRow : OpenClaim := { program := "ytboapndkopabiaagreat", sum := "bfbc87c844a13e2dc6bff27b93c1c84e82f581fe066116b646848958c595e815", func := "podium/podiumlaw20.RangesNeedSpec", spec := "rangesNeedSpec", unfollowed := true, recurses := true, apart := false }
def RangesNeedSpecSaid : Prop := rangesNeedSpecRow.holds Tryz.pinned (OpenSpec.ofChange rangesNeedSpecSpec)

/-- ITS FALSE NEIGHBOUR: 'it returns false'. Refute it at one input. -/
def rangesNeedSpecWrong : ChangeSpec := { name := "rangesNeedSpec", fn := fun _ => fun
  | [d1, d2, d3, d4, d5] => { results := [.lit (.bool false)], args := [d1, d2, d3, d4, d5] }
  | _ => none }
def RangesNeedSpecWrongFalsely : Prop := rangesNeedSpecRow.holds Tryz.pinned (OpenSpec.ofChange rangesNeedSpecWrong)

/-- 'podiumlaw20.RangesHold': WHATEVER THE INPUT: true; the input reads as it did. -/
def rangesHoldSpec : ChangeSpec := { name := "rangesHold", fn := fun _ => fun
  | [d1, d2, d3] => { results := [.lit (.bool true)], args := [d1, d2, d3] }
  | _ => none }
def rangesHoldRow : OpenClaim := { program := "ytboapndkopabiaagreat", sum := "bfbc87c844a13e2dc6bff27b93c1c84e82f581fe066116b646848958c595e815", func := "podium/podiumlaw20.RangesHold", spec := "rangesHold", unfollowed := true, recurses := true, apart := false }
def RangesHoldSaid : Prop := rangesHoldRow.holds Tryz.pinned (OpenSpec.ofChange rangesHoldSpec)

/-- ITS FALSE NEIGHBOUR: 'it returns false'. Refute it at one input. -/
def rangesHoldWrong : ChangeSpec := { name := "rangesHold", fn := fun _ => fun
  | [d1, d2, d3] => { results := [.lit (.bool false)], args := [d1, d2, d3] }
  | _ => none }
def RangesHoldWrongFalsely : Prop := rangesHoldRow.holds Tryz.pinned (OpenSpec.ofChange rangesHoldWrong)

/-- 'podiumlaw20.RangesPoint': WHATEVER THE INPUT: true; the input reads as it did. -/
def rangesPointSpec : ChangeSpec := { name := "rangesPoint", fn := fun _ => fun
  | [d1, d2, d3, d4] => { results := [.lit (.bool true)], args := [d1, d2, d3, d4] }
  | _ => none }
def rangesPointRow : OpenClaim := { program := "ytboapndkopabiaagreat", sum := "bfbc87c844a13e2dc6bff27b93c1c84e82f581fe066116b646848958c595e815", func := "podium/podiumlaw20.RangesPoint", spec := "rangesPoint", unfollowed := true, recurses := true, apart := false }
def RangesPointSaid : Prop := rangesPointRow.holds Tryz.pinned (OpenSpec.ofChange rangesPointSpec)

/-- ITS FALSE NEIGHBOUR: 'it returns false'. Refute it at one input. -/
def rangesPointWrong : ChangeSpec := { name := "rangesPoint", fn := fun _ => fun
  | [d1, d2, d3, d4] => { results := [.lit (.bool false)], args := [d1, d2, d3, d4] }
  | _ => none }
def RangesPointWrongFalsely : Prop := rangesPointRow.holds Tryz.pinned (OpenSpec.ofChange rangesPointWrong)

/-- 'podiumlaw20.RangesNeedFirst': WHATEVER THE INPUT: true; the input reads as it did. -/
def rangesNeedFirstSpec : ChangeSpec := { name := "rangesNeedFirst", fn := fun _ => fun
  | [d1, d2, d3, d4, d5] => { results := [.lit (.bool true)], args := [d1, d2, d3, d4, d5] }
  | _ => none }
def rangesNeedFirstRow : OpenClaim := { program := "ytboapndkopabiaagreat", sum := "bfbc87c844a13e2dc6bff27b93c1c84e82f581fe066116b646848958c595e815", func := "podium/podiumlaw20.RangesNeedFirst", spec := "rangesNeedFirst", unfollowed := true, recurses := true, apart := false }
def RangesNeedFirstSaid : Prop := rangesNeedFirstRow.holds Tryz.pinned (OpenSpec.ofChange rangesNeedFirstSpec)

/-- ITS FALSE NEIGHBOUR: 'it returns false'. Refute it at one input. -/
def rangesNeedFirstWrong : ChangeSpec := { name := "rangesNeedFirst", fn := fun _ => fun
  | [d1, d2, d3, d4, d5] => { results := [.lit (.bool false)], args := [d1, d2, d3, d4, d5] }
  | _ => none }
def RangesNeedFirstWrongFalsely : Prop := rangesNeedFirstRow.holds Tryz.pinned (OpenSpec.ofChange rangesNeedFirstWrong)

/- THE SECOND FORM. 'bulk': how many values and letters a reading holds, each counted each time it is reached (what is shared counts as often as it is met; a slice's spare places count too). A statement '..UptoSaid' is the law's where the arguments, and the package variables that the reading takes, are together of bulk at most 1048576: NARROWER than '..Said'. Prove '..Said' where nothing that the law and all that it calls make is longer than what came in: it says more and counts as full. Else prove '..UptoSaid'. A law counts once. -/
mutual
def uptoBulk {H : Type} : DataW H → Nat
  | .lit (.string bytes) => bytes.length + 1
  | .lit _ => 1
  | .nil => 1
  | .ptr d => uptoBulk d + 1
  | .slice elems spare => uptoBulkAll elems + uptoBulkAll spare + 1
  | .agg parts => uptoBulkAll parts + 1
  | .iface _ d => uptoBulk d + 1
  | .map entries => uptoBulkEntries entries + 1
  | .held _ => 1
def uptoBulkAll {H : Type} : List (DataW H) → Nat
  | [] => 0
  | d :: r => uptoBulk d + uptoBulkAll r
def uptoBulkEntries {H : Type} : List (Lit × DataW H) → Nat
  | [] => 0
  | x :: r => uptoBulkEntry x + uptoBulkEntries r
def uptoBulkEntry {H : Type} : Lit × DataW H → Nat
  | (.string bytes, d) => bytes.length + uptoBulk d + 1
  | (_, d) => uptoBulk d + 1
 end
def uptoSmall : (H : Type) → List (DataW H) → Bool := fun _ ds => decide (uptoBulkAll ds ≤ 1048576)
def OpenSpec.upto (s : _root_.Go.ChangeSpec) : _root_.Go.OpenSpec := { _root_.Go.OpenSpec.ofChange s with cond := some uptoSmall }

/-- 'podiumlaw20.RangesSpec', WHERE WHAT IT READS IS OF BULK AT MOST 1048576: true; the input reads as it did. -/
def rangesSpecUptoRow : OpenClaim := { program := "ytboapndkopabiaagreat", sum := "bfbc87c844a13e2dc6bff27b93c1c84e82f581fe066116b646848958c595e815", func := "podium/podiumlaw20.RangesSpec", spec := "rangesSpec", unfollowed := true, recurses := true, apart := false, narrowed := true }
def RangesSpecUptoSaid : Prop := rangesSpecUptoRow.holds Tryz.pinned (OpenSpec.upto rangesSpecSpec)

/-- 'podiumlaw20.RangesNeedSpec', WHERE WHAT IT READS IS OF BULK AT MOST 1048576: true; the input reads as it did. -/
def rangesNeedSpecUptoRow : OpenClaim := { program := "ytboapndkopabiaagreat", sum := "bfbc87c844a13e2dc6bff27b93c1c84e82f581fe066116b646848958c595e815", func := "podium/podiumlaw20.RangesNeedSpec", spec := "rangesNeedSpec", unfollowed := true, recurses := true, apart := false, narrowed := true }
def RangesNeedSpecUptoSaid : Prop := rangesNeedSpecUptoRow.holds Tryz.pinned (OpenSpec.upto rangesNeedSpecSpec)

/-- 'podiumlaw20.RangesHold', WHERE WHAT IT READS IS OF BULK AT MOST 1048576: true; the input reads as it did. -/
def rangesHoldUptoRow : OpenClaim := { program := "ytboapndkopabiaagreat", sum := "bfbc87c844a13e2dc6bff27b93c1c84e82f581fe066116b646848958c595e815", func := "podium/podiumlaw20.RangesHold", spec := "rangesHold", unfollowed := true, recurses := true, apart := false, narrowed := true }
def RangesHoldUptoSaid : Prop := rangesHoldUptoRow.holds Tryz.pinned (OpenSpec.upto rangesHoldSpec)

/-- 'podiumlaw20.RangesPoint', WHERE WHAT IT READS IS OF BULK AT MOST 1048576: true; the input reads as it did. -/
def rangesPointUptoRow : OpenClaim := { program := "ytboapndkopabiaagreat", sum := "bfbc87c844a13e2dc6bff27b93c1c84e82f581fe066116b646848958c595e815", func := "podium/podiumlaw20.RangesPoint", spec := "rangesPoint", unfollowed := true, recurses := true, apart := false, narrowed := true }
def RangesPointUptoSaid : Prop := rangesPointUptoRow.holds Tryz.pinned (OpenSpec.upto rangesPointSpec)

/-- 'podiumlaw20.RangesNeedFirst', WHERE WHAT IT READS IS OF BULK AT MOST 1048576: true; the input reads as it did. -/
def rangesNeedFirstUptoRow : OpenClaim := { program := "ytboapndkopabiaagreat", sum := "bfbc87c844a13e2dc6bff27b93c1c84e82f581fe066116b646848958c595e815", func := "podium/podiumlaw20.RangesNeedFirst", spec := "rangesNeedFirst", unfollowed := true, recurses := true, apart := false, narrowed := true }
def RangesNeedFirstUptoSaid : Prop := rangesNeedFirstUptoRow.holds Tryz.pinned (OpenSpec.upto rangesNeedFirstSpec)

end Rows
end Go.Proofs.YtboapndkopabiaaGreat
