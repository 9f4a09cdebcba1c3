/-
  No cell of these rows narrows 'for every input' (looked for: loops, veiled, ifaces, maps, wideKeys, modest, calm, conditions, laid).
  DERIVED. THE GIVEN ROWS OF THIS SEAT. 4 by the template 'for every input the law returns true; each argument reads behind the call as it read before'; 0 by the template 'total and deterministic' (their statements: YthbbefkmnahnlaaTotals.lean).
  GIVEN WITH THE SEED: the statements are not yours to turn. If you find one false, say at which input.
  Laid BY PROGRAM, IN A SANDBOX (cutbox-rows.mjs): the forced cells as the released guide's own fill.sh prints them over the translation 1831679baa1ccd37… (all of the seat's roots in one cut). By AI agents, Wed Nov 11 2026. No macro, syntax, notation, axiom, sorry.
-/
import Derived.Test.YthbbefkmnahnlaaChecked
import GoSem.Claim
import GoSem.ClaimJoined
import GoSem.ClaimMapViews
import Derived.JoinedTies
import Derived.KernelRfl
namespace Go.Proofs.Ythbbefkmnahnlaa
/- THE CELL 'sum', in the pinned program and in every row, IS THE sha256 OF THE DUMP (.gsa) THAT YthbbefkmnahnlaaProg.lean LOADS. Nothing in Lean hashes anything: it is a label: what it is worth is what the hold of that sum in a sandbox is worth. -/
noncomputable def Try.pinned : Pinned := { name := "ythbbefkmnahnlaa", sum := "1831679baa1ccd37f63e8f5c57a3028889d6e627d668ab0de79a92db860f2563", checked := Try.checked }
namespace Rows
def none {H : Type} : Left H := { results := [], args := [] }

/-- 'podiumlaw54.SheetsMarked': WHATEVER THE INPUT: true; the input reads as it did. -/
def sheetsMarkedSpec : ChangeSpec := { name := "sheetsMarked", fn := fun _ => fun
  | [d1, d2, d3] => { results := [.lit (.bool true)], args := [d1, d2, d3] }
  | _ => none }
def sheetsMarkedRow : OpenClaim := { program := "ythbbefkmnahnlaa", sum := "1831679baa1ccd37f63e8f5c57a3028889d6e627d668ab0de79a92db860f2563", func := "podium/podiumlaw54.SheetsMarked", spec := "sheetsMarked", unfollowed := true, recurses := true, apart := false }
def SheetsMarkedSaid : Prop := sheetsMarkedRow.holds Try.pinned (OpenSpec.ofChange sheetsMarkedSpec)

/-- ITS FALSE NEIGHBOUR: 'it returns false'. Refute it at one input. -/
def sheetsMarkedWrong : ChangeSpec := { name := "sheetsMarked", fn := fun _ => fun
  | [d1, d2, d3] => { results := [.lit (.bool false)], args := [d1, d2, d3] }
  | _ => none }
def SheetsMarkedWrongFalsely : Prop := sheetsMarkedRow.holds Try.pinned (OpenSpec.ofChange sheetsMarkedWrong)

/-- 'podiumlaw54.SheetsError': WHATEVER THE INPUT: true; the input reads as it did. -/
def sheetsErrorSpec : ChangeSpec := { name := "sheetsError", fn := fun _ => fun
  | [d1, d2, d3, d4, d5] => { results := [.lit (.bool true)], args := [d1, d2, d3, d4, d5] }
  | _ => none }
def sheetsErrorRow : OpenClaim := { program := "ythbbefkmnahnlaa", sum := "1831679baa1ccd37f63e8f5c57a3028889d6e627d668ab0de79a92db860f2563", func := "podium/podiumlaw54.SheetsError", spec := "sheetsError", unfollowed := true, recurses := true, apart := false }
def SheetsErrorSaid : Prop := sheetsErrorRow.holds Try.pinned (OpenSpec.ofChange sheetsErrorSpec)

/-- ITS FALSE NEIGHBOUR: 'it returns false'. Refute it at one input. -/
def sheetsErrorWrong : ChangeSpec := { name := "sheetsError", fn := fun _ => fun
  | [d1, d2, d3, d4, d5] => { results := [.lit (.bool false)], args := [d1, d2, d3, d4, d5] }
  | _ => none }
def SheetsErrorWrongFalsely : Prop := sheetsErrorRow.holds Try.pinned (OpenSpec.ofChange sheetsErrorWrong)

/-- 'podiumlaw54.SheetsAlone': WHATEVER THE INPUT: true; the input reads as it did. -/
def sheetsAloneSpec : ChangeSpec := { name := "sheetsAlone", fn := fun _ => fun
  | [d1, d2, d3] => { results := [.lit (.bool true)], args := [d1, d2, d3] }
  | _ => none }
def sheetsAloneRow : OpenClaim := { program := "ythbbefkmnahnlaa", sum := "1831679baa1ccd37f63e8f5c57a3028889d6e627d668ab0de79a92db860f2563", func := "podium/podiumlaw54.SheetsAlone", spec := "sheetsAlone", unfollowed := true, recurses := true, apart := false }
def SheetsAloneSaid : Prop := sheetsAloneRow.holds Try.pinned (OpenSpec.ofChange sheetsAloneSpec)

/-- ITS FALSE NEIGHBOUR: 'it returns false'. Refute it at one input. -/
def sheetsAloneWrong : ChangeSpec := { name := "sheetsAlone", fn := fun _ => fun
  | [d1, d2, d3] => { results := [.lit (.bool false)], args := [d1, d2, d3] }
  | _ => none }
def SheetsAloneWrongFalsely : Prop := sheetsAloneRow.holds Try.pinned (OpenSpec.ofChange sheetsAloneWrong)

/-- 'podiumlaw54.SheetsOnly': WHATEVER THE INPUT: true; the input reads as it did. -/
def sheetsOnlySpec : ChangeSpec := { name := "sheetsOnly", fn := fun _ => fun
  | [d1, d2, d3] => { results := [.lit (.bool true)], args := [d1, d2, d3] }
  | _ => none }
def sheetsOnlyRow : OpenClaim := { program := "ythbbefkmnahnlaa", sum := "1831679baa1ccd37f63e8f5c57a3028889d6e627d668ab0de79a92db860f2563", func := "podium/podiumlaw54.SheetsOnly", spec := "sheetsOnly", unfollowed := true, recurses := true, apart := false }
def SheetsOnlySaid : Prop := sheetsOnlyRow.holds Try.pinned (OpenSpec.ofChange sheetsOnlySpec)

/-- ITS FALSE NEIGHBOUR: 'it returns false'. Refute it at one input. -/
def sheetsOnlyWrong : ChangeSpec := { name := "sheetsOnly", fn := fun _ => fun
  | [d1, d2, d3] => { results := [.lit (.bool false)], args := [d1, d2, d3] }
  | _ => none }
def SheetsOnlyWrongFalsely : Prop := sheetsOnlyRow.holds Try.pinned (OpenSpec.ofChange sheetsOnlyWrong)

/- THE SECOND FORM. 'bulk': how many values and letters a reading holds, each counted each time it is reached (what is shared counts as often as it is met; a slice's spare places count too). A statement '..UptoSaid' is the law's where the arguments, and the package variables that the reading takes, are together of bulk at most 1048576: NARROWER than '..Said'. Prove '..Said' where nothing that the law and all that it calls make is longer than what came in: it says more and counts as full. Else prove '..UptoSaid'. A law counts once. -/
mutual
def uptoBulk {H : Type} : DataW H → Nat
  | .lit (.string bytes) => bytes.length + 1
  | .lit _ => 1
  | .nil => 1
  | .ptr d => uptoBulk d + 1
  | .slice elems spare => uptoBulkAll elems + uptoBulkAll spare + 1
  | .agg parts => uptoBulkAll parts + 1
  | .iface _ d => uptoBulk d + 1
  | .map entries => uptoBulkEntries entries + 1
  | .held _ => 1
def uptoBulkAll {H : Type} : List (DataW H) → Nat
  | [] => 0
  | d :: r => uptoBulk d + uptoBulkAll r
def uptoBulkEntries {H : Type} : List (Lit × DataW H) → Nat
  | [] => 0
  | x :: r => uptoBulkEntry x + uptoBulkEntries r
def uptoBulkEntry {H : Type} : Lit × DataW H → Nat
  | (.string bytes, d) => bytes.length + uptoBulk d + 1
  | (_, d) => uptoBulk d + 1
 end
def uptoSmall : (H : Type) → List (DataW H) → Bool := fun _ ds => decide (uptoBulkAll ds ≤ 1048576)
def OpenSpec.upto (s : _root_.Go.ChangeSpec) : _root_.Go.OpenSpec := { _root_.Go.OpenSpec.ofChange s with cond := some uptoSmall }

/-- 'podiumlaw54.SheetsMarked', WHERE WHAT IT READS IS OF BULK AT MOST 1048576: true; the input reads as it did. -/
def sheetsMarkedUptoRow : OpenClaim := { program := "ythbbefkmnahnlaa", sum := "1831679baa1ccd37f63e8f5c57a3028889d6e627d668ab0de79a92db860f2563", func := "podium/podiumlaw54.SheetsMarked", spec := "sheetsMarked", unfollowed := true, recurses := true, apart := false, narrowed := true }
def SheetsMarkedUptoSaid : Prop := sheetsMarkedUptoRow.holds Try.pinned (OpenSpec.upto sheetsMarkedSpec)

/-- 'podiumlaw54.SheetsError', WHERE WHAT IT READS IS OF BULK AT MOST 1048576: true; the input reads as it did. -/
def sheetsErrorUptoRow : OpenClaim := { program := "ythbbefkmnahnlaa", sum := "1831679baa1ccd37f63e8f5c57a3028889d6e627d668ab0de79a92db860f2563", func := "podium/podiumlaw54.SheetsError", spec := "sheetsError", unfollowed := true, recurses := true, apart := false, narrowed := true }
def SheetsErrorUptoSaid : Prop := sheetsErrorUptoRow.holds Try.pinned (OpenSpec.upto sheetsErrorSpec)

/-- 'podiumlaw54.SheetsAlone', WHERE WHAT IT READS IS OF BULK AT MOST 1048576: true; the input reads as it did. -/
def sheetsAloneUptoRow : OpenClaim := { program := "ythbbefkmnahnlaa", sum := "1831679baa1ccd37f63e8f5c57a3028889d6e627d668ab0de79a92db860f2563", func := "podium/podiumlaw54.SheetsAlone", spec := "sheetsAlone", unfollowed := true, recurses := true, apart := false, narrowed := true }
def SheetsAloneUptoSaid : Prop := sheetsAloneUptoRow.holds Try.pinned (OpenSpec.upto sheetsAloneSpec)

/-- 'podiumlaw54.SheetsOnly', WHERE WHAT IT READS IS OF BULK AT MOST 1048576: true; the input reads as it did. -/
def sheetsOnlyUptoRow : OpenClaim := { program := "ythbbefkmnahnlaa", sum := "1831679baa1ccd37f63e8f5c57a3028889d6e627d668ab0de79a92db860f2563", func := "podium/podiumlaw54.SheetsOnly", spec := "sheetsOnly", unfollowed := true, recurses := true, apart := false, narrowed := true }
def SheetsOnlyUptoSaid : Prop := sheetsOnlyUptoRow.holds Try.pinned (OpenSpec.upto sheetsOnlySpec)

end Rows
end Go.Proofs.Ythbbefkmnahnlaa
