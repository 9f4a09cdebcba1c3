/-
  DERIVED. GIVEN WITH THE SEED: THE CARDS: each row of YtefnknhjlejalaaGreatDoorRows.lean that lists a variable, with what it lists TIED to the program's text (the seventh form; the later family's looks); each row that meets fmt, with fmt's text TOLD by the authors' own Lean function (tested against real Go, not proved from fmt's source: count such statements apart). THE CARD IS WHAT COUNTS. Prove the row's statement (the work); the ties are given (YtefnknhjlejalaaGreatDoorTie.lean); close each card by the builder's one call (the guide's Derived/Test/ToyasCard.lean, 'card_holds'). Laid BY PROGRAM, IN A SANDBOX (cutbox-door.mjs). By AI agents, Wed Nov 11 2026. No macro, syntax, notation, axiom, sorry.
-/
import Derived.Test.YtefnknhjlejalaaGreatDoorRows
import GoSem.ClaimSeven
namespace Go.Proofs.YtefnknhjlejalaaGreatDoor
namespace Rows

/-- THE TIED CARD OF 'podiumlaw19.CodeRunSpec'. -/
def codeRunSpecCard : Claim7 := { stood := { row := codeRunSpecRow, standIns := [], harness := (true, "ce9aa0842588d4c35c0118e266a98beb30cd77c72d7e8f2091a906fef710bd30"), looks := true }, kinds := [], alts := [], laidByText := true, laidKinds := [.listed, .data], laidTests := true, laidLooks := .later }
def CodeRunSpecCardSaid : Prop := Claim7.holds Tryz.pinned (.plain (OpenSpec.ofChange codeRunSpecSpec)) codeRunSpecCard

/-- THE TIED CARD OF 'podiumlaw19.CodeFirst'. -/
def codeFirstCard : Claim7 := { stood := { row := codeFirstRow, standIns := [], harness := (true, "ce9aa0842588d4c35c0118e266a98beb30cd77c72d7e8f2091a906fef710bd30"), looks := true }, kinds := [], alts := [], laidByText := true, laidKinds := [.listed, .data], laidTests := true, laidLooks := .later }
def CodeFirstCardSaid : Prop := Claim7.holds Tryz.pinned (.plain (OpenSpec.ofChange codeFirstSpec)) codeFirstCard

/-- THE TIED CARD OF 'podiumlaw19.CodeNamed'. -/
def codeNamedCard : Claim7 := { stood := { row := codeNamedRow, standIns := [], harness := (true, "ce9aa0842588d4c35c0118e266a98beb30cd77c72d7e8f2091a906fef710bd30"), looks := true }, kinds := [], alts := [], laidByText := true, laidKinds := [.listed, .data], laidTests := true, laidLooks := .later }
def CodeNamedCardSaid : Prop := Claim7.holds Tryz.pinned (.plain (OpenSpec.ofChange codeNamedSpec)) codeNamedCard

/-- THE TIED CARD OF 'podiumlaw19.CodeSelects'. -/
def codeSelectsCard : Claim7 := { stood := { row := codeSelectsRow, standIns := [], harness := (true, "ce9aa0842588d4c35c0118e266a98beb30cd77c72d7e8f2091a906fef710bd30"), looks := true }, kinds := [], alts := [], laidByText := true, laidKinds := [.listed, .data], laidTests := true, laidLooks := .later }
def CodeSelectsCardSaid : Prop := Claim7.holds Tryz.pinned (.plain (OpenSpec.ofChange codeSelectsSpec)) codeSelectsCard

/-- THE SECOND FORM's CARD OF 'podiumlaw19.CodeRunSpec'. -/
def codeRunSpecUptoCard : Claim7 := { stood := { row := codeRunSpecUptoRow, standIns := [], harness := (true, "ce9aa0842588d4c35c0118e266a98beb30cd77c72d7e8f2091a906fef710bd30"), looks := true }, kinds := [], alts := [], laidByText := true, laidKinds := [.listed, .data], laidTests := true, laidLooks := .later }
def CodeRunSpecUptoCardSaid : Prop := Claim7.holds Tryz.pinned (.plain (OpenSpec.upto codeRunSpecSpec)) codeRunSpecUptoCard

/-- THE SECOND FORM's CARD OF 'podiumlaw19.CodeFirst'. -/
def codeFirstUptoCard : Claim7 := { stood := { row := codeFirstUptoRow, standIns := [], harness := (true, "ce9aa0842588d4c35c0118e266a98beb30cd77c72d7e8f2091a906fef710bd30"), looks := true }, kinds := [], alts := [], laidByText := true, laidKinds := [.listed, .data], laidTests := true, laidLooks := .later }
def CodeFirstUptoCardSaid : Prop := Claim7.holds Tryz.pinned (.plain (OpenSpec.upto codeFirstSpec)) codeFirstUptoCard

/-- THE SECOND FORM's CARD OF 'podiumlaw19.CodeNamed'. -/
def codeNamedUptoCard : Claim7 := { stood := { row := codeNamedUptoRow, standIns := [], harness := (true, "ce9aa0842588d4c35c0118e266a98beb30cd77c72d7e8f2091a906fef710bd30"), looks := true }, kinds := [], alts := [], laidByText := true, laidKinds := [.listed, .data], laidTests := true, laidLooks := .later }
def CodeNamedUptoCardSaid : Prop := Claim7.holds Tryz.pinned (.plain (OpenSpec.upto codeNamedSpec)) codeNamedUptoCard

/-- THE SECOND FORM's CARD OF 'podiumlaw19.CodeSelects'. -/
def codeSelectsUptoCard : Claim7 := { stood := { row := codeSelectsUptoRow, standIns := [], harness := (true, "ce9aa0842588d4c35c0118e266a98beb30cd77c72d7e8f2091a906fef710bd30"), looks := true }, kinds := [], alts := [], laidByText := true, laidKinds := [.listed, .data], laidTests := true, laidLooks := .later }
def CodeSelectsUptoCardSaid : Prop := Claim7.holds Tryz.pinned (.plain (OpenSpec.upto codeSelectsSpec)) codeSelectsUptoCard
end Rows
end Go.Proofs.YtefnknhjlejalaaGreatDoor
