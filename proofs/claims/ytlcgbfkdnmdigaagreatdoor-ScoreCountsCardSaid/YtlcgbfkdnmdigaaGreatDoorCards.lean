/-
  DERIVED. GIVEN WITH THE SEED: THE CARDS: each row of YtlcgbfkdnmdigaaGreatDoorRows.lean that lists a variable, with what it lists TIED to the program's text (the seventh form; the later family's looks); each row that meets fmt, with fmt's text TOLD by the authors' own Lean function (tested against real Go, not proved from fmt's source: count such statements apart). THE CARD IS WHAT COUNTS. Prove the row's statement (the work); the ties are given (YtlcgbfkdnmdigaaGreatDoorTie.lean); close each card by the builder's one call (the guide's Derived/Test/ToyasCard.lean, 'card_holds'). Laid BY PROGRAM, IN A SANDBOX (cutbox-door.mjs). By AI agents, Wed Nov 11 2026. No macro, syntax, notation, axiom, sorry.
-/
import Derived.Test.YtlcgbfkdnmdigaaGreatDoorRows
import GoSem.ClaimSeven
namespace Go.Proofs.YtlcgbfkdnmdigaaGreatDoor
namespace Rows

/-- THE TIED CARD OF 'podiumlaw17.ScoreTotals'. -/
def scoreTotalsCard : Claim7 := { stood := { row := scoreTotalsRow, standIns := [], harness := (true, "169c9d69dba5f1f76e078c95a757263ad5d8fb060565e0f511d0ab20e1c72040"), looks := true }, kinds := [], alts := [], laidByText := true, laidKinds := [.listed, .data], laidTests := true, laidLooks := .later }
def ScoreTotalsCardSaid : Prop := Claim7.holds Tryz.pinned (.plain (OpenSpec.ofChange scoreTotalsSpec)) scoreTotalsCard

/-- THE TIED CARD OF 'podiumlaw17.ScoreJudges'. -/
def scoreJudgesCard : Claim7 := { stood := { row := scoreJudgesRow, standIns := [], harness := (true, "169c9d69dba5f1f76e078c95a757263ad5d8fb060565e0f511d0ab20e1c72040"), looks := true }, kinds := [], alts := [], laidByText := true, laidKinds := [.listed, .data], laidTests := true, laidLooks := .later }
def ScoreJudgesCardSaid : Prop := Claim7.holds Tryz.pinned (.plain (OpenSpec.ofChange scoreJudgesSpec)) scoreJudgesCard

/-- THE TIED CARD OF 'podiumlaw17.ScoreOnly'. -/
def scoreOnlyCard : Claim7 := { stood := { row := scoreOnlyRow, standIns := [], harness := (true, "169c9d69dba5f1f76e078c95a757263ad5d8fb060565e0f511d0ab20e1c72040"), looks := true }, kinds := [], alts := [], laidByText := true, laidKinds := [.listed, .data], laidTests := true, laidLooks := .later }
def ScoreOnlyCardSaid : Prop := Claim7.holds Tryz.pinned (.plain (OpenSpec.ofChange scoreOnlySpec)) scoreOnlyCard

/-- THE TIED CARD OF 'podiumlaw17.ScoreCounts'. -/
def scoreCountsCard : Claim7 := { stood := { row := scoreCountsRow, standIns := [], harness := (true, "169c9d69dba5f1f76e078c95a757263ad5d8fb060565e0f511d0ab20e1c72040"), looks := true }, kinds := [], alts := [], laidByText := true, laidKinds := [.listed, .data], laidTests := true, laidLooks := .later }
def ScoreCountsCardSaid : Prop := Claim7.holds Tryz.pinned (.plain (OpenSpec.ofChange scoreCountsSpec)) scoreCountsCard

/-- THE SECOND FORM's CARD OF 'podiumlaw17.ScoreTotals'. -/
def scoreTotalsUptoCard : Claim7 := { stood := { row := scoreTotalsUptoRow, standIns := [], harness := (true, "169c9d69dba5f1f76e078c95a757263ad5d8fb060565e0f511d0ab20e1c72040"), looks := true }, kinds := [], alts := [], laidByText := true, laidKinds := [.listed, .data], laidTests := true, laidLooks := .later }
def ScoreTotalsUptoCardSaid : Prop := Claim7.holds Tryz.pinned (.plain (OpenSpec.upto scoreTotalsSpec)) scoreTotalsUptoCard

/-- THE SECOND FORM's CARD OF 'podiumlaw17.ScoreJudges'. -/
def scoreJudgesUptoCard : Claim7 := { stood := { row := scoreJudgesUptoRow, standIns := [], harness := (true, "169c9d69dba5f1f76e078c95a757263ad5d8fb060565e0f511d0ab20e1c72040"), looks := true }, kinds := [], alts := [], laidByText := true, laidKinds := [.listed, .data], laidTests := true, laidLooks := .later }
def ScoreJudgesUptoCardSaid : Prop := Claim7.holds Tryz.pinned (.plain (OpenSpec.upto scoreJudgesSpec)) scoreJudgesUptoCard

/-- THE SECOND FORM's CARD OF 'podiumlaw17.ScoreOnly'. -/
def scoreOnlyUptoCard : Claim7 := { stood := { row := scoreOnlyUptoRow, standIns := [], harness := (true, "169c9d69dba5f1f76e078c95a757263ad5d8fb060565e0f511d0ab20e1c72040"), looks := true }, kinds := [], alts := [], laidByText := true, laidKinds := [.listed, .data], laidTests := true, laidLooks := .later }
def ScoreOnlyUptoCardSaid : Prop := Claim7.holds Tryz.pinned (.plain (OpenSpec.upto scoreOnlySpec)) scoreOnlyUptoCard

/-- THE SECOND FORM's CARD OF 'podiumlaw17.ScoreCounts'. -/
def scoreCountsUptoCard : Claim7 := { stood := { row := scoreCountsUptoRow, standIns := [], harness := (true, "169c9d69dba5f1f76e078c95a757263ad5d8fb060565e0f511d0ab20e1c72040"), looks := true }, kinds := [], alts := [], laidByText := true, laidKinds := [.listed, .data], laidTests := true, laidLooks := .later }
def ScoreCountsUptoCardSaid : Prop := Claim7.holds Tryz.pinned (.plain (OpenSpec.upto scoreCountsSpec)) scoreCountsUptoCard
end Rows
end Go.Proofs.YtlcgbfkdnmdigaaGreatDoor
