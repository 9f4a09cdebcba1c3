/-
  DERIVED. GIVEN WITH THE SEED: THE CARDS: each row of YtfdmnogfflcllaaGreatDoorRows.lean that lists a variable, with what it lists TIED to the program's text (the seventh form; the later family's looks); each row that meets fmt, with fmt's text TOLD by the authors' own Lean function (tested against real Go, not proved from fmt's source: count such statements apart). THE CARD IS WHAT COUNTS. Prove the row's statement (the work); the ties are given (YtfdmnogfflcllaaGreatDoorTie.lean); close each card by the builder's one call (the guide's Derived/Test/ToyasCard.lean, 'card_holds'). Laid BY PROGRAM, IN A SANDBOX (cutbox-door.mjs). By AI agents, Wed Nov 11 2026. No macro, syntax, notation, axiom, sorry.
-/
import Derived.Test.YtfdmnogfflcllaaGreatDoorRows
import GoSem.ClaimSeven
namespace Go.Proofs.YtfdmnogfflcllaaGreatDoor
namespace Rows

/-- THE TIED CARD OF 'podiumlaw45.LiveAll'. -/
def liveAllCard : Claim7 := { stood := { row := liveAllRow, standIns := [], harness := (true, "21704342a0bd7114003718951d2c724173e080f90d29aae8016a95908552d5e3"), looks := true }, kinds := [], alts := [], laidByText := true, laidKinds := [.listed, .data], laidTests := true, laidLooks := .later }
def LiveAllCardSaid : Prop := Claim7.holds Tryz.pinned (.plain (OpenSpec.ofChange liveAllSpec)) liveAllCard

/-- THE TIED CARD OF 'podiumlaw45.LiveKnown'. -/
def liveKnownCard : Claim7 := { stood := { row := liveKnownRow, standIns := [], harness := (true, "21704342a0bd7114003718951d2c724173e080f90d29aae8016a95908552d5e3"), looks := true }, kinds := [], alts := [], laidByText := true, laidKinds := [.listed, .data], laidTests := true, laidLooks := .later }
def LiveKnownCardSaid : Prop := Claim7.holds Tryz.pinned (.plain (OpenSpec.ofChange liveKnownSpec)) liveKnownCard

/-- THE SECOND FORM's CARD OF 'podiumlaw45.LiveAll'. -/
def liveAllUptoCard : Claim7 := { stood := { row := liveAllUptoRow, standIns := [], harness := (true, "21704342a0bd7114003718951d2c724173e080f90d29aae8016a95908552d5e3"), looks := true }, kinds := [], alts := [], laidByText := true, laidKinds := [.listed, .data], laidTests := true, laidLooks := .later }
def LiveAllUptoCardSaid : Prop := Claim7.holds Tryz.pinned (.plain (OpenSpec.upto liveAllSpec)) liveAllUptoCard

/-- THE SECOND FORM's CARD OF 'podiumlaw45.LiveKnown'. -/
def liveKnownUptoCard : Claim7 := { stood := { row := liveKnownUptoRow, standIns := [], harness := (true, "21704342a0bd7114003718951d2c724173e080f90d29aae8016a95908552d5e3"), looks := true }, kinds := [], alts := [], laidByText := true, laidKinds := [.listed, .data], laidTests := true, laidLooks := .later }
def LiveKnownUptoCardSaid : Prop := Claim7.holds Tryz.pinned (.plain (OpenSpec.upto liveKnownSpec)) liveKnownUptoCard
end Rows
end Go.Proofs.YtfdmnogfflcllaaGreatDoor
