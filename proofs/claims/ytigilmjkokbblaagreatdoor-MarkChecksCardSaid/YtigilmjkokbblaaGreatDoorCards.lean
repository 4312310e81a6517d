/-
  DERIVED. GIVEN WITH THE SEED: THE CARDS: each row of YtigilmjkokbblaaGreatDoorRows.lean that lists a variable, with what it lists TIED to the program's text (the seventh form; the later family's looks); each row that meets fmt, with fmt's text TOLD by the authors' own Lean function (tested against real Go, not proved from fmt's source: count such statements apart). THE CARD IS WHAT COUNTS. Prove the row's statement (the work); the ties are given (YtigilmjkokbblaaGreatDoorTie.lean); close each card by the builder's one call (the guide's Derived/Test/ToyasCard.lean, 'card_holds'). Laid BY PROGRAM, IN A SANDBOX (cutbox-door.mjs). By AI agents, Wed Nov 11 2026. No macro, syntax, notation, axiom, sorry.
-/
import Derived.Test.YtigilmjkokbblaaGreatDoorRows
import GoSem.ClaimSeven
namespace Go.Proofs.YtigilmjkokbblaaGreatDoor
namespace Rows

/-- THE TIED CARD OF 'palfreylaw01.MarkChecks'. -/
def markChecksCard : Claim7 := { stood := { row := markChecksRow, standIns := [], harness := (true, "db89df0e447e63cbde3aa6d4d64552534683153274f0adc8a9dbbd1559e9dad2"), looks := true }, kinds := [], alts := [], goes := true, laidByText := true, laidKinds := [.handle], laidTests := true, laidLooks := .later }
def MarkChecksCardSaid : Prop := Claim7.holds Tryz.pinned (.plain (OpenSpec.ofChange markChecksSpec)) markChecksCard

/-- THE TIED CARD OF 'palfreylaw01.MarkKnown'. -/
def markKnownCard : Claim7 := { stood := { row := markKnownRow, standIns := [], harness := (true, "db89df0e447e63cbde3aa6d4d64552534683153274f0adc8a9dbbd1559e9dad2"), looks := true }, kinds := [], alts := [], goes := true, laidByText := true, laidKinds := [.handle], laidTests := true, laidLooks := .later }
def MarkKnownCardSaid : Prop := Claim7.holds Tryz.pinned (.plain (OpenSpec.ofChange markKnownSpec)) markKnownCard
end Rows
end Go.Proofs.YtigilmjkokbblaaGreatDoor
