/-
  DERIVED. GIVEN WITH THE SEED: THE CARDS: each row of YtabmephejpgigaaGreatDoorRows.lean that lists a variable, with what it lists TIED to the program's text (the seventh form; the later family's looks); each row that meets fmt, with fmt's text TOLD by the authors' own Lean function (tested against real Go, not proved from fmt's source: count such statements apart). THE CARD IS WHAT COUNTS. Prove the row's statement (the work); the ties are given (YtabmephejpgigaaGreatDoorTie.lean); close each card by the builder's one call (the guide's Derived/Test/ToyasCard.lean, 'card_holds'). Laid BY PROGRAM, IN A SANDBOX (cutbox-door.mjs). By AI agents, Wed Nov 11 2026. No macro, syntax, notation, axiom, sorry.
-/
import Derived.Test.YtabmephejpgigaaGreatDoorRows
import GoSem.ClaimSeven
namespace Go.Proofs.YtabmephejpgigaaGreatDoor
namespace Rows

/-- THE TIED CARD OF 'palfreytop.TopFound'. -/
def topFoundCard : Claim7 := { stood := { row := topFoundRow, standIns := [], harness := (true, "67c5b28e4e3524cb250272719dd3477384a821705b3e13e1f06a8f03f229b7a3"), looks := true }, kinds := [], alts := [], goes := true, laidByText := true, laidKinds := [.handle], laidTests := true, laidLooks := .later }
def TopFoundCardSaid : Prop := Claim7.holds Tryz.pinned (.plain (OpenSpec.ofChange topFoundSpec)) topFoundCard
end Rows
end Go.Proofs.YtabmephejpgigaaGreatDoor
