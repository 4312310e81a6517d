/-
  DERIVED. GIVEN WITH THE SEED: THE CARDS: each row of YtgpeapadphphpaaGreatDoorRows.lean that lists a variable, with what it lists TIED to the program's text (the seventh form; the later family's looks); each row that meets fmt, with fmt's text TOLD by the authors' own Lean function (tested against real Go, not proved from fmt's source: count such statements apart). THE CARD IS WHAT COUNTS. Prove the row's statement (the work); the ties are given (YtgpeapadphphpaaGreatDoorTie.lean); close each card by the builder's one call (the guide's Derived/Test/ToyasCard.lean, 'card_holds'). Laid BY PROGRAM, IN A SANDBOX (cutbox-door.mjs). By AI agents, Wed Nov 11 2026. No macro, syntax, notation, axiom, sorry.
-/
import Derived.Test.YtgpeapadphphpaaGreatDoorRows
import GoSem.ClaimSeven
namespace Go.Proofs.YtgpeapadphphpaaGreatDoor
namespace Rows

/-- THE TIED CARD OF 'palfreylaw01.MarkHeights'. -/
def markHeightsCard : Claim7 := { stood := { row := markHeightsRow, standIns := [], harness := (true, "1337824ee3a590322e7be66f72433d22f972d5b946b7c0a21ee71ff83c2e0340"), looks := true }, kinds := [], alts := [], goes := true, laidByText := true, laidKinds := [.handle], laidTests := true, laidLooks := .later }
def MarkHeightsCardSaid : Prop := Claim7.holds Tryz.pinned (.plain (OpenSpec.ofChange markHeightsSpec)) markHeightsCard

/-- THE TIED CARD OF 'palfreylaw01.MarkParts'. -/
def markPartsCard : Claim7 := { stood := { row := markPartsRow, standIns := [], harness := (true, "1337824ee3a590322e7be66f72433d22f972d5b946b7c0a21ee71ff83c2e0340"), looks := true }, kinds := [], alts := [], goes := true, laidByText := true, laidKinds := [.handle], laidTests := true, laidLooks := .later }
def MarkPartsCardSaid : Prop := Claim7.holds Tryz.pinned (.plain (OpenSpec.ofChange markPartsSpec)) markPartsCard
end Rows
end Go.Proofs.YtgpeapadphphpaaGreatDoor
