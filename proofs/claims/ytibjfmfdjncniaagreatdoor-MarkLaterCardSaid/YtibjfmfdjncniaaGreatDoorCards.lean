/-
  DERIVED. GIVEN WITH THE SEED: THE CARDS: each row of YtibjfmfdjncniaaGreatDoorRows.lean that lists a variable, with what it lists TIED to the program's text (the seventh form; the later family's looks); each row that meets fmt, with fmt's text TOLD by the authors' own Lean function (tested against real Go, not proved from fmt's source: count such statements apart). THE CARD IS WHAT COUNTS. Prove the row's statement (the work); the ties are given (YtibjfmfdjncniaaGreatDoorTie.lean); close each card by the builder's one call (the guide's Derived/Test/ToyasCard.lean, 'card_holds'). Laid BY PROGRAM, IN A SANDBOX (cutbox-door.mjs). By AI agents, Wed Nov 11 2026. No macro, syntax, notation, axiom, sorry.
-/
import Derived.Test.YtibjfmfdjncniaaGreatDoorRows
import GoSem.ClaimSeven
namespace Go.Proofs.YtibjfmfdjncniaaGreatDoor
namespace Rows

/-- THE TIED CARD OF 'palfreylaw01.MarkWrong'. -/
def markWrongCard : Claim7 := { stood := { row := markWrongRow, standIns := [], harness := (true, "03d7d02dccdb4366251e0df994b7cfaea7c166055763f6f14f3269bd97014bdc"), looks := true }, kinds := [], alts := [], goes := true, laidByText := true, laidKinds := [.handle], laidTests := true, laidLooks := .later }
def MarkWrongCardSaid : Prop := Claim7.holds Tryz.pinned (.plain (OpenSpec.ofChange markWrongSpec)) markWrongCard

/-- THE TIED CARD OF 'palfreylaw01.MarkLater'. -/
def markLaterCard : Claim7 := { stood := { row := markLaterRow, standIns := [], harness := (true, "03d7d02dccdb4366251e0df994b7cfaea7c166055763f6f14f3269bd97014bdc"), looks := true }, kinds := [], alts := [], goes := true, laidByText := true, laidKinds := [.handle], laidTests := true, laidLooks := .later }
def MarkLaterCardSaid : Prop := Claim7.holds Tryz.pinned (.plain (OpenSpec.ofChange markLaterSpec)) markLaterCard
end Rows
end Go.Proofs.YtibjfmfdjncniaaGreatDoor
