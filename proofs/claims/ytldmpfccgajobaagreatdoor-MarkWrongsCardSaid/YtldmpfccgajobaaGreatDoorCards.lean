/-
  DERIVED. GIVEN WITH THE SEED: THE CARDS: each row of YtldmpfccgajobaaGreatDoorRows.lean that lists a variable, with what it lists TIED to the program's text (the seventh form; the later family's looks); each row that meets fmt, with fmt's text TOLD by the authors' own Lean function (tested against real Go, not proved from fmt's source: count such statements apart). THE CARD IS WHAT COUNTS. Prove the row's statement (the work); the ties are given (YtldmpfccgajobaaGreatDoorTie.lean); close each card by the builder's one call (the guide's Derived/Test/ToyasCard.lean, 'card_holds'). Laid BY PROGRAM, IN A SANDBOX (cutbox-door.mjs). By AI agents, Wed Nov 11 2026. No macro, syntax, notation, axiom, sorry.
-/
import Derived.Test.YtldmpfccgajobaaGreatDoorRows
import GoSem.ClaimSeven
namespace Go.Proofs.YtldmpfccgajobaaGreatDoor
namespace Rows

/-- THE TIED CARD OF 'palfreylaw01.MarkCounts'. -/
def markCountsCard : Claim7 := { stood := { row := markCountsRow, standIns := [], harness := (true, "425a249c96a22b9b1647d9cf001fe84cae95254cc72c462b8ef43587990f1769"), looks := true }, kinds := [], alts := [], goes := true, laidByText := true, laidKinds := [.handle], laidTests := true, laidLooks := .later }
def MarkCountsCardSaid : Prop := Claim7.holds Tryz.pinned (.plain (OpenSpec.ofChange markCountsSpec)) markCountsCard

/-- THE TIED CARD OF 'palfreylaw01.MarkChecks'. -/
def markChecksCard : Claim7 := { stood := { row := markChecksRow, standIns := [], harness := (true, "425a249c96a22b9b1647d9cf001fe84cae95254cc72c462b8ef43587990f1769"), looks := true }, kinds := [], alts := [], goes := true, laidByText := true, laidKinds := [.handle], laidTests := true, laidLooks := .later }
def MarkChecksCardSaid : Prop := Claim7.holds Tryz.pinned (.plain (OpenSpec.ofChange markChecksSpec)) markChecksCard

/-- THE TIED CARD OF 'palfreylaw01.MarkWrongs'. -/
def markWrongsCard : Claim7 := { stood := { row := markWrongsRow, standIns := [], harness := (true, "425a249c96a22b9b1647d9cf001fe84cae95254cc72c462b8ef43587990f1769"), looks := true }, kinds := [], alts := [], goes := true, laidByText := true, laidKinds := [.handle], laidTests := true, laidLooks := .later }
def MarkWrongsCardSaid : Prop := Claim7.holds Tryz.pinned (.plain (OpenSpec.ofChange markWrongsSpec)) markWrongsCard

/-- THE TIED CARD OF 'palfreylaw01.MarkSames'. -/
def markSamesCard : Claim7 := { stood := { row := markSamesRow, standIns := [], harness := (true, "425a249c96a22b9b1647d9cf001fe84cae95254cc72c462b8ef43587990f1769"), looks := true }, kinds := [], alts := [], goes := true, laidByText := true, laidKinds := [.handle], laidTests := true, laidLooks := .later }
def MarkSamesCardSaid : Prop := Claim7.holds Tryz.pinned (.plain (OpenSpec.ofChange markSamesSpec)) markSamesCard

/-- THE TIED CARD OF 'palfreylaw01.MarkAdds'. -/
def markAddsCard : Claim7 := { stood := { row := markAddsRow, standIns := [], harness := (true, "425a249c96a22b9b1647d9cf001fe84cae95254cc72c462b8ef43587990f1769"), looks := true }, kinds := [], alts := [], goes := true, laidByText := true, laidKinds := [.handle], laidTests := true, laidLooks := .later }
def MarkAddsCardSaid : Prop := Claim7.holds Tryz.pinned (.plain (OpenSpec.ofChange markAddsSpec)) markAddsCard

/-- THE TIED CARD OF 'palfreylaw01.MarkAlones'. -/
def markAlonesCard : Claim7 := { stood := { row := markAlonesRow, standIns := [], harness := (true, "425a249c96a22b9b1647d9cf001fe84cae95254cc72c462b8ef43587990f1769"), looks := true }, kinds := [], alts := [], goes := true, laidByText := true, laidKinds := [.handle], laidTests := true, laidLooks := .later }
def MarkAlonesCardSaid : Prop := Claim7.holds Tryz.pinned (.plain (OpenSpec.ofChange markAlonesSpec)) markAlonesCard

/-- THE TIED CARD OF 'palfreylaw01.MarkKnown'. -/
def markKnownCard : Claim7 := { stood := { row := markKnownRow, standIns := [], harness := (true, "425a249c96a22b9b1647d9cf001fe84cae95254cc72c462b8ef43587990f1769"), looks := true }, kinds := [], alts := [], goes := true, laidByText := true, laidKinds := [.handle], laidTests := true, laidLooks := .later }
def MarkKnownCardSaid : Prop := Claim7.holds Tryz.pinned (.plain (OpenSpec.ofChange markKnownSpec)) markKnownCard
end Rows
end Go.Proofs.YtldmpfccgajobaaGreatDoor
