/-
  DERIVED. GIVEN WITH THE SEED: THE CARDS: each row of YtggpckcdfilkoaaGreatDoorRows.lean that lists a variable, with what it lists TIED to the program's text (the seventh form; the later family's looks); each row that meets fmt, with fmt's text TOLD by the authors' own Lean function (tested against real Go, not proved from fmt's source: count such statements apart). THE CARD IS WHAT COUNTS. Prove the row's statement (the work); the ties are given (YtggpckcdfilkoaaGreatDoorTie.lean); close each card by the builder's one call (the guide's Derived/Test/ToyasCard.lean, 'card_holds'). Laid BY PROGRAM, IN A SANDBOX (cutbox-door.mjs). By AI agents, Wed Nov 11 2026. No macro, syntax, notation, axiom, sorry.
-/
import Derived.Test.YtggpckcdfilkoaaGreatDoorRows
import GoSem.ClaimSeven
namespace Go.Proofs.YtggpckcdfilkoaaGreatDoor
namespace Rows

/-- THE TIED CARD OF 'palfreylaw07.CrySpans'. -/
def crySpansCard : Claim7 := { stood := { row := crySpansRow, standIns := [], harness := (true, "274f91782bbeb822df3405a99de95c250579b6af3bbdf55307050573f2efe622"), looks := true }, kinds := [], alts := [], goes := true, laidByText := true, laidKinds := [.handle], laidTests := true, laidLooks := .later }
def CrySpansCardSaid : Prop := Claim7.holds Tryz.pinned (.plain (OpenSpec.ofChange crySpansSpec)) crySpansCard

/-- THE TIED CARD OF 'palfreylaw07.CryHolds'. -/
def cryHoldsCard : Claim7 := { stood := { row := cryHoldsRow, standIns := [], harness := (true, "274f91782bbeb822df3405a99de95c250579b6af3bbdf55307050573f2efe622"), looks := true }, kinds := [], alts := [], goes := true, laidByText := true, laidKinds := [.handle], laidTests := true, laidLooks := .later }
def CryHoldsCardSaid : Prop := Claim7.holds Tryz.pinned (.plain (OpenSpec.ofChange cryHoldsSpec)) cryHoldsCard

/-- THE TIED CARD OF 'palfreylaw07.CryArrives'. -/
def cryArrivesCard : Claim7 := { stood := { row := cryArrivesRow, standIns := [], harness := (true, "274f91782bbeb822df3405a99de95c250579b6af3bbdf55307050573f2efe622"), looks := true }, kinds := [], alts := [], goes := true, laidByText := true, laidKinds := [.handle], laidTests := true, laidLooks := .later }
def CryArrivesCardSaid : Prop := Claim7.holds Tryz.pinned (.plain (OpenSpec.ofChange cryArrivesSpec)) cryArrivesCard

/-- THE TIED CARD OF 'palfreylaw07.CryNeeds'. -/
def cryNeedsCard : Claim7 := { stood := { row := cryNeedsRow, standIns := [], harness := (true, "274f91782bbeb822df3405a99de95c250579b6af3bbdf55307050573f2efe622"), looks := true }, kinds := [], alts := [], goes := true, laidByText := true, laidKinds := [.handle], laidTests := true, laidLooks := .later }
def CryNeedsCardSaid : Prop := Claim7.holds Tryz.pinned (.plain (OpenSpec.ofChange cryNeedsSpec)) cryNeedsCard

/-- THE TIED CARD OF 'palfreylaw07.CryFinds'. -/
def cryFindsCard : Claim7 := { stood := { row := cryFindsRow, standIns := [], harness := (true, "274f91782bbeb822df3405a99de95c250579b6af3bbdf55307050573f2efe622"), looks := true }, kinds := [], alts := [], goes := true, laidByText := true, laidKinds := [.handle], laidTests := true, laidLooks := .later }
def CryFindsCardSaid : Prop := Claim7.holds Tryz.pinned (.plain (OpenSpec.ofChange cryFindsSpec)) cryFindsCard
end Rows
end Go.Proofs.YtggpckcdfilkoaaGreatDoor
