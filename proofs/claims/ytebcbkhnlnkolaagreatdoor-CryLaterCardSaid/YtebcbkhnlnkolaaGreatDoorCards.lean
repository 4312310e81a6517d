/-
  DERIVED. GIVEN WITH THE SEED: THE CARDS: each row of YtebcbkhnlnkolaaGreatDoorRows.lean that lists a variable, with what it lists TIED to the program's text (the seventh form; the later family's looks); each row that meets fmt, with fmt's text TOLD by the authors' own Lean function (tested against real Go, not proved from fmt's source: count such statements apart). THE CARD IS WHAT COUNTS. Prove the row's statement (the work); the ties are given (YtebcbkhnlnkolaaGreatDoorTie.lean); close each card by the builder's one call (the guide's Derived/Test/ToyasCard.lean, 'card_holds'). Laid BY PROGRAM, IN A SANDBOX (cutbox-door.mjs). By AI agents, Wed Nov 11 2026. No macro, syntax, notation, axiom, sorry.
-/
import Derived.Test.YtebcbkhnlnkolaaGreatDoorRows
import GoSem.ClaimSeven
namespace Go.Proofs.YtebcbkhnlnkolaaGreatDoor
namespace Rows

/-- THE TIED CARD OF 'palfreylaw07.CryLater'. -/
def cryLaterCard : Claim7 := { stood := { row := cryLaterRow, standIns := [], harness := (true, "50b66bdc54034c77c0585ee8934abba47c6085c2fb6bac4e3a81bcf04bbff935"), looks := true }, kinds := [], alts := [], goes := true, laidByText := true, laidKinds := [.handle], laidTests := true, laidLooks := .later }
def CryLaterCardSaid : Prop := Claim7.holds Tryz.pinned (.plain (OpenSpec.ofChange cryLaterSpec)) cryLaterCard

/-- THE TIED CARD OF 'palfreylaw07.CryFound'. -/
def cryFoundCard : Claim7 := { stood := { row := cryFoundRow, standIns := [], harness := (true, "50b66bdc54034c77c0585ee8934abba47c6085c2fb6bac4e3a81bcf04bbff935"), looks := true }, kinds := [], alts := [], goes := true, laidByText := true, laidKinds := [.handle], laidTests := true, laidLooks := .later }
def CryFoundCardSaid : Prop := Claim7.holds Tryz.pinned (.plain (OpenSpec.ofChange cryFoundSpec)) cryFoundCard

/-- THE TIED CARD OF 'palfreylaw07.CryLet'. -/
def cryLetCard : Claim7 := { stood := { row := cryLetRow, standIns := [], harness := (true, "50b66bdc54034c77c0585ee8934abba47c6085c2fb6bac4e3a81bcf04bbff935"), looks := true }, kinds := [], alts := [], goes := true, laidByText := true, laidKinds := [.handle], laidTests := true, laidLooks := .later }
def CryLetCardSaid : Prop := Claim7.holds Tryz.pinned (.plain (OpenSpec.ofChange cryLetSpec)) cryLetCard

/-- THE TIED CARD OF 'palfreylaw07.CryAlone'. -/
def cryAloneCard : Claim7 := { stood := { row := cryAloneRow, standIns := [], harness := (true, "50b66bdc54034c77c0585ee8934abba47c6085c2fb6bac4e3a81bcf04bbff935"), looks := true }, kinds := [], alts := [], goes := true, laidByText := true, laidKinds := [.handle], laidTests := true, laidLooks := .later }
def CryAloneCardSaid : Prop := Claim7.holds Tryz.pinned (.plain (OpenSpec.ofChange cryAloneSpec)) cryAloneCard

/-- THE TIED CARD OF 'palfreylaw07.CryEarliest'. -/
def cryEarliestCard : Claim7 := { stood := { row := cryEarliestRow, standIns := [], harness := (true, "50b66bdc54034c77c0585ee8934abba47c6085c2fb6bac4e3a81bcf04bbff935"), looks := true }, kinds := [], alts := [], goes := true, laidByText := true, laidKinds := [.handle], laidTests := true, laidLooks := .later }
def CryEarliestCardSaid : Prop := Claim7.holds Tryz.pinned (.plain (OpenSpec.ofChange cryEarliestSpec)) cryEarliestCard

/-- THE TIED CARD OF 'palfreylaw07.CryTurned'. -/
def cryTurnedCard : Claim7 := { stood := { row := cryTurnedRow, standIns := [], harness := (true, "50b66bdc54034c77c0585ee8934abba47c6085c2fb6bac4e3a81bcf04bbff935"), looks := true }, kinds := [], alts := [], goes := true, laidByText := true, laidKinds := [.handle], laidTests := true, laidLooks := .later }
def CryTurnedCardSaid : Prop := Claim7.holds Tryz.pinned (.plain (OpenSpec.ofChange cryTurnedSpec)) cryTurnedCard

/-- THE TIED CARD OF 'palfreylaw07.CryTrue'. -/
def cryTrueCard : Claim7 := { stood := { row := cryTrueRow, standIns := [], harness := (true, "50b66bdc54034c77c0585ee8934abba47c6085c2fb6bac4e3a81bcf04bbff935"), looks := true }, kinds := [], alts := [], goes := true, laidByText := true, laidKinds := [.handle], laidTests := true, laidLooks := .later }
def CryTrueCardSaid : Prop := Claim7.holds Tryz.pinned (.plain (OpenSpec.ofChange cryTrueSpec)) cryTrueCard
end Rows
end Go.Proofs.YtebcbkhnlnkolaaGreatDoor
