/-
  DERIVED. GIVEN WITH THE SEED: THE CARDS: each row of YtalogdafegmilaaGreatDoorRows.lean that lists a variable, with what it lists TIED to the program's text (the seventh form; the later family's looks); each row that meets fmt, with fmt's text TOLD by the authors' own Lean function (tested against real Go, not proved from fmt's source: count such statements apart). THE CARD IS WHAT COUNTS. Prove the row's statement (the work); the ties are given (YtalogdafegmilaaGreatDoorTie.lean); close each card by the builder's one call (the guide's Derived/Test/ToyasCard.lean, 'card_holds'). Laid BY PROGRAM, IN A SANDBOX (cutbox-door.mjs). By AI agents, Wed Nov 11 2026. No macro, syntax, notation, axiom, sorry.
-/
import Derived.Test.YtalogdafegmilaaGreatDoorRows
import GoSem.ClaimSeven
namespace Go.Proofs.YtalogdafegmilaaGreatDoor
namespace Rows

/-- THE TIED CARD OF 'palfreylaw01.MarkQuicker'. -/
def markQuickerCard : Claim7 := { stood := { row := markQuickerRow, standIns := [], harness := (true, "1115a688e006e5ddc891bcb926e008f4dee6aade14ddabbad3998f8e4b07b4d6"), looks := true }, kinds := [], alts := [], goes := true, laidByText := true, laidKinds := [.handle], laidTests := true, laidLooks := .later }
def MarkQuickerCardSaid : Prop := Claim7.holds Tryz.pinned (.plain (OpenSpec.ofChange markQuickerSpec)) markQuickerCard

/-- THE TIED CARD OF 'palfreylaw01.MarkFewest'. -/
def markFewestCard : Claim7 := { stood := { row := markFewestRow, standIns := [], harness := (true, "1115a688e006e5ddc891bcb926e008f4dee6aade14ddabbad3998f8e4b07b4d6"), looks := true }, kinds := [], alts := [], goes := true, laidByText := true, laidKinds := [.handle], laidTests := true, laidLooks := .later }
def MarkFewestCardSaid : Prop := Claim7.holds Tryz.pinned (.plain (OpenSpec.ofChange markFewestSpec)) markFewestCard

/-- THE TIED CARD OF 'palfreylaw01.MarkNumbered'. -/
def markNumberedCard : Claim7 := { stood := { row := markNumberedRow, standIns := [], harness := (true, "1115a688e006e5ddc891bcb926e008f4dee6aade14ddabbad3998f8e4b07b4d6"), looks := true }, kinds := [], alts := [], goes := true, laidByText := true, laidKinds := [.handle], laidTests := true, laidLooks := .later }
def MarkNumberedCardSaid : Prop := Claim7.holds Tryz.pinned (.plain (OpenSpec.ofChange markNumberedSpec)) markNumberedCard

/-- THE TIED CARD OF 'palfreylaw01.MarkTrue'. -/
def markTrueCard : Claim7 := { stood := { row := markTrueRow, standIns := [], harness := (true, "1115a688e006e5ddc891bcb926e008f4dee6aade14ddabbad3998f8e4b07b4d6"), looks := true }, kinds := [], alts := [], goes := true, laidByText := true, laidKinds := [.handle], laidTests := true, laidLooks := .later }
def MarkTrueCardSaid : Prop := Claim7.holds Tryz.pinned (.plain (OpenSpec.ofChange markTrueSpec)) markTrueCard

/-- THE TIED CARD OF 'palfreylaw01.MarkAlone'. -/
def markAloneCard : Claim7 := { stood := { row := markAloneRow, standIns := [], harness := (true, "1115a688e006e5ddc891bcb926e008f4dee6aade14ddabbad3998f8e4b07b4d6"), looks := true }, kinds := [], alts := [], goes := true, laidByText := true, laidKinds := [.handle], laidTests := true, laidLooks := .later }
def MarkAloneCardSaid : Prop := Claim7.holds Tryz.pinned (.plain (OpenSpec.ofChange markAloneSpec)) markAloneCard

/-- THE TIED CARD OF 'palfreylaw01.MarkNext'. -/
def markNextCard : Claim7 := { stood := { row := markNextRow, standIns := [], harness := (true, "1115a688e006e5ddc891bcb926e008f4dee6aade14ddabbad3998f8e4b07b4d6"), looks := true }, kinds := [], alts := [], goes := true, laidByText := true, laidKinds := [.handle], laidTests := true, laidLooks := .later }
def MarkNextCardSaid : Prop := Claim7.holds Tryz.pinned (.plain (OpenSpec.ofChange markNextSpec)) markNextCard

/-- THE TIED CARD OF 'palfreylaw01.MarkSure'. -/
def markSureCard : Claim7 := { stood := { row := markSureRow, standIns := [], harness := (true, "1115a688e006e5ddc891bcb926e008f4dee6aade14ddabbad3998f8e4b07b4d6"), looks := true }, kinds := [], alts := [], goes := true, laidByText := true, laidKinds := [.handle], laidTests := true, laidLooks := .later }
def MarkSureCardSaid : Prop := Claim7.holds Tryz.pinned (.plain (OpenSpec.ofChange markSureSpec)) markSureCard

/-- THE TIED CARD OF 'palfreylaw01.MarkThrough'. -/
def markThroughCard : Claim7 := { stood := { row := markThroughRow, standIns := [], harness := (true, "1115a688e006e5ddc891bcb926e008f4dee6aade14ddabbad3998f8e4b07b4d6"), looks := true }, kinds := [], alts := [], goes := true, laidByText := true, laidKinds := [.handle], laidTests := true, laidLooks := .later }
def MarkThroughCardSaid : Prop := Claim7.holds Tryz.pinned (.plain (OpenSpec.ofChange markThroughSpec)) markThroughCard

/-- THE TIED CARD OF 'palfreylaw01.MarkAll'. -/
def markAllCard : Claim7 := { stood := { row := markAllRow, standIns := [], harness := (true, "1115a688e006e5ddc891bcb926e008f4dee6aade14ddabbad3998f8e4b07b4d6"), looks := true }, kinds := [], alts := [], goes := true, laidByText := true, laidKinds := [.handle], laidTests := true, laidLooks := .later }
def MarkAllCardSaid : Prop := Claim7.holds Tryz.pinned (.plain (OpenSpec.ofChange markAllSpec)) markAllCard

/-- THE TIED CARD OF 'palfreylaw01.MarkMore'. -/
def markMoreCard : Claim7 := { stood := { row := markMoreRow, standIns := [], harness := (true, "1115a688e006e5ddc891bcb926e008f4dee6aade14ddabbad3998f8e4b07b4d6"), looks := true }, kinds := [], alts := [], goes := true, laidByText := true, laidKinds := [.handle], laidTests := true, laidLooks := .later }
def MarkMoreCardSaid : Prop := Claim7.holds Tryz.pinned (.plain (OpenSpec.ofChange markMoreSpec)) markMoreCard
end Rows
end Go.Proofs.YtalogdafegmilaaGreatDoor
