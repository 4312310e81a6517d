/-
  DERIVED. GIVEN WITH THE SEED: THE CARDS: each row of YtkcceaplmgdnfaaGreatDoorRows.lean that lists a variable, with what it lists TIED to the program's text (the seventh form; the later family's looks); each row that meets fmt, with fmt's text TOLD by the authors' own Lean function (tested against real Go, not proved from fmt's source: count such statements apart). THE CARD IS WHAT COUNTS. Prove the row's statement (the work); the ties are given (YtkcceaplmgdnfaaGreatDoorTie.lean); close each card by the builder's one call (the guide's Derived/Test/ToyasCard.lean, 'card_holds'). Laid BY PROGRAM, IN A SANDBOX (cutbox-door.mjs). By AI agents, Wed Nov 11 2026. No macro, syntax, notation, axiom, sorry.
-/
import Derived.Test.YtkcceaplmgdnfaaGreatDoorRows
import GoSem.ClaimSeven
namespace Go.Proofs.YtkcceaplmgdnfaaGreatDoor
namespace Rows

/-- THE TIED CARD OF 'palfreylaw07.CryNeeded'. -/
def cryNeededCard : Claim7 := { stood := { row := cryNeededRow, standIns := [], harness := (true, "919e633fd0399a5782443ee8edd649b3545ac4bbac9db7728db8ea8f3a307293"), looks := true }, kinds := [], alts := [], goes := true, laidByText := true, laidKinds := [.handle], laidTests := true, laidLooks := .later }
def CryNeededCardSaid : Prop := Claim7.holds Tryz.pinned (.plain (OpenSpec.ofChange cryNeededSpec)) cryNeededCard

/-- THE TIED CARD OF 'palfreylaw07.CryFaster'. -/
def cryFasterCard : Claim7 := { stood := { row := cryFasterRow, standIns := [], harness := (true, "919e633fd0399a5782443ee8edd649b3545ac4bbac9db7728db8ea8f3a307293"), looks := true }, kinds := [], alts := [], goes := true, laidByText := true, laidKinds := [.handle], laidTests := true, laidLooks := .later }
def CryFasterCardSaid : Prop := Claim7.holds Tryz.pinned (.plain (OpenSpec.ofChange cryFasterSpec)) cryFasterCard

/-- THE TIED CARD OF 'palfreylaw07.CrySpan'. -/
def crySpanCard : Claim7 := { stood := { row := crySpanRow, standIns := [], harness := (true, "919e633fd0399a5782443ee8edd649b3545ac4bbac9db7728db8ea8f3a307293"), looks := true }, kinds := [], alts := [], goes := true, laidByText := true, laidKinds := [.handle], laidTests := true, laidLooks := .later }
def CrySpanCardSaid : Prop := Claim7.holds Tryz.pinned (.plain (OpenSpec.ofChange crySpanSpec)) crySpanCard

/-- THE TIED CARD OF 'palfreylaw07.CryHeld'. -/
def cryHeldCard : Claim7 := { stood := { row := cryHeldRow, standIns := [], harness := (true, "919e633fd0399a5782443ee8edd649b3545ac4bbac9db7728db8ea8f3a307293"), looks := true }, kinds := [], alts := [], goes := true, laidByText := true, laidKinds := [.handle], laidTests := true, laidLooks := .later }
def CryHeldCardSaid : Prop := Claim7.holds Tryz.pinned (.plain (OpenSpec.ofChange cryHeldSpec)) cryHeldCard

/-- THE TIED CARD OF 'palfreylaw07.CryVerdict'. -/
def cryVerdictCard : Claim7 := { stood := { row := cryVerdictRow, standIns := [], harness := (true, "919e633fd0399a5782443ee8edd649b3545ac4bbac9db7728db8ea8f3a307293"), looks := true }, kinds := [], alts := [], goes := true, laidByText := true, laidKinds := [.handle], laidTests := true, laidLooks := .later }
def CryVerdictCardSaid : Prop := Claim7.holds Tryz.pinned (.plain (OpenSpec.ofChange cryVerdictSpec)) cryVerdictCard

/-- THE TIED CARD OF 'palfreylaw07.CryKnown'. -/
def cryKnownCard : Claim7 := { stood := { row := cryKnownRow, standIns := [], harness := (true, "919e633fd0399a5782443ee8edd649b3545ac4bbac9db7728db8ea8f3a307293"), looks := true }, kinds := [], alts := [], goes := true, laidByText := true, laidKinds := [.handle], laidTests := true, laidLooks := .later }
def CryKnownCardSaid : Prop := Claim7.holds Tryz.pinned (.plain (OpenSpec.ofChange cryKnownSpec)) cryKnownCard
end Rows
end Go.Proofs.YtkcceaplmgdnfaaGreatDoor
