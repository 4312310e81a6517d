/- Verdict, Found and Arrival of a cry agree -/
import Derived.Test.YtkcceaplmgdnfaaGreatDoorCards
import Derived.Test.YtkcceaplmgdnfaaGreatDoorTie
import Derived.Test.YtkcceaplmgdnfaaGreatDoorV2
set_option linter.all false
namespace Go.Proofs.YtkcceaplmgdnfaaGreatDoor
open Go.Proofs.Tryz (prog)
open Go Go.cG Go.ChangeShapes Go.WideShapes Go.RowKit
set_option maxRecDepth 100000 in
theorem uq(os:Os)(started:os.Started)(H:Type)(enc:TypeId × Value->H)(F:Stop.Interp):
 ReturnsInLeavingWide Rows.cryVerdictRow.assume Tryz.checked os 7 .any (λw args=>(Rows.cryVerdictSpec.pre enc prog Tryz.f7 [] false w args/\laidMetH prog [("errors.errorType",Rows.laid_errors_errorType)] w)/\sizedMet enc prog Tryz.f7 (OpenSpec.ofChange Rows.cryVerdictSpec) false w args)
  ((OpenSpec.ofChange Rows.cryVerdictSpec).postWith enc prog Tryz.f7 F (outsideKept [.timePasses]) false true false):=by
 refine uP (C:=Tryz.checked) (X:=λw _=>laidMetH prog [("errors.errorType",Rows.laid_errors_errorType)] w) (λ_ _ _ c h=>h.of_heap c) LN started Tryz.func7
  (BR (enc:=enc) (C:=Tryz.checked) (os:=os) (X:=λw _=>laidMetH prog [("errors.errorType",Rows.laid_errors_errorType)] w) (Am os) #[.slice none 0 0] 8 rfl (by kernel_rfl) (by kernel_rfl) (by kernel_rfl) (by kernel_rfl) (by kernel_rfl) (zx os _)) ?_
 intro W base args ds gs before a d f _
 exact IN (C:=Tryz.checked) lay Tryz.func7 (by kernel_rfl) Tryz.params7 (t:=22) (e:=3) (tb:=4) Tryz.underlying22 Tryz.underlying3 (by kernel_rfl) (by kernel_rfl) (by kernel_rfl) Tryz.underlying4 rfl (abM (by kernel_rfl)) rfl (λ_=>rfl)
  (λb g=>zY rfl g λ_=>rfl) W base args ds gs before a d f
theorem zf:Rows.CryVerdictSaid:=
 OpenClaim.holds_of_wide_leaving_time 7 Tryz.f7 rfl rfl rfl rfl rfl rfl rfl ⟨rfl,rfl,rfl,rfl,rfl⟩ rfl rfl rfl rfl rfl (by kernel_rfl) Tryz.func7 (by kernel_rfl)
  (abM (by kernel_rfl)) (by unfold Func.isWrapper;first|(rw[aaB (by decide +kernel)];kernel_rfl)|(rw[aay (by decide +kernel)];exact⟨rfl,rfl⟩))
  (λos started H enc _ F=>uq os started H enc F)
theorem cryVerdict_card:Rows.CryVerdictCardSaid:=
 wy [.handle] true (true,"919e633fd0399a5782443ee8edd649b3545ac4bbac9db7728db8ea8f3a307293") true
  zf (by kernel_rfl) cryVerdict_row_tie rfl ⟨rfl,rfl⟩ (by kernel_rfl) rfl
  (fun f fn c a=>by
    obtain rfl:f=7:=aaS ((show prog.funcNamed  "palfrey/palfreylaw07.CryVerdict"=some 7 by kernel_rfl).symm.trans c)|>.symm
    obtain rfl:fn=Tryz.f7:=(aaS (Tryz.func7.symm.trans a)).symm
    exact⟨by kernel_rfl,λj t b=>by
     rw[Tryz.params7]at b
     have d:t=22:=by
      rcases j with _|j
      . simpa using b.symm
      . simp at b
     subst d;exact(show prog.wantsStandIn 22=false by kernel_rfl)⟩)
  (by kernel_rfl)
