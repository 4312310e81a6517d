/- The needed cries alone leave the same horses held -/
import Derived.Test.YtkcceaplmgdnfaaGreatDoorCards
import Derived.Test.YtkcceaplmgdnfaaGreatDoorTie
import Derived.Test.YtkcceaplmgdnfaaGreatDoorN2
set_option linter.all false
namespace Go.Proofs.YtkcceaplmgdnfaaGreatDoor
open Go.Proofs.Tryz (prog)
open Go Go.bQ Go.ChangeShapes Go.WideShapes Go.RowKit
set_option maxRecDepth 100000 in
theorem uL(os:Os)(started:os.Started)(H:Type)(enc:TypeId × Value->H)(F:Stop.Interp):
 ReturnsInLeavingWide Rows.cryNeededRow.assume Tryz.checked os 3 .any (λw args=>(Rows.cryNeededSpec.pre enc prog Tryz.f3 [] false w args/\laidMetH prog [("errors.errorType",Rows.laid_errors_errorType)] w)/\sizedMet enc prog Tryz.f3 (OpenSpec.ofChange Rows.cryNeededSpec) false w args)
  ((OpenSpec.ofChange Rows.cryNeededSpec).postWith enc prog Tryz.f3 F (outsideKept [.timePasses]) false true false):=by
 refine tQ (C:=Tryz.checked) (X:=λw _=>laidMetH prog [("errors.errorType",Rows.laid_errors_errorType)] w) (λ_ _ _ c h=>h.of_heap c) Kh started Tryz.func3
  (Bc (enc:=enc) (C:=Tryz.checked) (os:=os) (X:=λw _=>laidMetH prog [("errors.errorType",Rows.laid_errors_errorType)] w) (zF os) #[.slice none 0 0] 8 rfl (by kernel_rfl) (by kernel_rfl) (by kernel_rfl) (by kernel_rfl) (by kernel_rfl) (yT os _)) ?_
 intro W base args ds gs before a d f _
 exact HI (C:=Tryz.checked) lay Tryz.func3 (by kernel_rfl) Tryz.params3 (t:=22) (e:=3) (tb:=4) Tryz.underlying22 Tryz.underlying3 (by kernel_rfl) (by kernel_rfl) (by kernel_rfl) Tryz.underlying4 rfl (of_decide_eq_true (by kernel_rfl)) rfl (λ_=>rfl)
  (λb g=>Cc rfl g λ_=>rfl) W base args ds gs before a d f
theorem zt:Rows.CryNeededSaid:=
 OpenClaim.holds_of_wide_leaving_time 3 Tryz.f3 rfl rfl rfl rfl rfl rfl rfl ⟨rfl,rfl,rfl,rfl,rfl⟩ rfl rfl rfl rfl rfl (by kernel_rfl) Tryz.func3 (by kernel_rfl)
  (of_decide_eq_true (by kernel_rfl)) (by unfold Func.isWrapper;first|(rw[if_pos (by decide +kernel)];kernel_rfl)|(rw[if_neg (by decide +kernel)];exact⟨rfl,rfl⟩))
  (λos started H enc _ F=>uL os started H enc F)
theorem cryNeeded_card:Rows.CryNeededCardSaid:=
 vB [.handle] true (true,"919e633fd0399a5782443ee8edd649b3545ac4bbac9db7728db8ea8f3a307293") true
  zt (by kernel_rfl) cryNeeded_row_tie rfl ⟨rfl,rfl⟩ (by kernel_rfl) rfl
  (fun f fn c a=>by
    obtain rfl:f=3:=ZM ((show prog.funcNamed  "palfrey/palfreylaw07.CryNeeded"=some 3 by kernel_rfl).symm.trans c)|>.symm
    obtain rfl:fn=Tryz.f3:=(ZM (Tryz.func3.symm.trans a)).symm
    exact⟨by kernel_rfl,λj t b=>by
     rw[Tryz.params3]at b
     have d:t=22:=by
      rcases j with _|j
      . simpa using b.symm
      . simp at b
     subst d;exact(show prog.wantsStandIn 22=false by kernel_rfl)⟩)
  (by kernel_rfl)
