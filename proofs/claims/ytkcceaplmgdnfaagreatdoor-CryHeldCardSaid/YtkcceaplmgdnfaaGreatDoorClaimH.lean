/- A horse is held just if there is a reason why -/
import Derived.Test.YtkcceaplmgdnfaaGreatDoorCards
import Derived.Test.YtkcceaplmgdnfaaGreatDoorTie
import Derived.Test.YtkcceaplmgdnfaaGreatDoorH2
set_option linter.all false
namespace Go.Proofs.YtkcceaplmgdnfaaGreatDoor
open Go.Proofs.Tryz (prog)
open Go Go.cz Go.ChangeShapes Go.WideShapes Go.RowKit
set_option maxRecDepth 100000 in
theorem zc  os  (started:os.Started)  H  (enc:TypeId × Value->H)  F :
 ReturnsInLeavingWide Rows.cryHeldRow.assume Tryz.checked os 6 .any (λw args=>(Rows.cryHeldSpec.pre enc prog Tryz.f6 [] false w args/\laidMetH prog [("errors.errorType",Rows.laid_errors_errorType)] w)/\sizedMet enc prog Tryz.f6 (OpenSpec.ofChange Rows.cryHeldSpec) false w args)
  ((OpenSpec.ofChange Rows.cryHeldSpec).postWith enc prog Tryz.f6 F (outsideKept [.timePasses]) false true false):=by
 refine uv (C:=Tryz.checked) (X:=λw _=>laidMetH prog [("errors.errorType",Rows.laid_errors_errorType)] w) (λ_ _ _ c h=>h.of_heap c) LR started Tryz.func6
  (BR (enc:=enc) (C:=Tryz.checked) (os:=os) (X:=λw _=>laidMetH prog [("errors.errorType",Rows.laid_errors_errorType)] w) (Ai os) #[.slice none 0 0] 8 rfl (by kernel_rfl) (by kernel_rfl) (by kernel_rfl) (by kernel_rfl) (by kernel_rfl) (zv os _)) ?_
 intro W base args ds gs before a d f _
 exact IP (C:=Tryz.checked) lay Tryz.func6 (by kernel_rfl) Tryz.params6 (t:=22) (e:=3) (tb:=4) Tryz.underlying22 Tryz.underlying3 (by kernel_rfl) (by kernel_rfl) (by kernel_rfl) Tryz.underlying4 rfl (abV (by kernel_rfl)) rfl (λ_=>rfl)
  (λb g=>Hb rfl g λ_=>rfl) W base args ds gs before a d f
theorem Fa:Rows.CryHeldSaid:=
 OpenClaim.holds_of_wide_leaving_time 6 Tryz.f6 rfl rfl rfl rfl rfl rfl rfl ⟨rfl,rfl,rfl,rfl,rfl⟩ rfl rfl rfl rfl rfl (by kernel_rfl) Tryz.func6 (by kernel_rfl)
  (abV (by kernel_rfl)) (by unfold Func.isWrapper;first|(rw[aaK (by decide +kernel)];kernel_rfl)|(rw[aaJ (by decide +kernel)];exact⟨rfl,rfl⟩))
  (λos started H enc _ F=>zc os started H enc F)
theorem cryHeld_card:Rows.CryHeldCardSaid:=
 vQ [.handle] true (true,"919e633fd0399a5782443ee8edd649b3545ac4bbac9db7728db8ea8f3a307293") true
  Fa (by kernel_rfl) cryHeld_row_tie rfl ⟨rfl,rfl⟩ (by kernel_rfl) rfl
  (fun f fn c a=>by
    obtain rfl:f=6:=abd ((show prog.funcNamed  "palfrey/palfreylaw07.CryHeld"=some 6 by kernel_rfl).symm.trans c)|>.symm
    obtain rfl:fn=Tryz.f6:=(abd (Tryz.func6.symm.trans a)).symm
    exact⟨by kernel_rfl,λj t b=>by
     rw[Tryz.params6]at b
     have d:t=22:=by
      rcases j with _|j
      . simpa using b.symm
      . simp at b
     subst d;exact(show prog.wantsStandIn 22=false by kernel_rfl)⟩)
  (by kernel_rfl)
