/- If ways are faster or one is more, no cry comes later -/
import Derived.Test.YtkcceaplmgdnfaaGreatDoorCards
import Derived.Test.YtkcceaplmgdnfaaGreatDoorTie
import Derived.Test.YtkcceaplmgdnfaaGreatDoorF2
set_option linter.all false
namespace Go.Proofs.YtkcceaplmgdnfaaGreatDoor
open Go.Proofs.Tryz (prog)
open Go Go.cC Go.ChangeShapes Go.WideShapes Go.RowKit
set_option maxRecDepth 100000 in
theorem uy  os  (started:os.Started)  H  (enc:TypeId × Value->H)  F :
 ReturnsInLeavingWide Rows.cryFasterRow.assume Tryz.checked os 4 .any (λw args=>(Rows.cryFasterSpec.pre enc prog Tryz.f4 [] false w args/\laidMetH prog [("errors.errorType",Rows.laid_errors_errorType)] w)/\sizedMet enc prog Tryz.f4 (OpenSpec.ofChange Rows.cryFasterSpec) false w args)
  ((OpenSpec.ofChange Rows.cryFasterSpec).postWith enc prog Tryz.f4 F (outsideKept [.timePasses]) false true false):=by
 refine tL (C:=Tryz.checked) (X:=λw _=>laidMetH prog [("errors.errorType",Rows.laid_errors_errorType)] w) (λ_ _ _ c h=>h.of_heap c) KQ started Tryz.func4
  (Bi (enc:=enc) (C:=Tryz.checked) (os:=os) (X:=λw _=>laidMetH prog [("errors.errorType",Rows.laid_errors_errorType)] w) (zJ os) #[.slice none 0 0] 8 rfl (by kernel_rfl) (by kernel_rfl) (by kernel_rfl) (by kernel_rfl) (by kernel_rfl) (yQ os _)) ?_
 intro W base args ds gs before a d f _
 exact HX (C:=Tryz.checked) lay Tryz.func4 (by kernel_rfl) Tryz.params4 (t:=22) (e:=3) (tb:=4) Tryz.underlying22 Tryz.underlying3 (by kernel_rfl) (by kernel_rfl) (by kernel_rfl) Tryz.underlying4 rfl (abu (by kernel_rfl)) rfl (λ_=>rfl)
  (λb g=>B6 rfl g λ_=>rfl) W base args ds gs before a d f
theorem zh:Rows.CryFasterSaid:=
 OpenClaim.holds_of_wide_leaving_time 4 Tryz.f4 rfl rfl rfl rfl rfl rfl rfl ⟨rfl,rfl,rfl,rfl,rfl⟩ rfl rfl rfl rfl rfl (by kernel_rfl) Tryz.func4 (by kernel_rfl)
  (abu (by kernel_rfl)) (by unfold Func.isWrapper;first|(rw[ZS (by decide +kernel)];kernel_rfl)|(rw[ZM (by decide +kernel)];exact⟨rfl,rfl⟩))
  (λos started H enc _ F=>uy os started H enc F)
theorem cryFaster_card:Rows.CryFasterCardSaid:=
 vu [.handle] true (true,"919e633fd0399a5782443ee8edd649b3545ac4bbac9db7728db8ea8f3a307293") true
  zh (by kernel_rfl) cryFaster_row_tie rfl ⟨rfl,rfl⟩ (by kernel_rfl) rfl
  (fun f fn c a=>by
    obtain rfl:f=4:=aag ((show prog.funcNamed  "palfrey/palfreylaw07.CryFaster"=some 4 by kernel_rfl).symm.trans c)|>.symm
    obtain rfl:fn=Tryz.f4:=(aag (Tryz.func4.symm.trans a)).symm
    exact⟨by kernel_rfl,λj t b=>by
     rw[Tryz.params4]at b
     have d:t=22:=by
      rcases j with _|j
      . simpa using b.symm
      . simp at b
     subst d;exact(show prog.wantsStandIn 22=false by kernel_rfl)⟩)
  (by kernel_rfl)
