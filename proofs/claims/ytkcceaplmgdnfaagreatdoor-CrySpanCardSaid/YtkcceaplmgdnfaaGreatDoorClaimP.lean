/- Spans has just the hours at which Held has the horse -/
import Derived.Test.YtkcceaplmgdnfaaGreatDoorCards
import Derived.Test.YtkcceaplmgdnfaaGreatDoorTie
import Derived.Test.YtkcceaplmgdnfaaGreatDoorP2
set_option linter.all false
namespace Go.Proofs.YtkcceaplmgdnfaaGreatDoor
open Go.Proofs.Tryz (prog)
open Go Go.cz Go.ChangeShapes Go.WideShapes Go.RowKit
set_option maxRecDepth 100000 in
theorem yu(os:Os)(started:os.Started)(H:Type)(enc:TypeId × Value->H)(F:Stop.Interp):
 ReturnsInLeavingWide Rows.crySpanRow.assume Tryz.checked os 5 .any (λw args=>(Rows.crySpanSpec.pre enc prog Tryz.f5 [] false w args/\laidMetH prog [("errors.errorType",Rows.laid_errors_errorType)] w)/\sizedMet enc prog Tryz.f5 (OpenSpec.ofChange Rows.crySpanSpec) false w args)
  ((OpenSpec.ofChange Rows.crySpanSpec).postWith enc prog Tryz.f5 F (outsideKept [.timePasses]) false true false):=by
 refine tX (C:=Tryz.checked) (X:=λw _=>laidMetH prog [("errors.errorType",Rows.laid_errors_errorType)] w) (λ_ _ _ c h=>h.of_heap c) KB started Tryz.func5
  (Bb (enc:=enc) (C:=Tryz.checked) (os:=os) (X:=λw _=>laidMetH prog [("errors.errorType",Rows.laid_errors_errorType)] w) (zw os) #[.slice none 0 0] 8 rfl (by kernel_rfl) (by kernel_rfl) (by kernel_rfl) (by kernel_rfl) (by kernel_rfl) (yI os _)) ?_
 intro W base args ds gs before a d f _
 exact HQ (C:=Tryz.checked) lay Tryz.func5 (by kernel_rfl) Tryz.params5 (t:=22) (e:=3) (tb:=4) Tryz.underlying22 Tryz.underlying3 (by kernel_rfl) (by kernel_rfl) (by kernel_rfl) Tryz.underlying4 rfl (abh (by kernel_rfl)) rfl (λ_=>rfl)
  (λb g=>CS.F9 rfl g λ_=>rfl) W base args ds gs before a d f
theorem Ej:Rows.CrySpanSaid:=
 OpenClaim.holds_of_wide_leaving_time 5 Tryz.f5 rfl rfl rfl rfl rfl rfl rfl ⟨rfl,rfl,rfl,rfl,rfl⟩ rfl rfl rfl rfl rfl (by kernel_rfl) Tryz.func5 (by kernel_rfl)
  (abh (by kernel_rfl)) (by unfold Func.isWrapper;first|(rw[ZG (by decide +kernel)];kernel_rfl)|(rw[ZB (by decide +kernel)];exact⟨rfl,rfl⟩))
  (λos started H enc _ F=>yu os started H enc F)
theorem crySpan_card:Rows.CrySpanCardSaid:=
 vu [.handle] true (true,"919e633fd0399a5782443ee8edd649b3545ac4bbac9db7728db8ea8f3a307293") true
  Ej (by kernel_rfl) crySpan_row_tie rfl ⟨rfl,rfl⟩ (by kernel_rfl) rfl
  (fun f fn c a=>by
    obtain rfl:f=5:=ZR ((show prog.funcNamed  "palfrey/palfreylaw07.CrySpan"=some 5 by kernel_rfl).symm.trans c)|>.symm
    obtain rfl:fn=Tryz.f5:=(ZR (Tryz.func5.symm.trans a)).symm
    exact⟨by kernel_rfl,λj t b=>by
     rw[Tryz.params5]at b
     have d:t=22:=by
      rcases j with _|j
      . simpa using b.symm
      . simp at b
     subst d;exact(show prog.wantsStandIn 22=false by kernel_rfl)⟩)
  (by kernel_rfl)
