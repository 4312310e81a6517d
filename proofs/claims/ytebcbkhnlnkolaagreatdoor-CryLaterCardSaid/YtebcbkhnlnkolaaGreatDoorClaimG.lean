/- The law CryLater. -/
import Derived.Test.YtebcbkhnlnkolaaGreatDoorCards
import Derived.Test.YtebcbkhnlnkolaaGreatDoorTie
import Derived.Test.YtebcbkhnlnkolaaGreatDoorG2
set_option linter.all false
namespace Go.Proofs.YtebcbkhnlnkolaaGreatDoor
open Go.Proofs.Tryz (prog)
open Go Go.ck Go.ChangeShapes Go.WideShapes Go.RowKit
set_option maxRecDepth 100000 in
theorem wT(os:Os)(started:os.Started)(H:Type)(enc:TypeId × Value->H)(F:Stop.Interp):
 ReturnsInLeavingWide Rows.cryLaterRow.assume Tryz.checked os 3 .any (λw args=>(Rows.cryLaterSpec.pre enc prog Tryz.f3 [] false w args/\laidMetH prog [("errors.errorType",Rows.laid_errors_errorType)] w)/\sizedMet enc prog Tryz.f3 (OpenSpec.ofChange Rows.cryLaterSpec) false w args)
  ((OpenSpec.ofChange Rows.cryLaterSpec).postWith enc prog Tryz.f3 F (outsideKept [.timePasses]) false true false):=by
 refine uU (C:=Tryz.checked) (X:=λw _=>laidMetH prog [("errors.errorType",Rows.laid_errors_errorType)] w) (λ_ _ _ c h=>h.of_heap c) MF started Tryz.func3
  (Cn (enc:=enc) (C:=Tryz.checked) (os:=os) (X:=λw _=>laidMetH prog [("errors.errorType",Rows.laid_errors_errorType)] w) (AY os) #[.slice none 0 0] 8 rfl (by kernel_rfl) (by kernel_rfl) (by kernel_rfl) (by kernel_rfl) (by kernel_rfl) (Ag os _)) ?_
 intro W base args ds gs before a d f _
 exact Jw (C:=Tryz.checked) lay Tryz.func3 (by kernel_rfl) Tryz.params3 (t:=22) (e:=3) (tb:=4) Tryz.underlying22 Tryz.underlying3 (by kernel_rfl) (by kernel_rfl) (by kernel_rfl) Tryz.underlying4 rfl (acL (by kernel_rfl)) rfl (λ_=>rfl)
  (λb g=>CL.FP rfl g λ_=>rfl) W base args ds gs before a d f
theorem Dk:Rows.CryLaterSaid:=
 OpenClaim.holds_of_wide_leaving_time 3 Tryz.f3 rfl rfl rfl rfl rfl rfl rfl ⟨rfl,rfl,rfl,rfl,rfl⟩ rfl rfl rfl rfl rfl (by kernel_rfl) Tryz.func3 (by kernel_rfl)
  (acL (by kernel_rfl)) (by unfold Func.isWrapper;first|(rw[zR (by decide +kernel)];kernel_rfl)|(rw[zA (by decide +kernel)];exact⟨rfl,rfl⟩))
  (λos started H enc _ F=>wT os started H enc F)
theorem cryLater_card:Rows.CryLaterCardSaid:=
 wM [.handle] true (true,"50b66bdc54034c77c0585ee8934abba47c6085c2fb6bac4e3a81bcf04bbff935") true
  Dk (by kernel_rfl) cryLater_row_tie rfl ⟨rfl,rfl⟩ (by kernel_rfl) rfl
  (fun f fn c a=>by
    obtain rfl:f=3:=abt ((show prog.funcNamed  "palfrey/palfreylaw07.CryLater"=some 3 by kernel_rfl).symm.trans c)|>.symm
    obtain rfl:fn=Tryz.f3:=(abt (Tryz.func3.symm.trans a)).symm
    exact⟨by kernel_rfl,λj t b=>by
     rw[Tryz.params3]at b
     have d:t=22:=by
      rcases j with _|j
      . simpa using b.symm
      . simp at b
     subst d;exact(show prog.wantsStandIn 22=false by kernel_rfl)⟩)
  (by kernel_rfl)
