/- The law TopFound. -/
import Derived.Test.YtabmephejpgigaaGreatDoorCards
import Derived.Test.YtabmephejpgigaaGreatDoorTie
import Derived.Test.YtabmephejpgigaaGreatDoorT2
set_option linter.all false
namespace Go.Proofs.YtabmephejpgigaaGreatDoor
open Go.Proofs.Tryz (prog)
open Go Go.cr Go.ChangeShapes Go.WideShapes Go.RowKit
set_option maxRecDepth 100000 in
theorem va(os:Os)(started:os.Started)(H:Type)(enc:TypeId × Value->H)(F:Stop.Interp):
 ReturnsInLeavingWide Rows.topFoundRow.assume Tryz.checked os 3 .any (λw args=>(Rows.topFoundSpec.pre enc prog Tryz.f3 [] false w args/\laidMetH prog [("errors.errorType",Rows.laid_errors_errorType)] w)/\sizedMet enc prog Tryz.f3 (OpenSpec.ofChange Rows.topFoundSpec) false w args)
  ((OpenSpec.ofChange Rows.topFoundSpec).postWith enc prog Tryz.f3 F (outsideKept [.timePasses]) false true false):=by
 refine tu (C:=Tryz.checked) (X:=λw _=>laidMetH prog [("errors.errorType",Rows.laid_errors_errorType)] w) (λ_ _ _ c h=>h.of_heap c) JK started Tryz.func3
  (AA (enc:=enc) (C:=Tryz.checked) (os:=os) (X:=λw _=>laidMetH prog [("errors.errorType",Rows.laid_errors_errorType)] w) (yU os) #[.slice none 0 0] 8 rfl (by kernel_rfl) (by kernel_rfl) (by kernel_rfl) (by kernel_rfl) (by kernel_rfl) (ym os _)) ?_
 intro W base args ds gs before a d f _
 exact GV (C:=Tryz.checked) lay Tryz.func3 (by kernel_rfl) Tryz.params3 (t:=22) (e:=3) (tb:=4) Tryz.underlying22 Tryz.underlying3 (by kernel_rfl) (by kernel_rfl) (by kernel_rfl) Tryz.underlying4 rfl (ZO (by kernel_rfl)) rfl (λ_=>rfl)
  (λb g=>Du rfl g λ_=>rfl) W base args ds gs before a d f
theorem Bq:Rows.TopFoundSaid:=
 OpenClaim.holds_of_wide_leaving_time 3 Tryz.f3 rfl rfl rfl rfl rfl rfl rfl ⟨rfl,rfl,rfl,rfl,rfl⟩ rfl rfl rfl rfl rfl (by kernel_rfl) Tryz.func3 (by kernel_rfl)
  (ZO (by kernel_rfl)) (by unfold Func.isWrapper;first|(rw[YG (by decide +kernel)];kernel_rfl)|(rw[YA (by decide +kernel)];exact⟨rfl,rfl⟩))
  (λos started H enc _ F=>va os started H enc F)
theorem topFound_card:Rows.TopFoundCardSaid:=
 uW [.handle] true (true,"67c5b28e4e3524cb250272719dd3477384a821705b3e13e1f06a8f03f229b7a3") true
  Bq (by kernel_rfl) topFound_row_tie rfl ⟨rfl,rfl⟩ (by kernel_rfl) rfl
  (fun f fn c a=>by
    obtain rfl:f=3:=YX ((show prog.funcNamed  "palfrey/palfreytop.TopFound"=some 3 by kernel_rfl).symm.trans c)|>.symm
    obtain rfl:fn=Tryz.f3:=(YX (Tryz.func3.symm.trans a)).symm
    exact⟨by kernel_rfl,λj t b=>by
     rw[Tryz.params3]at b
     have d:t=22:=by
      rcases j with _|j
      . simpa using b.symm
      . simp at b
     subst d;exact(show prog.wantsStandIn 22=false by kernel_rfl)⟩)
  (by kernel_rfl)
