/- The law CryAlone. -/
import Derived.Test.YtebcbkhnlnkolaaGreatDoorCards
import Derived.Test.YtebcbkhnlnkolaaGreatDoorTie
import Derived.Test.YtebcbkhnlnkolaaGreatDoorA4
set_option linter.all false
namespace Go.Proofs.YtebcbkhnlnkolaaGreatDoor
open Go.Proofs.Tryz (prog)
open Go Go.bN Go.ChangeShapes Go.WideShapes Go.RowKit
set_option maxRecDepth 100000 in
theorem yx(os:Os)(started:os.Started)(H:Type)(enc:TypeId × Value->H)(F:Stop.Interp):
 ReturnsInLeavingWide Rows.cryAloneRow.assume Tryz.checked os 6 .any (λw args=>(Rows.cryAloneSpec.pre enc prog Tryz.f6 [] false w args/\laidMetH prog [("errors.errorType",Rows.laid_errors_errorType)] w)/\sizedMet enc prog Tryz.f6 (OpenSpec.ofChange Rows.cryAloneSpec) false w args)
  ((OpenSpec.ofChange Rows.cryAloneSpec).postWith enc prog Tryz.f6 F (outsideKept [.timePasses]) false true false):=by
 refine gz (C:=Tryz.checked) (X:=λw _=>laidMetH prog [("errors.errorType",Rows.laid_errors_errorType)] w) (λ_ _ _ c h=>h.of_heap c) sm started Tryz.func6
  (kG (enc:=enc) (C:=Tryz.checked) (os:=os) (X:=λw _=>laidMetH prog [("errors.errorType",Rows.laid_errors_errorType)] w) (kh os) #[.slice none 0 0] 8 rfl (by kernel_rfl) (by kernel_rfl) (by kernel_rfl) (by kernel_rfl) (by kernel_rfl) (jC os _)) ?_
 intro W base args ds gs before a d f _
 exact pU (C:=Tryz.checked) lay Tryz.func6 (by kernel_rfl) Tryz.params6 (t:=22) (e:=3) (tb:=4) Tryz.underlying22 Tryz.underlying3 (by kernel_rfl) (by kernel_rfl) (by kernel_rfl) Tryz.underlying4 rfl (adk (by kernel_rfl)) rfl (λ_=>rfl)
  (λb g=>Ft rfl g λ_=>rfl) W base args ds gs before a d f
theorem Fc:Rows.CryAloneSaid:=
 OpenClaim.holds_of_wide_leaving_time 6 Tryz.f6 rfl rfl rfl rfl rfl rfl rfl ⟨rfl,rfl,rfl,rfl,rfl⟩ rfl rfl rfl rfl rfl (by kernel_rfl) Tryz.func6 (by kernel_rfl)
  (adk (by kernel_rfl)) (by unfold Func.isWrapper;first|(rw[Rp (by decide +kernel)];kernel_rfl)|(rw[KD (by decide +kernel)];exact⟨rfl,rfl⟩))
  (λos started H enc _ F=>yx os started H enc F)
theorem cryAlone_card:Rows.CryAloneCardSaid:=
 iq [.handle] true (true,"50b66bdc54034c77c0585ee8934abba47c6085c2fb6bac4e3a81bcf04bbff935") true
  Fc (by kernel_rfl) cryAlone_row_tie rfl ⟨rfl,rfl⟩ (by kernel_rfl) rfl
  (fun f fn c a=>by
    obtain rfl:f=6:=aax ((show prog.funcNamed  "palfrey/palfreylaw07.CryAlone"=some 6 by kernel_rfl).symm.trans c)|>.symm
    obtain rfl:fn=Tryz.f6:=(aax (Tryz.func6.symm.trans a)).symm
    exact⟨by kernel_rfl,λj t b=>by
     rw[Tryz.params6]at b
     have d:t=22:=by
      rcases j with _|j
      . simpa using b.symm
      . simp at b
     subst d;exact(show prog.wantsStandIn 22=false by kernel_rfl)⟩)
  (by kernel_rfl)
