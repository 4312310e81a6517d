/- The law CryTrue. -/
import Derived.Test.YtebcbkhnlnkolaaGreatDoorCards
import Derived.Test.YtebcbkhnlnkolaaGreatDoorTie
import Derived.Test.YtebcbkhnlnkolaaGreatDoorU2
set_option linter.all false
namespace Go.Proofs.YtebcbkhnlnkolaaGreatDoor
open Go.Proofs.Tryz (prog)
open Go Go.cE Go.ChangeShapes Go.WideShapes Go.RowKit
set_option maxRecDepth 100000 in
theorem yW(os:Os)(started:os.Started)(H:Type)(enc:TypeId × Value->H)(F:Stop.Interp):
 ReturnsInLeavingWide Rows.cryTrueRow.assume Tryz.checked os 9 .any (λw args=>(Rows.cryTrueSpec.pre enc prog Tryz.f9 [] false w args/\laidMetH prog [("errors.errorType",Rows.laid_errors_errorType)] w)/\sizedMet enc prog Tryz.f9 (OpenSpec.ofChange Rows.cryTrueSpec) false w args)
  ((OpenSpec.ofChange Rows.cryTrueSpec).postWith enc prog Tryz.f9 F (outsideKept [.timePasses]) false true false):=by
 refine uK (C:=Tryz.checked) (X:=λw _=>laidMetH prog [("errors.errorType",Rows.laid_errors_errorType)] w) (λ_ _ _ c h=>h.of_heap c) Lz started Tryz.func9
  (BH (enc:=enc) (C:=Tryz.checked) (os:=os) (X:=λw _=>laidMetH prog [("errors.errorType",Rows.laid_errors_errorType)] w) (Ab os) #[.slice none 0 0] 8 rfl (by kernel_rfl) (by kernel_rfl) (by kernel_rfl) (by kernel_rfl) (by kernel_rfl) (zo os _)) ?_
 intro W base args ds gs before a d f _
 exact IC (C:=Tryz.checked) lay Tryz.func9 (by kernel_rfl) Tryz.params9 (t:=22) (e:=3) (tb:=4) Tryz.underlying22 Tryz.underlying3 (by kernel_rfl) (by kernel_rfl) (by kernel_rfl) Tryz.underlying4 rfl (abB (by kernel_rfl)) rfl (λ_=>rfl)
  (λb g=>G1 rfl g λ_=>rfl) W base args ds gs before a d f
theorem E4:Rows.CryTrueSaid:=
 OpenClaim.holds_of_wide_leaving_time 9 Tryz.f9 rfl rfl rfl rfl rfl rfl rfl ⟨rfl,rfl,rfl,rfl,rfl⟩ rfl rfl rfl rfl rfl (by kernel_rfl) Tryz.func9 (by kernel_rfl)
  (abB (by kernel_rfl)) (by unfold Func.isWrapper;first|(rw[aal (by decide +kernel)];kernel_rfl)|(rw[aaj (by decide +kernel)];exact⟨rfl,rfl⟩))
  (λos started H enc _ F=>yW os started H enc F)
theorem cryTrue_card:Rows.CryTrueCardSaid:=
 v8 [.handle] true (true,"50b66bdc54034c77c0585ee8934abba47c6085c2fb6bac4e3a81bcf04bbff935") true
  E4 (by kernel_rfl) cryTrue_row_tie rfl ⟨rfl,rfl⟩ (by kernel_rfl) rfl
  (fun f fn c a=>by
    obtain rfl:f=9:=aaF ((show prog.funcNamed  "palfrey/palfreylaw07.CryTrue"=some 9 by kernel_rfl).symm.trans c)|>.symm
    obtain rfl:fn=Tryz.f9:=(aaF (Tryz.func9.symm.trans a)).symm
    exact⟨by kernel_rfl,λj t b=>by
     rw[Tryz.params9]at b
     have d:t=22:=by
      rcases j with _|j
      . simpa using b.symm
      . simp at b
     subst d;exact(show prog.wantsStandIn 22=false by kernel_rfl)⟩)
  (by kernel_rfl)
