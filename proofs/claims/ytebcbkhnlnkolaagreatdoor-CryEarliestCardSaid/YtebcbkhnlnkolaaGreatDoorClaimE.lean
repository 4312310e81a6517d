/- The law CryEarliest. -/
import Derived.Test.YtebcbkhnlnkolaaGreatDoorCards
import Derived.Test.YtebcbkhnlnkolaaGreatDoorTie
import Derived.Test.YtebcbkhnlnkolaaGreatDoorE6
set_option linter.all false
namespace Go.Proofs.YtebcbkhnlnkolaaGreatDoor
open Go.Proofs.Tryz (prog)
open Go Go.bN Go.ChangeShapes Go.WideShapes Go.RowKit
set_option maxRecDepth 100000 in
theorem uL(os:Os)(started:os.Started)(H:Type)(enc:TypeId × Value->H)(F:Stop.Interp):
 ReturnsInLeavingWide Rows.cryEarliestRow.assume Tryz.checked os 7 .any (λw args=>(Rows.cryEarliestSpec.pre enc prog Tryz.f7 [] false w args/\laidMetH prog [("errors.errorType",Rows.laid_errors_errorType)] w)/\sizedMet enc prog Tryz.f7 (OpenSpec.ofChange Rows.cryEarliestSpec) false w args)
  ((OpenSpec.ofChange Rows.cryEarliestSpec).postWith enc prog Tryz.f7 F (outsideKept [.timePasses]) false true false):=by
 refine gz (C:=Tryz.checked) (X:=λw _=>laidMetH prog [("errors.errorType",Rows.laid_errors_errorType)] w) (λ_ _ _ c h=>h.of_heap c) sm started Tryz.func7
  (kG (enc:=enc) (C:=Tryz.checked) (os:=os) (X:=λw _=>laidMetH prog [("errors.errorType",Rows.laid_errors_errorType)] w) (kh os) #[.slice none 0 0] 8 rfl (by kernel_rfl) (by kernel_rfl) (by kernel_rfl) (by kernel_rfl) (by kernel_rfl) (jC os _)) ?_
 intro W base args ds gs before a d f _
 exact pU (C:=Tryz.checked) lay Tryz.func7 (by kernel_rfl) Tryz.params7 (t:=22) (e:=3) (tb:=4) Tryz.underlying22 Tryz.underlying3 (by kernel_rfl) (by kernel_rfl) (by kernel_rfl) Tryz.underlying4 rfl (adk (by kernel_rfl)) rfl (λ_=>rfl)
  (λb g=>Av rfl g λ_=>rfl) W base args ds gs before a d f
theorem yy:Rows.CryEarliestSaid:=
 OpenClaim.holds_of_wide_leaving_time 7 Tryz.f7 rfl rfl rfl rfl rfl rfl rfl ⟨rfl,rfl,rfl,rfl,rfl⟩ rfl rfl rfl rfl rfl (by kernel_rfl) Tryz.func7 (by kernel_rfl)
  (adk (by kernel_rfl)) (by unfold Func.isWrapper;first|(rw[Rp (by decide +kernel)];kernel_rfl)|(rw[KD (by decide +kernel)];exact⟨rfl,rfl⟩))
  (λos started H enc _ F=>uL os started H enc F)
theorem cryEarliest_card:Rows.CryEarliestCardSaid:=
 iq [.handle] true (true,"50b66bdc54034c77c0585ee8934abba47c6085c2fb6bac4e3a81bcf04bbff935") true
  yy (by kernel_rfl) cryEarliest_row_tie rfl ⟨rfl,rfl⟩ (by kernel_rfl) rfl
  (fun f fn c a=>by
    obtain rfl:f=7:=aax ((show prog.funcNamed  "palfrey/palfreylaw07.CryEarliest"=some 7 by kernel_rfl).symm.trans c)|>.symm
    obtain rfl:fn=Tryz.f7:=(aax (Tryz.func7.symm.trans a)).symm
    exact⟨by kernel_rfl,λj t b=>by
     rw[Tryz.params7]at b
     have d:t=22:=by
      rcases j with _|j
      . simpa using b.symm
      . simp at b
     subst d;exact(show prog.wantsStandIn 22=false by kernel_rfl)⟩)
  (by kernel_rfl)
