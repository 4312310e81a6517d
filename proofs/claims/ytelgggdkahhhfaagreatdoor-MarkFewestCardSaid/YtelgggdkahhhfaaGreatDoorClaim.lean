/- The statement MarkFewest of palfreylaw01/outright.go holds of the given program, under the conditions of its row. -/
import Derived.Test.YtelgggdkahhhfaaGreatDoorCards
import Derived.Test.YtelgggdkahhhfaaGreatDoorTie
import Derived.Test.YtelgggdkahhhfaaGreatDoorC35
set_option linter.all false
namespace Go.Proofs.YtelgggdkahhhfaaGreatDoor
open Go Go.aZ Go.ChangeShapes Go.WideShapes Go.RowKit
set_option maxRecDepth 100000 in
theorem ot (os:Os) (started:os.Started) (H:Type) (enc:TypeId × Value->H) (F:Stop.Interp) :
 ReturnsInLeavingWide Rows.markFewestRow.assume Tryz.checked os 4 .any (fun w args=>(Rows.markFewestSpec.pre enc Tryz.prog Tryz.f4 [] false w args∧laidMetH Tryz.prog [("errors.errorType",Rows.laid_errors_errorType)] w)∧sizedMet enc Tryz.prog Tryz.f4 (OpenSpec.ofChange Rows.markFewestSpec) false w args)
  ((OpenSpec.ofChange Rows.markFewestSpec).postWith enc Tryz.prog Tryz.f4 F (outsideKept [.timePasses]) false true false):=by
 refine pq (C:=Tryz.checked) (X:=fun w _=>laidMetH Tryz.prog [("errors.errorType",Rows.laid_errors_errorType)] w) (fun _ _ _ hh h=>h.of_heap hh) Fx started Tryz.func4
  (vK (enc:=enc) (C:=Tryz.checked) (os:=os) (X:=fun w _=>laidMetH Tryz.prog [("errors.errorType",Rows.laid_errors_errorType)] w) (ul os) #[.slice none 0 0] 8 rfl (by kernel_rfl) (by kernel_rfl) (by kernel_rfl) (by kernel_rfl) (by kernel_rfl) (sQ os _)) ?_
 intro W base args ds gs before hval hW hz _
 exact Cc (C:=Tryz.checked) lay Tryz.func4 (by kernel_rfl) Tryz.params4 (t:=22) (e:=3) (tb:=4) Tryz.underlying22 Tryz.underlying3 (by kernel_rfl) (by kernel_rfl) (by kernel_rfl) Tryz.underlying4 rfl (of_decide_eq_true (by kernel_rfl)) rfl (fun _=>rfl)
  (fun nums hn=>sP rfl hn rfl) W base args ds gs before hval hW hz
theorem se:Rows.MarkFewestSaid:=
 OpenClaim.holds_of_wide_leaving_time 4 Tryz.f4 rfl rfl rfl rfl rfl rfl rfl ⟨rfl,rfl,rfl,rfl,rfl⟩ rfl rfl rfl rfl rfl (by kernel_rfl) Tryz.func4 (by kernel_rfl)
  (of_decide_eq_true (by kernel_rfl)) (by unfold Func.isWrapper;first | (rw[if_pos (by decide +kernel)];kernel_rfl) | (rw[if_neg (by decide +kernel)];exact⟨rfl,rfl⟩))
  (fun os started H enc _ F=>ot os started H enc F)
theorem markFewest_card:Rows.MarkFewestCardSaid:=
 qf [.handle] true (true, "b8fea67aa2a61261d9e90d55aeabb833c2e2e1cd12fd433b0f24def3a6b21cf0") true
  se (by kernel_rfl) markFewest_row_tie rfl ⟨rfl,rfl⟩ (by kernel_rfl) rfl
  (fun f fn hf hfn=>by
    obtain rfl:f=4:=Option.some.inj ((show Tryz.prog.funcNamed  "palfrey/palfreylaw01.MarkFewest" = some 4 by kernel_rfl).symm.trans hf) |>.symm
    obtain rfl:fn=Tryz.f4:=(Option.some.inj (Tryz.func4.symm.trans hfn)).symm
    exact⟨by kernel_rfl,fun j t ht=>by
     rw[Tryz.params4] at ht
     have h3:t=22:=by
      rcases j with _|j
      . simpa using ht.symm
      . simp at ht
     subst h3;exact (show Tryz.prog.wantsStandIn 22=false by kernel_rfl)⟩)
  (by kernel_rfl)
end Go.Proofs.YtelgggdkahhhfaaGreatDoor
