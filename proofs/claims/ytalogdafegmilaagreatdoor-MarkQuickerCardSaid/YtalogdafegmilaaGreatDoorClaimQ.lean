/- MarkQuicker holds of the program, on every schedule: proved without conditions. -/
import Derived.Test.YtalogdafegmilaaGreatDoorCards
import Derived.Test.YtalogdafegmilaaGreatDoorTie
import Derived.Test.YtalogdafegmilaaGreatDoorQ4
set_option linter.all false
namespace Go.Proofs.YtalogdafegmilaaGreatDoor
open Go Go.aN Go.ChangeShapes Go.WideShapes Go.RowKit
set_option maxRecDepth 100000 in
theorem Ur (os:Os) (started:os.Started) (H:Type) (enc:TypeId × Value->H) (F:Stop.Interp) :
 ReturnsInLeavingWide Rows.markQuickerRow.assume Tryz.checked os 3 .any (fun w args=>(Rows.markQuickerSpec.pre enc Tryz.prog Tryz.f3 [] false w args∧laidMetH Tryz.prog [("errors.errorType",Rows.laid_errors_errorType)] w)∧sizedMet enc Tryz.prog Tryz.f3 (OpenSpec.ofChange Rows.markQuickerSpec) false w args)
  ((OpenSpec.ofChange Rows.markQuickerSpec).postWith enc Tryz.prog Tryz.f3 F (outsideKept [.timePasses]) false true false):=by
 refine bi (C:=Tryz.checked) (X:=fun w _=>laidMetH Tryz.prog [("errors.errorType",Rows.laid_errors_errorType)] w) (fun _ _ _ hh h=>h.of_heap hh) fS started Tryz.func3
  (cC (enc:=enc) (C:=Tryz.checked) (os:=os) (X:=fun w _=>laidMetH Tryz.prog [("errors.errorType",Rows.laid_errors_errorType)] w) (cu os) #[.slice none 0 0] 8 rfl (by kernel_rfl) (by kernel_rfl) (by kernel_rfl) (by kernel_rfl) (by kernel_rfl) (bR os _)) ?_
 intro W base args ds gs before hval hW hz _
 exact eD (C:=Tryz.checked) lay Tryz.func3 (by kernel_rfl) Tryz.params3 (t:=22) (e:=3) (tb:=4) Tryz.underlying22 Tryz.underlying3 (by kernel_rfl) (by kernel_rfl) (by kernel_rfl) Tryz.underlying4 rfl (of_decide_eq_true (by kernel_rfl)) rfl (fun _=>rfl)
  (fun nums hn=>QK.Uv rfl hn rfl) W base args ds gs before hval hW hz
theorem Ut:Rows.MarkQuickerSaid:=
 OpenClaim.holds_of_wide_leaving_time 3 Tryz.f3 rfl rfl rfl rfl rfl rfl rfl ⟨rfl,rfl,rfl,rfl,rfl⟩ rfl rfl rfl rfl rfl (by kernel_rfl) Tryz.func3 (by kernel_rfl)
  (of_decide_eq_true (by kernel_rfl)) (by unfold Func.isWrapper;first | (rw[if_pos (by decide +kernel)];kernel_rfl) | (rw[if_neg (by decide +kernel)];exact⟨rfl,rfl⟩))
  (fun os started H enc _ F=>Ur os started H enc F)
theorem markQuicker_card:Rows.MarkQuickerCardSaid:=
 bp [.handle] true (true, "1115a688e006e5ddc891bcb926e008f4dee6aade14ddabbad3998f8e4b07b4d6") true
  Ut (by kernel_rfl) markQuicker_row_tie rfl ⟨rfl,rfl⟩ (by kernel_rfl) rfl
  (fun f fn hf hfn=>by
    obtain rfl:f=3:=Option.some.inj ((show Tryz.prog.funcNamed  "palfrey/palfreylaw01.MarkQuicker" = some 3 by kernel_rfl).symm.trans hf) |>.symm
    obtain rfl:fn=Tryz.f3:=(Option.some.inj (Tryz.func3.symm.trans hfn)).symm
    exact⟨by kernel_rfl,fun j t ht=>by
     rw[Tryz.params3] at ht
     have h3:t=22:=by
      rcases j with _|j
      . simpa using ht.symm
      . simp at ht
     subst h3;exact (show Tryz.prog.wantsStandIn 22=false by kernel_rfl)⟩)
  (by kernel_rfl)
end Go.Proofs.YtalogdafegmilaaGreatDoor
