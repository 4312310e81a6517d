/- What is proved: palfreylaw01.MarkWrong returns true, whatever numbers it is given, and the numbers read behind the call as they read before it. Conditions: those of the given card alone: calm, time may pass, errors.errorType laid as the program's own text lays it. -/
import Derived.Test.YtibjfmfdjncniaaGreatDoorCards
import Derived.Test.YtibjfmfdjncniaaGreatDoorTie
import Derived.Test.YtibjfmfdjncniaaGreatDoorC35
set_option linter.all false
namespace Go.Proofs.YtibjfmfdjncniaaGreatDoor
open Go Go.Pal Go.ChangeShapes Go.WideShapes Go.RowKit
set_option maxRecDepth 100000 in
theorem MarkWrong_lifted (os:Os) (started:os.Started) (H:Type) (enc:TypeId × Value->H) (F:Stop.Interp) :
    ReturnsInLeavingWide Rows.markWrongRow.assume Tryz.checked os 3 .any (fun w args=>(Rows.markWrongSpec.pre enc Tryz.prog Tryz.f3 [] false w args∧laidMetH Tryz.prog [("errors.errorType",Rows.laid_errors_errorType)] w)∧sizedMet enc Tryz.prog Tryz.f3 (OpenSpec.ofChange Rows.markWrongSpec) false w args)
      ((OpenSpec.ofChange Rows.markWrongSpec).postWith enc Tryz.prog Tryz.f3 F (outsideKept [.timePasses]) false true false):=by
  refine leaving_time_and (C:=Tryz.checked) (X:=fun w _=>laidMetH Tryz.prog [("errors.errorType",Rows.laid_errors_errorType)] w) (fun _ _ _ hh h=>h.of_heap hh) seat_own started Tryz.func3
    (witness_calm (enc:=enc) (C:=Tryz.checked) (os:=os) (X:=fun w _=>laidMetH Tryz.prog [("errors.errorType",Rows.laid_errors_errorType)] w) (laidWorld os) #[.slice none 0 0] 8 rfl (by kernel_rfl) (by kernel_rfl) (by kernel_rfl) (by kernel_rfl) (by kernel_rfl) (laidWorld_met os _)) ?_
  intro W base args ds gs before hval hW hz _
  exact ints_runs (C:=Tryz.checked) lay Tryz.func3 (by kernel_rfl) Tryz.params3 (t:=22) (e:=3) (tb:=4) Tryz.underlying22 Tryz.underlying3 (by kernel_rfl) (by kernel_rfl) (by kernel_rfl) Tryz.underlying4 rfl (of_decide_eq_true (by kernel_rfl)) rfl (fun _=>rfl)
    (fun nums hn=>MarkWrong_ok rfl hn rfl) W base args ds gs before hval hW hz
theorem MarkWrong_row:Rows.MarkWrongSaid:=
  OpenClaim.holds_of_wide_leaving_time 3 Tryz.f3 rfl rfl rfl rfl rfl rfl rfl ⟨rfl,rfl,rfl,rfl,rfl⟩ rfl rfl rfl rfl rfl (by kernel_rfl) Tryz.func3 (by kernel_rfl)
    (of_decide_eq_true (by kernel_rfl)) (by unfold Func.isWrapper;first | (rw[if_pos (by decide +kernel)];kernel_rfl) | (rw[if_neg (by decide +kernel)];exact⟨rfl,rfl⟩))
    (fun os started H enc _ F=>MarkWrong_lifted os started H enc F)
theorem markWrong_card:Rows.MarkWrongCardSaid:=
  holds_tied_goes [.handle] true (true, "03d7d02dccdb4366251e0df994b7cfaea7c166055763f6f14f3269bd97014bdc") true
    MarkWrong_row (by kernel_rfl) markWrong_row_tie rfl ⟨rfl,rfl⟩ (by kernel_rfl) rfl
    (fun f fn hf hfn=>by
      obtain rfl:f=3:=Option.some.inj ((show Tryz.prog.funcNamed  "palfrey/palfreylaw01.MarkWrong" = some 3 by kernel_rfl).symm.trans hf) |>.symm
      obtain rfl:fn=Tryz.f3:=(Option.some.inj (Tryz.func3.symm.trans hfn)).symm
      exact⟨by kernel_rfl,fun j t ht=>by
        rw[Tryz.params3] at ht
        have h3:t=22:=by
          rcases j with _|j
          . simpa using ht.symm
          . simp at ht
        subst h3;exact (show Tryz.prog.wantsStandIn 22=false by kernel_rfl)⟩)
    (by kernel_rfl)
end Go.Proofs.YtibjfmfdjncniaaGreatDoor
