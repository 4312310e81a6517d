/- What is proved: palfreylaw01.MarkLater returns true, whatever numbers it is given, and the numbers read behind the call as they read before it. Conditions: those of the given card alone: calm, time may pass, errors.errorType laid as the program's own text lays it. -/
import Derived.Test.YtibjfmfdjncniaaGreatDoorCards
import Derived.Test.YtibjfmfdjncniaaGreatDoorTie
import Derived.Test.YtibjfmfdjncniaaGreatDoorC35
set_option linter.all false
namespace Go.Proofs.YtibjfmfdjncniaaGreatDoor
open Go Go.Pal Go.ChangeShapes Go.WideShapes Go.RowKit
set_option maxRecDepth 100000 in
theorem MarkLater_lifted (os:Os) (started:os.Started) (H:Type) (enc:TypeId × Value->H) (F:Stop.Interp) :
    ReturnsInLeavingWide Rows.markLaterRow.assume Tryz.checked os 4 .any (fun w args=>(Rows.markLaterSpec.pre enc Tryz.prog Tryz.f4 [] false w args∧laidMetH Tryz.prog [("errors.errorType",Rows.laid_errors_errorType)] w)∧sizedMet enc Tryz.prog Tryz.f4 (OpenSpec.ofChange Rows.markLaterSpec) false w args)
      ((OpenSpec.ofChange Rows.markLaterSpec).postWith enc Tryz.prog Tryz.f4 F (outsideKept [.timePasses]) false true false):=by
  refine leaving_time_and (C:=Tryz.checked) (X:=fun w _=>laidMetH Tryz.prog [("errors.errorType",Rows.laid_errors_errorType)] w) (fun _ _ _ hh h=>h.of_heap hh) seat_own started Tryz.func4
    (witness_calm (enc:=enc) (C:=Tryz.checked) (os:=os) (X:=fun w _=>laidMetH Tryz.prog [("errors.errorType",Rows.laid_errors_errorType)] w) (laidWorld os) #[.slice none 0 0] 8 rfl (by kernel_rfl) (by kernel_rfl) (by kernel_rfl) (by kernel_rfl) (by kernel_rfl) (laidWorld_met os _)) ?_
  intro W base args ds gs before hval hW hz _
  exact ints_runs (C:=Tryz.checked) lay Tryz.func4 (by kernel_rfl) Tryz.params4 (t:=22) (e:=3) (tb:=4) Tryz.underlying22 Tryz.underlying3 (by kernel_rfl) (by kernel_rfl) (by kernel_rfl) Tryz.underlying4 rfl (of_decide_eq_true (by kernel_rfl)) rfl (fun _=>rfl)
    (fun nums hn=>LT.MarkLater_ok rfl hn rfl) W base args ds gs before hval hW hz
theorem MarkLater_row:Rows.MarkLaterSaid:=
  OpenClaim.holds_of_wide_leaving_time 4 Tryz.f4 rfl rfl rfl rfl rfl rfl rfl ⟨rfl,rfl,rfl,rfl,rfl⟩ rfl rfl rfl rfl rfl (by kernel_rfl) Tryz.func4 (by kernel_rfl)
    (of_decide_eq_true (by kernel_rfl)) (by unfold Func.isWrapper;first | (rw[if_pos (by decide +kernel)];kernel_rfl) | (rw[if_neg (by decide +kernel)];exact⟨rfl,rfl⟩))
    (fun os started H enc _ F=>MarkLater_lifted os started H enc F)
theorem markLater_card:Rows.MarkLaterCardSaid:=
  holds_tied_goes [.handle] true (true, "03d7d02dccdb4366251e0df994b7cfaea7c166055763f6f14f3269bd97014bdc") true
    MarkLater_row (by kernel_rfl) markLater_row_tie rfl ⟨rfl,rfl⟩ (by kernel_rfl) rfl
    (fun f fn hf hfn=>by
      obtain rfl:f=4:=Option.some.inj ((show Tryz.prog.funcNamed  "palfrey/palfreylaw01.MarkLater" = some 4 by kernel_rfl).symm.trans hf) |>.symm
      obtain rfl:fn=Tryz.f4:=(Option.some.inj (Tryz.func4.symm.trans hfn)).symm
      exact⟨by kernel_rfl,fun j t ht=>by
        rw[Tryz.params4] at ht
        have h3:t=22:=by
          rcases j with _|j
          . simpa using ht.symm
          . simp at ht
        subst h3;exact (show Tryz.prog.wantsStandIn 22=false by kernel_rfl)⟩)
    (by kernel_rfl)
end Go.Proofs.YtibjfmfdjncniaaGreatDoor
