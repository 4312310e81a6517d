/- the law MarkKnown of palfreylaw01 holds as its card says -/
import Derived.Test.YtigilmjkokbblaaGreatDoorCards
import Derived.Test.YtigilmjkokbblaaGreatDoorTie
import Derived.Test.YtigilmjkokbblaaGreatDoorN10
set_option linter.all false
namespace Go.Proofs.YtigilmjkokbblaaGreatDoor
open Go.Proofs.Tryz (prog)
open Go Go.bd Go.ChangeShapes Go.WideShapes Go.RowKit
set_option maxRecDepth 100000 in
theorem zf:∀b:List AV,b.length=Tryz.f4.params.size->(∀(i:Nat) t a,Tryz.f4.params[i]?=some t->b[i]?=some a->nk prog 6 t a)->oY prog lay ye 4 b (zW 0 [oo]) (λres _=>res=.val (.lit (.bool true))):=by intro b c h;rw[Tryz.params4]at c;obtain rfl:b=[]:=List.length_eq_zero_iff.1 c;exact KN.Bn rfl rfl λ_=>rfl
set_option maxRecDepth 100000 in
theorem uE(os:Os)(started:os.Started)(H:Type)(enc:TypeId × Value->H)(F:Stop.Interp):
 ReturnsInLeavingWide Rows.markKnownRow.assume Tryz.checked os 4 .any (λw args=>(Rows.markKnownSpec.pre enc prog Tryz.f4 [] false w args/\laidMetH prog [("errors.errorType",Rows.laid_errors_errorType)] w)/\sizedMet enc prog Tryz.f4 (OpenSpec.ofChange Rows.markKnownSpec) false w args)
  ((OpenSpec.ofChange Rows.markKnownSpec).postWith enc prog Tryz.f4 F (outsideKept [.timePasses]) false true false):=by
 refine jU (C:=Tryz.checked) (X:=λw _=>laidMetH prog [("errors.errorType",Rows.laid_errors_errorType)] w) (λ_ _ _ b h=>h.of_heap b) xj started Tryz.func4
  (oA (enc:=enc) (C:=Tryz.checked) (os:=os) (X:=λw _=>laidMetH prog [("errors.errorType",Rows.laid_errors_errorType)] w) (nL os) #[] 8 rfl (by kernel_rfl) (by kernel_rfl) (by kernel_rfl) (by kernel_rfl) (by kernel_rfl) (m8 os _)) ?_
 intro W base args ds gs before a c d e;refine uD (C:=Tryz.checked) lay (tb:=4) (n:=6) Tryz.func4 (by kernel_rfl) (by kernel_rfl) (by kernel_rfl) (by kernel_rfl) Tryz.underlying4 rfl (of_decide_eq_true (by kernel_rfl)) rfl (λds hd=>?_) zf W (xl e) base args ds gs before a c d;rw[Tryz.params4]at hd
 match ds,hd with
 |[],_=>rfl
theorem zg:Rows.MarkKnownSaid:=
 OpenClaim.holds_of_wide_leaving_time 4 Tryz.f4 rfl rfl rfl rfl rfl rfl rfl ⟨rfl,rfl,rfl,rfl,rfl⟩ rfl rfl rfl rfl rfl (by kernel_rfl) Tryz.func4 (by kernel_rfl)
  (of_decide_eq_true (by kernel_rfl)) (by unfold Func.isWrapper;first|(rw[if_pos (by decide +kernel)];kernel_rfl)|(rw[if_neg (by decide +kernel)];exact⟨rfl,rfl⟩))
  (λos started H enc _ F=>uE os started H enc F)
theorem markKnown_card:Rows.MarkKnownCardSaid:=
 kT [.handle] true (true,"db89df0e447e63cbde3aa6d4d64552534683153274f0adc8a9dbbd1559e9dad2") true
  zg (by kernel_rfl) markKnown_row_tie rfl ⟨rfl,rfl⟩ (by kernel_rfl) rfl
  (fun f fn c a=>by
    obtain rfl:f=4:=Option.some.inj ((show prog.funcNamed  "palfrey/palfreylaw01.MarkKnown"=some 4 by kernel_rfl).symm.trans c)|>.symm
    obtain rfl:fn=Tryz.f4:=(Option.some.inj (Tryz.func4.symm.trans a)).symm
    exact⟨by kernel_rfl,λj t d=>by
     have b:(Tryz.f4.params.toList.all λt=>prog.wantsStandIn t==false)=true:=by kernel_rfl
     rw[List.all_eq_true]at b;have e:=b t (List.mem_iff_getElem?.2 ⟨j,by simpa using d⟩);exact(beq_iff_eq (α:=Bool)).1 e⟩)
  (by kernel_rfl)
end Go.Proofs.YtigilmjkokbblaaGreatDoor
