/- the law MarkChecks of palfreylaw01 holds as its card says -/
import Derived.Test.YtigilmjkokbblaaGreatDoorCards
import Derived.Test.YtigilmjkokbblaaGreatDoorTie
import Derived.Test.YtigilmjkokbblaaGreatDoorK12
set_option linter.all false
namespace Go.Proofs.YtigilmjkokbblaaGreatDoor
open Go.Proofs.Tryz (prog)
open Go Go.bd Go.ChangeShapes Go.WideShapes Go.RowKit
set_option maxRecDepth 100000 in
theorem yx:∀b:List AV,b.length=Tryz.f3.params.size->(∀(i:Nat) t a,Tryz.f3.params[i]?=some t->b[i]?=some a->nk prog 6 t a)->oY prog lay ye 3 b (zW 0 [oo]) (λres _=>res=.val (.lit (.bool true))):=by
 intro b k h;rw[Tryz.params3]at k h
 obtain⟨c,d,e,f,g,j,rfl⟩:∃c d e f g j,b=[c,d,e,f,g,j]:=by
  match b,k with
  |[c,d,e,f,g,j],_=>exact⟨_,_,_,_,_,_,rfl⟩
 obtain⟨p,rfl,l⟩:=O9 (h 0 _ c rfl rfl);obtain⟨q,rfl,m⟩:=Ej (h 1 _ d rfl rfl);obtain⟨r,rfl,n⟩:=vS (h 2 _ e rfl rfl);obtain⟨s,rfl⟩:=lf (h 3 _ f rfl rfl);obtain⟨u,rfl⟩:=lf (h 4 _ g rfl rfl);obtain⟨v,rfl,o⟩:=vS (h 5 _ j rfl rfl);exact yO rfl rfl l m n o λ_=>rfl
set_option maxRecDepth 100000 in
theorem tx(os:Os)(started:os.Started)(H:Type)(enc:TypeId × Value->H)(F:Stop.Interp):
 ReturnsInLeavingWide Rows.markChecksRow.assume Tryz.checked os 3 .any (λw args=>(Rows.markChecksSpec.pre enc prog Tryz.f3 [] false w args/\laidMetH prog [("errors.errorType",Rows.laid_errors_errorType)] w)/\sizedMet enc prog Tryz.f3 (OpenSpec.ofChange Rows.markChecksSpec) false w args)
  ((OpenSpec.ofChange Rows.markChecksSpec).postWith enc prog Tryz.f3 F (outsideKept [.timePasses]) false true false):=by
 refine jU (C:=Tryz.checked) (X:=λw _=>laidMetH prog [("errors.errorType",Rows.laid_errors_errorType)] w) (λ_ _ _ b h=>h.of_heap b) xj started Tryz.func3
  (oA (enc:=enc) (C:=Tryz.checked) (os:=os) (X:=λw _=>laidMetH prog [("errors.errorType",Rows.laid_errors_errorType)] w) (nL os) #[.agg #[.slice none 0 0,.slice none 0 0,.int .i64 0,.int .i64 0,.int .i64 0,.int .i64 0],.agg #[.int .i64 0,.int .i64 0,.int .i64 0,.slice none 0 0,.int .i64 0,.int .i64 0],.slice none 0 0,.int .i64 0,.int .i64 0,.slice none 0 0] 8 rfl (by kernel_rfl) (by kernel_rfl) (by kernel_rfl) (by kernel_rfl) (by kernel_rfl) (m8 os _)) ?_
 intro W base args ds gs before a c d e;refine uD (C:=Tryz.checked) lay (tb:=4) (n:=6) Tryz.func3 (by kernel_rfl) (by kernel_rfl) (by kernel_rfl) (by kernel_rfl) Tryz.underlying4 rfl (of_decide_eq_true (by kernel_rfl)) rfl (λds hd=>?_) yx W (xl e) base args ds gs before a c d;rw[Tryz.params3]at hd
 match ds,hd with
 |[f,g,i,j,k,l],_=>rfl
theorem yy:Rows.MarkChecksSaid:=
 OpenClaim.holds_of_wide_leaving_time 3 Tryz.f3 rfl rfl rfl rfl rfl rfl rfl ⟨rfl,rfl,rfl,rfl,rfl⟩ rfl rfl rfl rfl rfl (by kernel_rfl) Tryz.func3 (by kernel_rfl)
  (of_decide_eq_true (by kernel_rfl)) (by unfold Func.isWrapper;first|(rw[if_pos (by decide +kernel)];kernel_rfl)|(rw[if_neg (by decide +kernel)];exact⟨rfl,rfl⟩))
  (λos started H enc _ F=>tx os started H enc F)
theorem markChecks_card:Rows.MarkChecksCardSaid:=
 kT [.handle] true (true,"db89df0e447e63cbde3aa6d4d64552534683153274f0adc8a9dbbd1559e9dad2") true
  yy (by kernel_rfl) markChecks_row_tie rfl ⟨rfl,rfl⟩ (by kernel_rfl) rfl
  (fun f fn c a=>by
    obtain rfl:f=3:=Option.some.inj ((show prog.funcNamed  "palfrey/palfreylaw01.MarkChecks"=some 3 by kernel_rfl).symm.trans c)|>.symm
    obtain rfl:fn=Tryz.f3:=(Option.some.inj (Tryz.func3.symm.trans a)).symm
    exact⟨by kernel_rfl,λj t d=>by
     have b:(Tryz.f3.params.toList.all λt=>prog.wantsStandIn t==false)=true:=by kernel_rfl
     rw[List.all_eq_true]at b;have e:=b t (List.mem_iff_getElem?.2 ⟨j,by simpa using d⟩);exact(beq_iff_eq (α:=Bool)).1 e⟩)
  (by kernel_rfl)
end Go.Proofs.YtigilmjkokbblaaGreatDoor
