/- MarkAlones -/
import Derived.Test.YtldmpfccgajobaaGreatDoorCards
import Derived.Test.YtldmpfccgajobaaGreatDoorTie
import Derived.Test.YtldmpfccgajobaaGreatDoorL5
set_option linter.all false
namespace Go.Proofs.YtldmpfccgajobaaGreatDoor
open Go.Proofs.Tryz (prog)
open Go Go.aR Go.ChangeShapes Go.WideShapes Go.RowKit
set_option maxRecDepth 100000 in
theorem xI:∀b:List AV,b.length=Tryz.f8.params.size->(∀(i:Nat) t a,Tryz.f8.params[i]?=some t->b[i]?=some a->bV prog 6 t a)->gS prog lay nW 8 b (λ_=>none) (λres _=>res=.val (.lit (.bool true))):=by
 intro b j h;rw[Tryz.params8]at j h
 obtain⟨c,d,e,f,g,rfl⟩:∃c d e f g,b=[c,d,e,f,g]:=by
  match b,j with
  |[c,d,e,f,g],_=>exact⟨_,_,_,_,_,rfl⟩
 obtain⟨n,rfl,k⟩:=lC (h 0 _ c rfl rfl);obtain⟨o,rfl,l⟩:=eX (h 1 _ d rfl rfl);obtain⟨p,rfl⟩:=aX (h 2 _ e rfl rfl);obtain⟨q,rfl⟩:=aX (h 3 _ f rfl rfl);obtain⟨r,rfl,m⟩:=dW (h 4 _ g rfl rfl);exact xV rfl k l m rfl
set_option maxRecDepth 100000 in
theorem th(os:Os)(started:os.Started)(H:Type)(enc:TypeId × Value->H)(F:Stop.Interp):
 ReturnsInLeavingWide Rows.markAlonesRow.assume Tryz.checked os 8 .any (λw args=>(Rows.markAlonesSpec.pre enc prog Tryz.f8 [] false w args/\laidMetH prog [("errors.errorType",Rows.laid_errors_errorType)] w)/\sizedMet enc prog Tryz.f8 (OpenSpec.ofChange Rows.markAlonesSpec) false w args)
  ((OpenSpec.ofChange Rows.markAlonesSpec).postWith enc prog Tryz.f8 F (outsideKept [.timePasses]) false true false):=by
 refine cd (C:=Tryz.checked) (X:=λw _=>laidMetH prog [("errors.errorType",Rows.laid_errors_errorType)] w) (λ_ _ _ b h=>h.of_heap b) jA started Tryz.func8
  (dV (enc:=enc) (C:=Tryz.checked) (os:=os) (X:=λw _=>laidMetH prog [("errors.errorType",Rows.laid_errors_errorType)] w) (dJ os) #[.agg #[.slice none 0 0,.slice none 0 0,.int .i64 0,.int .i64 0,.int .i64 0,.int .i64 0],.agg #[.int .i64 0,.int .i64 0,.int .i64 0,.slice none 0 0,.int .i64 0,.int .i64 0],.int .i64 0,.int .i64 0,.slice none 0 0] 8 rfl (by kernel_rfl) (by kernel_rfl) (by kernel_rfl) (by kernel_rfl) (by kernel_rfl) (dA os _)) ?_
 intro W base args ds gs before a c d _;refine io (C:=Tryz.checked) lay (tb:=4) (n:=6) Tryz.func8 (by kernel_rfl) (by kernel_rfl) (by kernel_rfl) (by kernel_rfl) Tryz.underlying4 rfl (of_decide_eq_true (by kernel_rfl)) rfl (λds hd=>?_) xI W base args ds gs before a c d;rw[Tryz.params8]at hd
 match ds,hd with
 |[e,f,g,i,j],_=>rfl
theorem xJ:Rows.MarkAlonesSaid:=
 OpenClaim.holds_of_wide_leaving_time 8 Tryz.f8 rfl rfl rfl rfl rfl rfl rfl ⟨rfl,rfl,rfl,rfl,rfl⟩ rfl rfl rfl rfl rfl (by kernel_rfl) Tryz.func8 (by kernel_rfl)
  (of_decide_eq_true (by kernel_rfl)) (by unfold Func.isWrapper;first|(rw[if_pos (by decide +kernel)];kernel_rfl)|(rw[if_neg (by decide +kernel)];exact⟨rfl,rfl⟩))
  (λos started H enc _ F=>th os started H enc F)
theorem markAlones_card:Rows.MarkAlonesCardSaid:=
 cI [.handle] true (true,"425a249c96a22b9b1647d9cf001fe84cae95254cc72c462b8ef43587990f1769") true
  xJ (by kernel_rfl) markAlones_row_tie rfl ⟨rfl,rfl⟩ (by kernel_rfl) rfl
  (fun f fn c a=>by
    obtain rfl:f=8:=Option.some.inj ((show prog.funcNamed  "palfrey/palfreylaw01.MarkAlones"=some 8 by kernel_rfl).symm.trans c)|>.symm
    obtain rfl:fn=Tryz.f8:=(Option.some.inj (Tryz.func8.symm.trans a)).symm
    exact⟨by kernel_rfl,λj t d=>by
     have b:(Tryz.f8.params.toList.all λt=>prog.wantsStandIn t==false)=true:=by kernel_rfl
     rw[List.all_eq_true]at b;have e:=b t (List.mem_iff_getElem?.2 ⟨j,by simpa using d⟩);exact(beq_iff_eq (α:=Bool)).1 e⟩)
  (by kernel_rfl)
end Go.Proofs.YtldmpfccgajobaaGreatDoor
