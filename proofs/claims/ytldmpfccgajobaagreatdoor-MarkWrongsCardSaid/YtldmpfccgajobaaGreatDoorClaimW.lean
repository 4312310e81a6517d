/- MarkWrongs -/
import Derived.Test.YtldmpfccgajobaaGreatDoorCards
import Derived.Test.YtldmpfccgajobaaGreatDoorTie
import Derived.Test.YtldmpfccgajobaaGreatDoorW3
set_option linter.all false
namespace Go.Proofs.YtldmpfccgajobaaGreatDoor
open Go.Proofs.Tryz (prog)
open Go Go.bG Go.ChangeShapes Go.WideShapes Go.RowKit
set_option maxRecDepth 100000 in
theorem vo:∀b:List AV,b.length=Tryz.f5.params.size->(∀(i:Nat) t a,Tryz.f5.params[i]?=some t->b[i]?=some a->qz prog 6 t a)->rN prog lay zf 5 b (λ_=>none) (λres _=>res=.val (.lit (.bool true))):=by
 intro b f h;rw[Tryz.params5]at f h
 obtain⟨c,d,e,rfl⟩:∃c d e,b=[c,d,e]:=by
  match b,f with
  |[c,d,e],_=>exact⟨_,_,_,rfl⟩
 obtain⟨l,rfl,g⟩:=Jz (h 0 _ c rfl rfl);obtain⟨m,rfl,j⟩:=zg (h 1 _ d rfl rfl);obtain⟨n,rfl,k⟩:=xU (h 2 _ e rfl rfl);exact vV rfl g j k rfl
set_option maxRecDepth 100000 in
theorem qy(os:Os)(started:os.Started)(H:Type)(enc:TypeId × Value->H)(F:Stop.Interp):
 ReturnsInLeavingWide Rows.markWrongsRow.assume Tryz.checked os 5 .any (λw args=>(Rows.markWrongsSpec.pre enc prog Tryz.f5 [] false w args/\laidMetH prog [("errors.errorType",Rows.laid_errors_errorType)] w)/\sizedMet enc prog Tryz.f5 (OpenSpec.ofChange Rows.markWrongsSpec) false w args)
  ((OpenSpec.ofChange Rows.markWrongsSpec).postWith enc prog Tryz.f5 F (outsideKept [.timePasses]) false true false):=by
 refine qJ (C:=Tryz.checked) (X:=λw _=>laidMetH prog [("errors.errorType",Rows.laid_errors_errorType)] w) (λ_ _ _ b h=>h.of_heap b) Gp started Tryz.func5
  (xT (enc:=enc) (C:=Tryz.checked) (os:=os) (X:=λw _=>laidMetH prog [("errors.errorType",Rows.laid_errors_errorType)] w) (wm os) #[.agg #[.slice none 0 0,.slice none 0 0,.int .i64 0,.int .i64 0,.int .i64 0,.int .i64 0],.agg #[.int .i64 0,.int .i64 0,.int .i64 0,.slice none 0 0,.int .i64 0,.int .i64 0],.slice none 0 0] 8 rfl (by kernel_rfl) (by kernel_rfl) (by kernel_rfl) (by kernel_rfl) (by kernel_rfl) (vE os _)) ?_
 intro W base args ds gs before a c d _;refine DI (C:=Tryz.checked) lay (tb:=4) (n:=6) Tryz.func5 (by kernel_rfl) (by kernel_rfl) (by kernel_rfl) (by kernel_rfl) Tryz.underlying4 rfl (of_decide_eq_true (by kernel_rfl)) rfl (λds hd=>?_) vo W base args ds gs before a c d;rw[Tryz.params5]at hd
 match ds,hd with
 |[e,f,g],_=>rfl
theorem vp:Rows.MarkWrongsSaid:=
 OpenClaim.holds_of_wide_leaving_time 5 Tryz.f5 rfl rfl rfl rfl rfl rfl rfl ⟨rfl,rfl,rfl,rfl,rfl⟩ rfl rfl rfl rfl rfl (by kernel_rfl) Tryz.func5 (by kernel_rfl)
  (of_decide_eq_true (by kernel_rfl)) (by unfold Func.isWrapper;first|(rw[if_pos (by decide +kernel)];kernel_rfl)|(rw[if_neg (by decide +kernel)];exact⟨rfl,rfl⟩))
  (λos started H enc _ F=>qy os started H enc F)
theorem markWrongs_card:Rows.MarkWrongsCardSaid:=
 sD [.handle] true (true,"425a249c96a22b9b1647d9cf001fe84cae95254cc72c462b8ef43587990f1769") true
  vp (by kernel_rfl) markWrongs_row_tie rfl ⟨rfl,rfl⟩ (by kernel_rfl) rfl
  (fun f fn c a=>by
    obtain rfl:f=5:=Option.some.inj ((show prog.funcNamed  "palfrey/palfreylaw01.MarkWrongs"=some 5 by kernel_rfl).symm.trans c)|>.symm
    obtain rfl:fn=Tryz.f5:=(Option.some.inj (Tryz.func5.symm.trans a)).symm
    exact⟨by kernel_rfl,λj t d=>by
     have b:(Tryz.f5.params.toList.all λt=>prog.wantsStandIn t==false)=true:=by kernel_rfl
     rw[List.all_eq_true]at b;have e:=b t (List.mem_iff_getElem?.2 ⟨j,by simpa using d⟩);exact(beq_iff_eq (α:=Bool)).1 e⟩)
  (by kernel_rfl)
end Go.Proofs.YtldmpfccgajobaaGreatDoor
