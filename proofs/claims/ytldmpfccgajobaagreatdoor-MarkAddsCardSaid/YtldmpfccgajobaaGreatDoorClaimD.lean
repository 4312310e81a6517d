/- MarkAdds -/
import Derived.Test.YtldmpfccgajobaaGreatDoorCards
import Derived.Test.YtldmpfccgajobaaGreatDoorTie
import Derived.Test.YtldmpfccgajobaaGreatDoorD5
set_option linter.all false
namespace Go.Proofs.YtldmpfccgajobaaGreatDoor
open Go.Proofs.Tryz (prog)
open Go Go.aR Go.ChangeShapes Go.WideShapes Go.RowKit
set_option maxRecDepth 100000 in
theorem Bm:∀b:List AV,b.length=Tryz.f7.params.size->(∀(i:Nat) t a,Tryz.f7.params[i]?=some t->b[i]?=some a->bV prog 6 t a)->gS prog lay nW 7 b (λ_=>none) (λres _=>res=.val (.lit (.bool true))):=by
 intro b f h;rw[Tryz.params7]at f h
 obtain⟨c,d,e,rfl⟩:∃c d e,b=[c,d,e]:=by
  match b,f with
  |[c,d,e],_=>exact⟨_,_,_,rfl⟩
 obtain⟨l,rfl,g⟩:=lC (h 0 _ c rfl rfl);obtain⟨m,rfl,j⟩:=eX (h 1 _ d rfl rfl);obtain⟨n,rfl,k⟩:=dW (h 2 _ e rfl rfl);exact BH rfl g j k rfl
set_option maxRecDepth 100000 in
theorem vi(os:Os)(started:os.Started)(H:Type)(enc:TypeId × Value->H)(F:Stop.Interp):
 ReturnsInLeavingWide Rows.markAddsRow.assume Tryz.checked os 7 .any (λw args=>(Rows.markAddsSpec.pre enc prog Tryz.f7 [] false w args/\laidMetH prog [("errors.errorType",Rows.laid_errors_errorType)] w)/\sizedMet enc prog Tryz.f7 (OpenSpec.ofChange Rows.markAddsSpec) false w args)
  ((OpenSpec.ofChange Rows.markAddsSpec).postWith enc prog Tryz.f7 F (outsideKept [.timePasses]) false true false):=by
 refine cd (C:=Tryz.checked) (X:=λw _=>laidMetH prog [("errors.errorType",Rows.laid_errors_errorType)] w) (λ_ _ _ b h=>h.of_heap b) jA started Tryz.func7
  (dV (enc:=enc) (C:=Tryz.checked) (os:=os) (X:=λw _=>laidMetH prog [("errors.errorType",Rows.laid_errors_errorType)] w) (dJ os) #[.agg #[.slice none 0 0,.slice none 0 0,.int .i64 0,.int .i64 0,.int .i64 0,.int .i64 0],.agg #[.int .i64 0,.int .i64 0,.int .i64 0,.slice none 0 0,.int .i64 0,.int .i64 0],.slice none 0 0] 8 rfl (by kernel_rfl) (by kernel_rfl) (by kernel_rfl) (by kernel_rfl) (by kernel_rfl) (dA os _)) ?_
 intro W base args ds gs before a c d _;refine io (C:=Tryz.checked) lay (tb:=4) (n:=6) Tryz.func7 (by kernel_rfl) (by kernel_rfl) (by kernel_rfl) (by kernel_rfl) Tryz.underlying4 rfl (of_decide_eq_true (by kernel_rfl)) rfl (λds hd=>?_) Bm W base args ds gs before a c d;rw[Tryz.params7]at hd
 match ds,hd with
 |[e,f,g],_=>rfl
theorem Bn:Rows.MarkAddsSaid:=
 OpenClaim.holds_of_wide_leaving_time 7 Tryz.f7 rfl rfl rfl rfl rfl rfl rfl ⟨rfl,rfl,rfl,rfl,rfl⟩ rfl rfl rfl rfl rfl (by kernel_rfl) Tryz.func7 (by kernel_rfl)
  (of_decide_eq_true (by kernel_rfl)) (by unfold Func.isWrapper;first|(rw[if_pos (by decide +kernel)];kernel_rfl)|(rw[if_neg (by decide +kernel)];exact⟨rfl,rfl⟩))
  (λos started H enc _ F=>vi os started H enc F)
theorem markAdds_card:Rows.MarkAddsCardSaid:=
 cI [.handle] true (true,"425a249c96a22b9b1647d9cf001fe84cae95254cc72c462b8ef43587990f1769") true
  Bn (by kernel_rfl) markAdds_row_tie rfl ⟨rfl,rfl⟩ (by kernel_rfl) rfl
  (fun f fn c a=>by
    obtain rfl:f=7:=Option.some.inj ((show prog.funcNamed  "palfrey/palfreylaw01.MarkAdds"=some 7 by kernel_rfl).symm.trans c)|>.symm
    obtain rfl:fn=Tryz.f7:=(Option.some.inj (Tryz.func7.symm.trans a)).symm
    exact⟨by kernel_rfl,λj t d=>by
     have b:(Tryz.f7.params.toList.all λt=>prog.wantsStandIn t==false)=true:=by kernel_rfl
     rw[List.all_eq_true]at b;have e:=b t (List.mem_iff_getElem?.2 ⟨j,by simpa using d⟩);exact(beq_iff_eq (α:=Bool)).1 e⟩)
  (by kernel_rfl)
end Go.Proofs.YtldmpfccgajobaaGreatDoor
