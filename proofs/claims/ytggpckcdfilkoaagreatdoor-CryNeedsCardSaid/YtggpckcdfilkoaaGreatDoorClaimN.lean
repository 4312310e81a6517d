/- For every input cry's Needed and Add answer what the reference answers (CryNeeds). No condition beyond the row's. -/
import Derived.Test.YtggpckcdfilkoaaGreatDoorCards
import Derived.Test.YtggpckcdfilkoaaGreatDoorTie
import Derived.Test.YtggpckcdfilkoaaGreatDoorN5
set_option linter.all false
namespace Go.Proofs.YtggpckcdfilkoaaGreatDoor
open Go.Proofs.Tryz (prog)
open Go Go.bu Go.ChangeShapes Go.WideShapes Go.RowKit
set_option maxRecDepth 100000 in
theorem afe:∀b:We,b.length=Tryz.f6.params.size->(∀(i:Nat) t a,Tryz.f6.params[i]?=some t->b[i]?=some a->dh prog 6 t a)->ll prog Ax wF 6 b (vL 0 [fW]) (λres _=>res=.val (.lit (.bool true))):=by
 intro b g h;rw[Tryz.params6]at g h
 obtain⟨c,d,e,f,rfl⟩:∃c d e f,b=[c,d,e,f]:=by
  match b,g with
  |[c,d,e,f],_=>exact⟨_,_,_,_,rfl⟩
 obtain⟨m,rfl,j⟩:=oE (h 0 _ c rfl rfl);obtain⟨n,rfl,k⟩:=oD (h 1 _ d rfl rfl);obtain⟨o,rfl⟩:=oC (h 2 _ e rfl rfl);obtain⟨p,rfl,l⟩:=iH (h 3 _ f rfl rfl);exact RN.JS rfl rfl j k l λ_=>rfl
set_option maxRecDepth 100000 in
theorem aiR(os:Os)(started:os.Started)(H:Type)(enc:TypeId × Value->H)(F:Stop.Interp):
 ReturnsInLeavingWide Rows.cryNeedsRow.assume Tryz.checked os 6 .any (λw args=>(Rows.cryNeedsSpec.pre enc prog Tryz.f6 [] false w args/\laidMetH prog [("errors.errorType",Rows.laid_errors_errorType)] w)/\sizedMet enc prog Tryz.f6 (OpenSpec.ofChange Rows.cryNeedsSpec) false w args)
  ((OpenSpec.ofChange Rows.cryNeedsSpec).postWith enc prog Tryz.f6 F (outsideKept [.timePasses]) false true false):=by
 refine dK (C:=Tryz.checked) (X:=λw _=>laidMetH prog [("errors.errorType",Rows.laid_errors_errorType)] w) (λ_ _ _ b h=>h.of_heap b) oy started Tryz.func6
  (iG (enc:=enc) (C:=Tryz.checked) (os:=os) (X:=λw _=>laidMetH prog [("errors.errorType",Rows.laid_errors_errorType)] w) (gQ os) #[.agg #[.slice none 0 0,.slice none 0 0,.int .i64 0,.int .i64 0,.int .i64 0,.int .i64 0,.int .i64 0,.slice none 0 0,.slice none 0 0],.agg #[.int .i64 0,.int .i64 0,.int .i64 0,.slice none 0 0,.int .i64 0,.int .i64 0,.int .i64 0,.int .i64 0],.agg #[.int .i64 0,.int .i64 0,.int .i64 0,.int .i64 0,.int .i64 0],.slice none 0 0] 8 rfl (by kernel_rfl) (by kernel_rfl) (by kernel_rfl) (by kernel_rfl) (by kernel_rfl) (gE os _)) ?_
 intro W base args ds gs before a c d e;refine l9 (C:=Tryz.checked) Ax (tb:=4) (n:=6) Tryz.func6 (by kernel_rfl) (by kernel_rfl) (by kernel_rfl) (by kernel_rfl) Tryz.underlying4 rfl (FE (by kernel_rfl)) rfl (λds hd=>?_) afe W (oA e) base args ds gs before a c d;rw[Tryz.params6]at hd
 match ds,hd with
 |[f,g,i,j],_=>rfl
theorem aeg:Rows.CryNeedsSaid:=
 OpenClaim.holds_of_wide_leaving_time 6 Tryz.f6 rfl rfl rfl rfl rfl rfl rfl ⟨rfl,rfl,rfl,rfl,rfl⟩ rfl rfl rfl rfl rfl (by kernel_rfl) Tryz.func6 (by kernel_rfl)
  (FE (by kernel_rfl)) (by unfold Func.isWrapper;first|(rw[wS (by decide +kernel)];kernel_rfl)|(rw[wN (by decide +kernel)];exact⟨rfl,rfl⟩))
  (λos started H enc _ F=>aiR os started H enc F)
theorem cryNeeds_card:Rows.CryNeedsCardSaid:=
 eG [.handle] true (true,"274f91782bbeb822df3405a99de95c250579b6af3bbdf55307050573f2efe622") true
  aeg (by kernel_rfl) cryNeeds_row_tie rfl ⟨rfl,rfl⟩ (by kernel_rfl) rfl
  (fun f fn c a=>by
    obtain rfl:f=6:=KE ((show prog.funcNamed  "palfrey/palfreylaw07.CryNeeds"=some 6 by kernel_rfl).symm.trans c)|>.symm
    obtain rfl:fn=Tryz.f6:=(KE (Tryz.func6.symm.trans a)).symm
    exact⟨by kernel_rfl,λj t d=>by
     have b:(Tryz.f6.params.toList.all λt=>prog.wantsStandIn t==false)=true:=by kernel_rfl
     rw[LF]at b;have e:=b t (Hk.2 ⟨j,by simpa using d⟩);exact(DW (α:=Bool)).1 e⟩)
  (by kernel_rfl)
