/- For every input cry's Found and Verdict answer what the reference answers (CryFinds). No condition beyond the row's. -/
import Derived.Test.YtggpckcdfilkoaaGreatDoorCards
import Derived.Test.YtggpckcdfilkoaaGreatDoorTie
import Derived.Test.YtggpckcdfilkoaaGreatDoorF8
set_option linter.all false
namespace Go.Proofs.YtggpckcdfilkoaaGreatDoor
open Go.Proofs.Tryz (prog)
open Go Go.bu Go.ChangeShapes Go.WideShapes Go.RowKit
set_option maxRecDepth 100000 in
theorem aec:∀b:We,b.length=Tryz.f7.params.size->(∀(i:Nat) t a,Tryz.f7.params[i]?=some t->b[i]?=some a->dh prog 6 t a)->ll prog Ax wF 7 b (vL 0 [fW]) (λres _=>res=.val (.lit (.bool true))):=by
 intro b j h;rw[Tryz.params7]at j h
 obtain⟨c,d,e,f,g,rfl⟩:∃c d e f g,b=[c,d,e,f,g]:=by
  match b,j with
  |[c,d,e,f,g],_=>exact⟨_,_,_,_,_,rfl⟩
 obtain⟨n,rfl,k⟩:=oE (h 0 _ c rfl rfl);obtain⟨o,rfl,l⟩:=oD (h 1 _ d rfl rfl);obtain⟨p,rfl⟩:=oC (h 2 _ e rfl rfl);obtain⟨q,rfl⟩:=bb (h 3 _ f rfl rfl);obtain⟨r,rfl,m⟩:=iH (h 4 _ g rfl rfl);exact RF.JB rfl rfl k l m λ_=>rfl
set_option maxRecDepth 100000 in
theorem rows(os:Os)(started:os.Started)(H:Type)(enc:TypeId × Value->H)(F:Stop.Interp):
 ReturnsInLeavingWide Rows.cryFindsRow.assume Tryz.checked os 7 .any (λw args=>(Rows.cryFindsSpec.pre enc prog Tryz.f7 [] false w args/\laidMetH prog [("errors.errorType",Rows.laid_errors_errorType)] w)/\sizedMet enc prog Tryz.f7 (OpenSpec.ofChange Rows.cryFindsSpec) false w args)
  ((OpenSpec.ofChange Rows.cryFindsSpec).postWith enc prog Tryz.f7 F (outsideKept [.timePasses]) false true false):=by
 refine dK (C:=Tryz.checked) (X:=λw _=>laidMetH prog [("errors.errorType",Rows.laid_errors_errorType)] w) (λ_ _ _ b h=>h.of_heap b) oy started Tryz.func7
  (iG (enc:=enc) (C:=Tryz.checked) (os:=os) (X:=λw _=>laidMetH prog [("errors.errorType",Rows.laid_errors_errorType)] w) (gQ os) #[.agg #[.slice none 0 0,.slice none 0 0,.int .i64 0,.int .i64 0,.int .i64 0,.int .i64 0,.int .i64 0,.slice none 0 0,.slice none 0 0],.agg #[.int .i64 0,.int .i64 0,.int .i64 0,.slice none 0 0,.int .i64 0,.int .i64 0,.int .i64 0,.int .i64 0],.agg #[.int .i64 0,.int .i64 0,.int .i64 0,.int .i64 0,.int .i64 0],.int .i64 0,.slice none 0 0] 8 rfl (by kernel_rfl) (by kernel_rfl) (by kernel_rfl) (by kernel_rfl) (by kernel_rfl) (gE os _)) ?_
 intro W base args ds gs before a c d e;refine l9 (C:=Tryz.checked) Ax (tb:=4) (n:=6) Tryz.func7 (by kernel_rfl) (by kernel_rfl) (by kernel_rfl) (by kernel_rfl) Tryz.underlying4 rfl (FE (by kernel_rfl)) rfl (λds hd=>?_) aec W (oA e) base args ds gs before a c d;rw[Tryz.params7]at hd
 match ds,hd with
 |[f,g,i,j,k],_=>rfl
theorem aeE:Rows.CryFindsSaid:=
 OpenClaim.holds_of_wide_leaving_time 7 Tryz.f7 rfl rfl rfl rfl rfl rfl rfl ⟨rfl,rfl,rfl,rfl,rfl⟩ rfl rfl rfl rfl rfl (by kernel_rfl) Tryz.func7 (by kernel_rfl)
  (FE (by kernel_rfl)) (by unfold Func.isWrapper;first|(rw[wS (by decide +kernel)];kernel_rfl)|(rw[wN (by decide +kernel)];exact⟨rfl,rfl⟩))
  (λos started H enc _ F=>rows os started H enc F)
theorem cryFinds_card:Rows.CryFindsCardSaid:=
 eG [.handle] true (true,"274f91782bbeb822df3405a99de95c250579b6af3bbdf55307050573f2efe622") true
  aeE (by kernel_rfl) cryFinds_row_tie rfl ⟨rfl,rfl⟩ (by kernel_rfl) rfl
  (fun f fn c a=>by
    obtain rfl:f=7:=KE ((show prog.funcNamed  "palfrey/palfreylaw07.CryFinds"=some 7 by kernel_rfl).symm.trans c)|>.symm
    obtain rfl:fn=Tryz.f7:=(KE (Tryz.func7.symm.trans a)).symm
    exact⟨by kernel_rfl,λj t d=>by
     have b:(Tryz.f7.params.toList.all λt=>prog.wantsStandIn t==false)=true:=by kernel_rfl
     rw[LF]at b;have e:=b t (Hk.2 ⟨j,by simpa using d⟩);exact(DW (α:=Bool)).1 e⟩)
  (by kernel_rfl)
