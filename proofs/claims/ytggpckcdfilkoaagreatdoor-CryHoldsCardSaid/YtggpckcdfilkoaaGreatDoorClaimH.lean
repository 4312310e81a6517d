/- For every input cry's Known, Held and Why answer what the reference answers (CryHolds). No condition beyond the row's. -/
import Derived.Test.YtggpckcdfilkoaaGreatDoorCards
import Derived.Test.YtggpckcdfilkoaaGreatDoorTie
import Derived.Test.YtggpckcdfilkoaaGreatDoorH4
set_option linter.all false
namespace Go.Proofs.YtggpckcdfilkoaaGreatDoor
open Go.Proofs.Tryz (prog)
open Go Go.bu Go.ChangeShapes Go.WideShapes Go.RowKit
set_option maxRecDepth 100000 in
theorem aiY:∀b:We,b.length=Tryz.f4.params.size->(∀(i:Nat) t a,Tryz.f4.params[i]?=some t->b[i]?=some a->dh prog 6 t a)->ll prog Ax wF 4 b (vL 0 [fW]) (λres _=>res=.val (.lit (.bool true))):=by
 intro b k h;rw[Tryz.params4]at k h
 obtain⟨c,d,e,f,g,j,rfl⟩:∃c d e f g j,b=[c,d,e,f,g,j]:=by
  match b,k with
  |[c,d,e,f,g,j],_=>exact⟨_,_,_,_,_,_,rfl⟩
 obtain⟨o,rfl,l⟩:=oE (h 0 _ c rfl rfl);obtain⟨p,rfl,m⟩:=oD (h 1 _ d rfl rfl);obtain⟨q,rfl⟩:=oC (h 2 _ e rfl rfl);obtain⟨r,rfl⟩:=bb (h 3 _ f rfl rfl);obtain⟨s,rfl⟩:=bb (h 4 _ g rfl rfl);obtain⟨u,rfl,n⟩:=iH (h 5 _ j rfl rfl);exact RH.JM rfl rfl l m n λ_=>rfl
set_option maxRecDepth 100000 in
theorem akQ(os:Os)(started:os.Started)(H:Type)(enc:TypeId × Value->H)(F:Stop.Interp):
 ReturnsInLeavingWide Rows.cryHoldsRow.assume Tryz.checked os 4 .any (λw args=>(Rows.cryHoldsSpec.pre enc prog Tryz.f4 [] false w args/\laidMetH prog [("errors.errorType",Rows.laid_errors_errorType)] w)/\sizedMet enc prog Tryz.f4 (OpenSpec.ofChange Rows.cryHoldsSpec) false w args)
  ((OpenSpec.ofChange Rows.cryHoldsSpec).postWith enc prog Tryz.f4 F (outsideKept [.timePasses]) false true false):=by
 refine dK (C:=Tryz.checked) (X:=λw _=>laidMetH prog [("errors.errorType",Rows.laid_errors_errorType)] w) (λ_ _ _ b h=>h.of_heap b) oy started Tryz.func4
  (iG (enc:=enc) (C:=Tryz.checked) (os:=os) (X:=λw _=>laidMetH prog [("errors.errorType",Rows.laid_errors_errorType)] w) (gQ os) #[.agg #[.slice none 0 0,.slice none 0 0,.int .i64 0,.int .i64 0,.int .i64 0,.int .i64 0,.int .i64 0,.slice none 0 0,.slice none 0 0],.agg #[.int .i64 0,.int .i64 0,.int .i64 0,.slice none 0 0,.int .i64 0,.int .i64 0,.int .i64 0,.int .i64 0],.agg #[.int .i64 0,.int .i64 0,.int .i64 0,.int .i64 0,.int .i64 0],.int .i64 0,.int .i64 0,.slice none 0 0] 8 rfl (by kernel_rfl) (by kernel_rfl) (by kernel_rfl) (by kernel_rfl) (by kernel_rfl) (gE os _)) ?_
 intro W base args ds gs before a c d e;refine l9 (C:=Tryz.checked) Ax (tb:=4) (n:=6) Tryz.func4 (by kernel_rfl) (by kernel_rfl) (by kernel_rfl) (by kernel_rfl) Tryz.underlying4 rfl (FE (by kernel_rfl)) rfl (λds hd=>?_) aiY W (oA e) base args ds gs before a c d;rw[Tryz.params4]at hd
 match ds,hd with
 |[f,g,i,j,k,l],_=>rfl
theorem afv:Rows.CryHoldsSaid:=
 OpenClaim.holds_of_wide_leaving_time 4 Tryz.f4 rfl rfl rfl rfl rfl rfl rfl ⟨rfl,rfl,rfl,rfl,rfl⟩ rfl rfl rfl rfl rfl (by kernel_rfl) Tryz.func4 (by kernel_rfl)
  (FE (by kernel_rfl)) (by unfold Func.isWrapper;first|(rw[wS (by decide +kernel)];kernel_rfl)|(rw[wN (by decide +kernel)];exact⟨rfl,rfl⟩))
  (λos started H enc _ F=>akQ os started H enc F)
theorem cryHolds_card:Rows.CryHoldsCardSaid:=
 eG [.handle] true (true,"274f91782bbeb822df3405a99de95c250579b6af3bbdf55307050573f2efe622") true
  afv (by kernel_rfl) cryHolds_row_tie rfl ⟨rfl,rfl⟩ (by kernel_rfl) rfl
  (fun f fn c a=>by
    obtain rfl:f=4:=KE ((show prog.funcNamed  "palfrey/palfreylaw07.CryHolds"=some 4 by kernel_rfl).symm.trans c)|>.symm
    obtain rfl:fn=Tryz.f4:=(KE (Tryz.func4.symm.trans a)).symm
    exact⟨by kernel_rfl,λj t d=>by
     have b:(Tryz.f4.params.toList.all λt=>prog.wantsStandIn t==false)=true:=by kernel_rfl
     rw[LF]at b;have e:=b t (Hk.2 ⟨j,by simpa using d⟩);exact(DW (α:=Bool)).1 e⟩)
  (by kernel_rfl)
