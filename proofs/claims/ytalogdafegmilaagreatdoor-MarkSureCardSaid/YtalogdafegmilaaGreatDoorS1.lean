/- Part 1 of the proof. -/
import Derived.Test.YtalogdafegmilaaGreatDoorC36
set_option linter.all false
namespace Go.Proofs.YtalogdafegmilaaGreatDoor
open Go.aN Go.Conc
set_option maxHeartbeats 1000000
set_option maxRecDepth 4000
variable{m:Mo}{σ:aa}{KF:cL->aa->Prop}
def toldOf(n all:Int):Int:=if n=0 then 2 else if n=all then 1 else 3
theorem bx{n all:Int}(h0:0<=n)(h1:n<=all)(h2:0<all):aL n all=toldOf n all:=by
 unfold aL toldOf;by_cases a:n=0
 . subst a;rw[if_neg (by omega),if_neg (by omega),if_pos rfl]
 . rw[if_neg a]
   by_cases b:n=all
   . subst b;rw[if_neg (by omega),if_pos rfl,if_pos rfl]
   . rw[if_pos (by omega),if_neg b]
end Go.Proofs.YtalogdafegmilaaGreatDoor
namespace Go.Proofs.YtalogdafegmilaaGreatDoor
open Go.aN Go.Conc
set_option maxHeartbeats 1000000
set_option maxRecDepth 4000
theorem kq{n all:Int}(h:0<all):toldOf n all=1↔n=all:=by
 unfold toldOf;by_cases a:n=0
 . subst a;simp;omega
 . by_cases b:n=all
   . rw[if_neg a,if_pos b];simp[b]
   . simp[a,b]
theorem iH{α:Type}(p:α->Bool):∀l:List α,(l.filter p).length=l.length↔∀x∈l,p x=true
 |[]=>by simp
 | a ::l=>by
   have ih:=iH p l;have:=List.length_filter_le p l;rw[List.filter_cons];by_cases q:p a=true
   . rw[if_pos q,List.length_cons,List.length_cons]
     simp only[List.mem_cons,forall_eq_or_imp,q,true_and,<-ih];omega
   . rw[if_neg q,List.length_cons]
     simp only[List.mem_cons,forall_eq_or_imp];constructor
     . intro h;omega
     . intro h;exact absurd h.1 q
section
variable{L:List (List Int)}{n:Nat}
def fy(L:List (List Int))(x y:Nat):Int:=aL ((L.filter (aC x y)).length:Int) L.length
theorem ku(hL:0<L.length){x y:Nat}:fy L x y=1↔∀w∈L,aC x y w=true:=by
 have:=List.length_filter_le (aC (x:Int) y) L;unfold fy;rw[bx (by omega) (by omega) (by omega),kq (by omega),<-iH];omega
end
def aQ(S:Nat->Nat->Bool):Nat->List Int × Int
 |0=>([],0)
 | n+1=>
   match (List.range n).find? (λk=>S k n)with
   |some k=>((aQ S n).1++[(aQ S n).1.getD k 0],(aQ S n).2)
   |none=>((aQ S n).1++[(aQ S n).2],(aQ S n).2+1)
def lx(l:List Int):Int:=l.foldl max (-1)
structure Ac(S:Nat->Nat->Bool)(n:Nat)(l:List Int)(many:Int):Prop where
 len:l.length=n
 Gh:∀x:Nat,x<n->0<=l.getD x 0/\l.getD x 0<many
 same:∀x y:Nat,x<n->y<n->(l.getD x 0=l.getD y 0↔S x y=true)
 top:lx l=many-1
 low:∀x:Nat,x<n->l.getD x 0<=lx (l.take x)+1
 le:0<=many/\many<=n
theorem pZ(l:List Int)(a:Int):lx (l++[a])=max (lx l) a:=by unfold lx;rw[List.foldl_append];rfl
theorem GF(l:List Int)(a:Int)(x:Nat)(h:x<=l.length):(l++[a]).getD x 0=if x<l.length then l.getD x 0 else a:=by
 rw[mr];split
 . rfl
 . rw[if_pos (by omega)]
theorem xc{S:Nat->Nat->Bool}{N:Nat}(hr:∀x:Nat,x<N->S x x=true)(hs:∀x y:Nat,x<N->y<N->S x y=true->S y x=true)(ht:∀x y z:Nat,x<N->y<N->z<N->S x y=true->S y z=true->S x z=true):∀n:Nat,n<=N->Ac S n (aQ S n).1 (aQ S n).2
 |0,_=>⟨rfl,by simp,by simp,rfl,by simp,by simp[aQ]⟩
 | n + 1,hN=>by
   have ih:=xc hr hs ht n (by omega);have hlen:=ih.len;have hle:=ih.le;have gd:∀(a:Int) (x:Nat),x<=n->((aQ S n).1++[a]).getD x 0=if x<n then(aQ S n).1.getD x 0 else a:=λa x h=>by rw[GF _ _ x (by omega),hlen]
   unfold aQ;split
   . next k hk=>
     have hk1:=List.find?_some hk;have hk2:=List.mem_range.1 (List.mem_of_find?_eq_some hk);have hrk:=ih.Gh k hk2;refine⟨by simp[hlen],λx hx=>?_,λx y hx hy=>?_,?_,λx hx=>?_,by omega⟩
     . rw[gd _ x (by omega)]
       by_cases e:x<n
       . rw[if_pos e];exact ih.Gh x e
       . rw[if_neg e];exact hrk
     . rw [gd _ x (by omega),gd _ y (by omega)]
       by_cases ex:x<n
       . by_cases ey:y<n
         . rw[if_pos ex,if_pos ey];exact ih.same x y ex ey
         . rw[if_pos ex,if_neg ey]
           obtain rfl:y=n:=by omega
           rw[ih.same x k ex hk2];exact⟨λh=>ht x k y (by omega) (by omega) (by omega) h hk1,λh=>ht x y k (by omega) (by omega) (by omega) h (hs k y (by omega) (by omega) hk1)⟩
       . obtain rfl:x=n:=by omega
         rw[if_neg ex];by_cases ey:y<x
         . rw[if_pos ey,ih.same k y hk2 ey]
           exact⟨λh=>ht x k y (by omega) (by omega) (by omega) (hs k x (by omega) (by omega) hk1) h,λh=>ht k x y (by omega) (by omega) (by omega) hk1 h⟩
         . obtain rfl:y=x:=by omega
           rw[if_neg ex];simp[hr y (by omega)]
     . simp only[pZ,ih.top];omega
     . rw[gd _ x (by omega)]
       by_cases e:x<n
       . rw[if_pos e,List.take_append_of_le_length (by omega)];exact ih.low x e
       . obtain rfl:x=n:=by omega
         rw[if_neg e,List.take_append_of_le_length (by omega),List.take_of_length_le (by omega),ih.top];omega
   . next hk=>
     rw[List.find?_eq_none]at hk;have hk:∀k,k<n->S k n=false:=λk h=>by simpa using hk k (List.mem_range.2 h)
     refine⟨by simp[hlen],λx hx=>?_,λx y hx hy=>?_,?_,λx hx=>?_,by omega⟩
     . rw[gd _ x (by omega)]
       by_cases e:x<n
       . rw[if_pos e];have:=ih.Gh x e;omega
       . rw[if_neg e];omega
     . rw [gd _ x (by omega),gd _ y (by omega)]
       by_cases ex:x<n
       . by_cases ey:y<n
         . rw[if_pos ex,if_pos ey];exact ih.same x y ex ey
         . rw[if_pos ex,if_neg ey]
           obtain rfl:y=n:=by omega
           rw[hk x ex];have:=ih.Gh x ex;exact⟨λh=>by omega,λh=>by cases h⟩
       . obtain rfl:x=n:=by omega
         rw[if_neg ex];by_cases ey:y<x
         . rw[if_pos ey]
           have:=ih.Gh y ey;exact⟨λh=>by omega,λh=>by have:=hs x y (by omega) (by omega) h;rw[hk y ey]at this;cases this⟩
         . obtain rfl:y=x:=by omega
           rw[if_neg ex];simp[hr y (by omega)]
     . simp only[pZ,ih.top];omega
     . rw[gd _ x (by omega)]
       by_cases e:x<n
       . rw[if_pos e,List.take_append_of_le_length (by omega)];exact ih.low x e
       . obtain rfl:x=n:=by omega
         rw[if_neg e,List.take_append_of_le_length (by omega),List.take_of_length_le (by omega),ih.top];omega
def eS(L:List (List Int))(x y:Nat):Bool:=decide (fy L x y=1)
theorem kB{L:List (List Int)}(hL:0<L.length){x y:Nat}:eS L x y=true↔∀w∈L,aC x y w=true:=by unfold eS;rw[decide_eq_true_eq,ku hL]
theorem oE(x y:Nat)(w:List Int):aC x y w=aC y x w:=by simp only[aC,eq_comm]
theorem GG(L:List (List Int))(x y:Nat):fy L x y=fy L y x:=by unfold fy;rw[show aC (x:Int) y=aC (y:Int) x from funext λw=>oE x y w]
theorem mQ{x y z:Nat}{w:List Int}(h1:aC x y w=true)(h2:aC y z w=true):aC x z w=true:=by simp only[aC,decide_eq_true_eq]at h1 h2 ⊢;rw[h1,h2]
theorem rQ(x:Nat)(w:List Int):aC x x w=true:=by simp[aC]
theorem sY{L:List (List Int)}(hL:0<L.length)(n:Nat):Ac (eS L) n (aQ (eS L) n).1 (aQ (eS L) n).2:=
 xc (N:=n) (λx _=>(kB hL).2 λw _=>rQ x w)
  (λx y _ _ h=>(kB hL).2 λw hw=>by rw[oE];exact(kB hL).1 h w hw)
  (λx y z _ _ _ h1 h2=>(kB hL).2 λw hw=>mQ ((kB hL).1 h1 w hw) ((kB hL).1 h2 w hw)) n (Nat.le_refl _)
section
variable{L:List (List Int)}{n:Nat}
end
theorem jD{b mb:Nat}{f:Fr}{σ σ':aa}(h:v4 b 6 mb .u8 (dm f) σ)(h1:σ' b=σ b)(h2:σ' mb=σ mb):v4 b 6 mb .u8 (dm f) σ':=by unfold v4 at h ⊢;rw[h1,h2];exact h
end Go.Proofs.YtalogdafegmilaaGreatDoor
namespace Go.Proofs.YtalogdafegmilaaGreatDoor
open Go.aN Go.Conc
set_option maxHeartbeats 2000000
set_option maxRecDepth 4000
variable{m:Mo}{σ:aa}{KF:cL->aa->Prop}
theorem B3{σ0 σ:aa}{a:AV}{kk:Nat}{es:List AV}(h:Tok σ0 σ a kk es)(hne:es≠[]):∃sp,a=.sl kk es sp:=by
 rcases h.2 with⟨_,q⟩|q|⟨b,e,_,q,_⟩
 . exact absurd q hne
 . exact⟨_,q⟩
 . exact⟨_,q⟩
theorem LI{σ0 σ σ':aa}{a:AV}{kk:Nat}{es:List AV}{b mb:Nat}(h:Tok σ0 σ a kk es)(hk:j8 b mb σ σ')(hb:σ0 b=none/\σ0 mb=none)(h1:∀e,σ b≠some (.tail e))(h2:∀e,σ mb≠some (.tail e)):Tok σ0 σ' a kk es:=by
 refine iQ h (λy x hy=>?_) λd hd=>?_
 . have yb:y≠b:=λe=>by subst e;rw[hb.1]at hy;cases hy
   have ym:y≠mb:=λe=>by subst e;rw[hb.2]at hy;cases hy
   exact hk y x (h.1 y x hy) yb (.inl ym)
 . obtain⟨g1,e,g2⟩:=h.aW hd
   refine⟨?_,g1⟩;rw[g2];exact hk d _ g2 (λq=>by subst q;exact h1 _ g2) (.inl λq=>by subst q;exact h2 _ g2)
theorem qR{σ0 σ σ':aa}{a a':AV}{kk k3:Nat}{es e3:List AV}{y:Nat}(h:Tok σ0 σ a kk es)(h3:Tok (σ.off a) σ' a' k3 e3)(h1:∀e,σ y≠some (.tail e))(h2:(σ y).isSome=true):σ' y=σ y:=by
 obtain⟨x,hx⟩:=Option.isSome_iff_exists.1 h2;rw[hx];refine h3.1 _ _ ?_;rw[aa.fU (λq=>by obtain⟨_,e,q2⟩:=h.aW q;exact h1 e q2)];exact hx
theorem LJ{a a' b:AV}(h:a.W a'):(AV.c9 [a,b]).W (.c9 [a',b]):=yx rfl λi x y x1 x2=>by
 match i with
 |0=>simp at x1 x2;subst x1;subst x2;exact h
 |1=>simp at x1 x2;subst x1;subst x2;exact .refl _
 |i+2=>simp at x1
theorem Cb{S:Nat->Nat->Bool}{n k:Nat}(hk:k<n)(h1:∀j,j<k->S j n=false)(h2:S k n=true):(List.range n).find? (λj=>S j n)=some k:=by
 rw[List.find?_eq_some_iff_append];refine⟨h2,List.range k,List.range' (k+1) (n-(k+1)),?_,λa ha=>by simp[h1 a (List.mem_range.1 ha)]⟩
 have e:n=k+(1+(n-(k+1))):=by omega
 have e1:List.range' 0 k++List.range' k (1+(n-(k+1)))=List.range' 0 n:=by have:=@List.range'_append_1 0 k (1+(n-(k+1)));rw[Nat.zero_add,<-e]at this;exact this
 rw[List.range_eq_range',List.range_eq_range',<-e1,Nat.add_comm 1,List.range'_succ]
theorem JP{S:Nat->Nat->Bool}{n:Nat}(h1:∀j,j<n->S j n=false):(List.range n).find? (λj=>S j n)=none:=by rw[List.find?_eq_none];intro j hj;simp[h1 j (List.mem_range.1 hj)]
theorem Cc{S:Nat->Nat->Bool}{n k:Nat}(h:(List.range n).find? (λj=>S j n)=some k):aQ S (n+1)=((aQ S n).1++[(aQ S n).1.getD k 0],(aQ S n).2):=by rw[aQ,h]
theorem Cd{S:Nat->Nat->Bool}{n:Nat}(h:(List.range n).find? (λj=>S j n)=none):aQ S (n+1)=((aQ S n).1++[(aQ S n).2],(aQ S n).2+1):=by rw[aQ,h]
theorem Ez(hs:m.solo=true){f:Fr}(hf:f.Fits)(hc:check f=0)(hway:ak f []≠[])(h:KF (.val (.c9 [ints (aQ (eS (ak f [])) f.az.length).1,int 0])) σ):aA Tryz.prog m 32 [aF f] σ KF:=by
 have hg:=Fr.jw hf hc;have h6:=hg.pi;have hlen:=fa hg [];have hL0:0<(ak f []).length:=List.length_pos_iff.2 hway;refine aA.start lay [] [] 1 Tryz.func32 rfl rfl (by rfl) (by kernel_rfl) ?_
 simp[Tryz.f32];have hW:Wl [aF f,AV.lit (.slice none 0 0)] [aF f,.sl 1 (([]:List Int).map int) .any]:=.cons (.refl _) (.cons (fT 1) .nil);refine bs Tryz.func56 rfl rfl hW (im (l:=[]) (sp:=.any) hs hf hc (by simp) (by simp) hway λb mb σ0 hne hu hfr hle0=>?_)
 refine ab.run lay [] ?_;simp;obtain⟨n,hnn⟩:∃n,n=f.az.length:=⟨_,rfl⟩;obtain⟨L,hL⟩:∃L,L=ak f []:=⟨_,rfl⟩;rw[<-hL,<-hnn]at h;rw[<-hL]at hL0 hlen;refine ab.loop n (λx s=>∃env σ' a,s=⟨env,σ',[],.no⟩/\env 1=.cp (aF f) 0/\env 4=iF b mb f 0/\env 6=a/\env 7=int (aQ (eS L) x).2/\env 20=int n/\env 21=int x/\v4 b 6 mb .u8 (dm f) σ'/\Tok σ σ' a 1 ((aQ (eS L) x).1.map int)) ⟨_,σ0,.lit (.slice none 0 0),rfl,by simp,by simp,by simp,by simp[aQ],by simp[hnn],by simp,hu,hle0,.inl ⟨rfl,rfl⟩⟩ ?_
 clear hu hle0
 rintro k0 x _ hx ⟨env,σ',a,rfl,e1,e4,e6,e7,tW,v5,hu,htok⟩ ihx
 have htc:=htok.cells;have hG:=sY hL0 x;have hGl:=hG.len;have hGm:=hG.le
 have nt:∀{σx:aa}{e:_},v4 b 6 mb .u8 (dm f) σx->σx b≠some (.tail e)/\σx mb≠some (.tail e):=λ{σx e} hux=>by obtain⟨u1,l,u2,_⟩:=hux;rw[u1,u2];simp[mapA]
 rcases Nat.lt_or_ge x n with g1|g1
 . have g1':(x:Int)<n:=by omega
   have f1:-9223372036854775808<=(x:Int)+1/\(x:Int)+1<=9223372036854775807:=by omega
   refine ab.run lay [] ?_;simp[e1,e4,e6,e7,tW,v5,htc.1,htc.2,g1'];refine ab.loop x (λk s=>∃env σ',s=⟨env,σ',[],.no⟩/\env 1=.cp (aF f) 0/\env 4=iF b mb f 0/\env 6=a/\env 7=int (aQ (eS L) x).2/\env 20=int n/\env 21=int x/\env 8=int x/\env 24=int x/\env 25=int k/\v4 b 6 mb .u8 (dm f) σ'/\Tok σ σ' a 1 ((aQ (eS L) x).1.map int)/\∀j,j<k->eS L j x=false) ⟨_,σ',rfl,by simp[e1],by simp[e4],by simp[e6],by simp[e7],by simp[tW],by simp[v5],by simp,by simp,by simp,hu,htok,by simp⟩ ?_
   clear e1 e4 e6 e7 tW v5 hu htok
   rintro k1 k _ hk ⟨env,σ',rfl,e1,e4,e6,e7,tW,v5,e8,Ad,e25,hu,htok,hno⟩ ihk
   rcases Nat.lt_or_ge k x with g2|g2
   . have ns:(k:Int)<x:=by omega
     have f2:-9223372036854775808<=(k:Int)+1/\(k:Int)+1<=9223372036854775807:=by omega
     refine ab.run lay [] ?_;simp[e1,e4,e6,e7,tW,v5,e8,Ad,e25,htc.1,htc.2,ns];refine aq Tryz.func62 rfl rfl (Do (fQ nk np tB hs hne) hg ⟨by omega,by omega⟩ ⟨by omega,by omega⟩ (by rw[<-hL];omega) hu λσ2 hu2 q2=>?_)
     rw[<-hL];rw[show aL ((L.filter (aC k x)).length:Int) L.length=fy L k x from rfl]
     have htok2:=LI htok q2 hfr (λe=>(nt hu).1) (λe=>(nt hu).2)
     by_cases q:fy L k x=1
     . have qb:(fy L k x==1)=true:=by simp[q]
       have hfi:=Cb g2 hno (by simp[eS,q])
       have hstep:=Cc hfi;obtain⟨sp,rfl⟩:=B3 htok2 (λe=>by have:=congrArg List.length e;rw[List.length_map,hGl]at this;simp at this;omega)
       have hkl:k<(aQ (eS L) x).1.length:=by omega
       have hget:(aQ (eS L) x).1.getD k 0=(aQ (eS L) x).1[k]:=by simp[List.getD_eq_getElem?_getD,hkl]
       refine ab.run lay [] ?_;simp[e1,e4,e6,e7,tW,v5,e8,Ad,e25,htc.1,htc.2,qb,hkl];refine aM lay rfl rfl rfl cA rfl cA rfl pQ (by decide) (by simp[hGl];omega) (σ0:=σ2.off (.sl 1 ((aQ (eS L) x).1.map int) sp)) (es:=(aQ (eS L) x).1.map int) (xs:=[int (aQ (eS L) x).1[k]]) (by simpa using htok2.here.1) (.inr ⟨_,by simp;rfl⟩) λa' σ3 ht3=>?_
       have htok3:=ht3.base htok2.here.2;have htc3:=htok3.cells;have hu3:=jD hu2 (qR htok2 ht3 (λe=>(nt hu2).1) (by obtain⟨u1,_⟩:=hu2;rw[u1];simp)) (qR htok2 ht3 (λe=>(nt hu2).2) (by obtain⟨_,l,u2,_⟩:=hu2;rw[u2];simp))
       refine ab.run lay [] ?_;simp[e1,e4,e7,tW,v5,e8,Ad,e25,f1.1,f1.2,htc3.1,htc3.2];refine ihx _ g1 ⟨_,_,a',rfl,by simp[e1],by simp[e4],by simp,by simp[e7,hstep],by simp[tW],by simp,hu3,?_⟩
       rw[hstep,hget];simpa using htok3
     . have qb:(fy L k x==1)=false:=by simp[q]
       refine ab.run lay [] ?_;simp[e1,e4,e6,e7,tW,v5,e8,Ad,e25,htc.1,htc.2,qb,f2.1,f2.2];refine ihk _ g2 ⟨_,_,rfl,by simp[e1,e4,e6,e7,tW,v5,e8,Ad,e25,htc.1,htc.2],by simp[e1,e4,e6,e7,tW,v5,e8,Ad,e25,htc.1,htc.2],by simp[e1,e4,e6,e7,tW,v5,e8,Ad,e25,htc.1,htc.2],by simp[e1,e4,e6,e7,tW,v5,e8,Ad,e25,htc.1,htc.2],by simp[e1,e4,e6,e7,tW,v5,e8,Ad,e25,htc.1,htc.2],by simp[e1,e4,e6,e7,tW,v5,e8,Ad,e25,htc.1,htc.2],by simp[e1,e4,e6,e7,tW,v5,e8,Ad,e25,htc.1,htc.2],by simp[e1,e4,e6,e7,tW,v5,e8,Ad,e25,htc.1,htc.2],by simp,hu2,htok2,λj hj=>?_⟩
       rcases Nat.lt_or_ge j k with g|g
       . exact hno j g
       . obtain rfl:j=k:=by omega
         simp[eS,q]
   . have hke:k=x:=by omega
     subst hke;have hstep:=Cd (JP hno);have f3:-9223372036854775808<=(aQ (eS L) k).2+1/\(aQ (eS L) k).2+1<=9223372036854775807:=by omega
     refine ab.run lay [] ?_;simp[e1,e4,e6,e7,tW,v5,e8,Ad,e25,htc.1,htc.2];refine aM lay rfl rfl rfl cA rfl cA rfl pQ (by decide) (by simp[hGl];omega) (σ0:=σ'.off a) (es:=(aQ (eS L) k).1.map int) (xs:=[int (aQ (eS L) k).2]) (by simpa using htok.here.1) (.inr ⟨_,by simp;rfl⟩) λa' σ3 ht3=>?_
     have htok3:=ht3.base htok.here.2;have htc3:=htok3.cells;have hu3:=jD hu (qR htok ht3 (λe=>(nt hu).1) (by obtain⟨u1,_⟩:=hu;rw[u1];simp)) (qR htok ht3 (λe=>(nt hu).2) (by obtain⟨_,l,u2,_⟩:=hu;rw[u2];simp))
     refine ab.run lay [] ?_;simp[e1,e4,e7,tW,v5,e8,Ad,e25,f1.1,f1.2,f3.1,f3.2,htc3.1,htc3.2];refine ihx _ g1 ⟨_,_,a',rfl,by simp[e1],by simp[e4],by simp,by simp[hstep],by simp[tW],by simp,hu3,?_⟩
     rw[hstep];simpa using htok3
 . have hxe:x=n:=by omega
   subst hxe;refine ab.run lay [] ?_;simp[e1,e4,e6,e7,tW,v5,htc.1,htc.2];exact .less htok.1 (.nC (LJ htok.W) (.done h))
namespace MS
abbrev RU:List Entry:=[⟨18,.take [0,1,2,3,4,5,6,7,8,9,10,11,12,13,14,15,16,17,18,19,20,21,22] false (.one 23 (.one 24 (.done)))⟩]
theorem Ae(hs:m.solo=true){nums:List Int}(hn:nums.length<1152921504606846976)(h:KF (.val (bool true)) σ):gq Tryz.prog lay m 9 [ints nums] σ KF:=by
 refine gq.start lay [] RU 1 Tryz.func9 rfl rfl (by rfl) (by kernel_rfl) ?_;simp[Tryz.f9];refine aq Tryz.func13 rfl rfl (kv λc σ1 hc hb hsame=>?_);refine ab.run lay [] ?_;simp;refine aq Tryz.func25 rfl rfl (lX (by omega) hn ⟨by omega,by omega⟩ hb λf ks σ2 hf hd=>?_);refine ab.run lay [] ?_;simp;refine cT.intro λd hd3=>?_
 simp;have hle:σ.Le ((σ2.set d (.cells (eP f))).del d):=qv hc hsame hd.2 hd3;have hg:=hf.jw;have hfit:=hg.fits;have hchk:=hg.Ng;have h6:=hg.pi;have hway:=hf.ways;have hlen:=fa hg [];have hL0:0<(ak f []).length:=List.length_pos_iff.2 hway;refine aq Tryz.func32 rfl rfl (Ez hs hfit hchk hway ?_);refine ab.cZ 3 (b:=d) (aF f) (by simp) (by simp) rfl ?_;refine ab.weaken (σ:=σ) ?_ hle;obtain⟨n,hnn⟩:∃n,n=f.az.length:=⟨_,rfl⟩;have hG:=sY hL0 n;rw[<-hnn];generalize (aQ (eS (ak f [])) n).1=l at hG ⊢;generalize (aQ (eS (ak f [])) n).2=many at hG;have hll:=hG.len;have hml:=hG.le;have hrg:=hG.Gh;have hq0:((l.length:Int) !=(n:Int))=false:=by simp[hll]
 refine ab.run lay [] ?_;simp[hll,hnn];refine ab.loop n (λx s=>∃env,s=⟨env,σ,[],.no⟩/\env 3=.cp (aF f) 0/\env 5=int n/\env 6=ints l/\env 8=int (lx (l.take x))/\env 9=int x) ⟨_,rfl,by simp,by simp[hnn],by simp,by simp[lx],by simp⟩ ?_;rintro c0 x _ hx ⟨env,rfl,e3,e5,e6,e8,e9⟩ ihx;rcases Nat.lt_or_ge x n with g1|g1
 . have g1':(x:Int)<n:=by omega
   have f1:-9223372036854775808<=(x:Int)+1/\(x:Int)+1<=9223372036854775807:=by omega
   have hxl:x<l.length:=by omega
   have hlx:l.getD x 0=l[x]:=by simp[List.getD_eq_getElem?_getD,hxl]
   have hx1:=hrg x g1;have hx2:=hG.low x g1;rw[hlx]at hx1 hx2;have JQ:lx (l.take (x+1))=max (lx (l.take x)) l[x]:=by rw[List.take_succ_eq_append_getElem hxl,pZ]
   have htb:lx (l.take x)+1<=100/\-100<=lx (l.take x)+1:=by
    have key:∀(r:List Int) (a:Int),a<=9 -> -1<=a->(∀z∈r,z<=9)->r.foldl max a<=9/\-1<=r.foldl max a:=λr=>by
     induction r with
     |nil=>intro a h1 h2 _;exact⟨h1,h2⟩
     |cons b r ih=>intro a h1 h2 h3;have:=h3 b (by simp);exact ih _ (by omega) (by omega) λz hz=>h3 z (by simp[hz])
    have:=key (l.take x) (-1) (by omega) (by omega) λz hz=>by
     obtain⟨j,hj,e⟩:=List.mem_iff_getElem.1 (List.mem_of_mem_take hz);have:=hrg j (by omega);rw[show l.getD j 0=z by rw[<-e];simp[List.getD_eq_getElem?_getD,hj]]at this;omega
    unfold lx;omega
   generalize lx (l.take x)=top at *;have f2:-9223372036854775808<=top+1/\top+1<=9223372036854775807:=by omega
   have n1:¬l[x]<0:=by omega
   have n2:¬l[x]>top+1:=by omega
   refine ab.run lay [] ?_;simp[e3,e5,e6,e8,e9,g1',hxl,f2.1,f2.2,n1,n2];refine ab.loop n (λy s=>∃env,s=⟨env,σ,[],.no⟩/\env 3=.cp (aF f) 0/\env 5=int n/\env 6=ints l/\env 8=int (lx (l.take (x+1)))/\env 9=int x/\env 10=int y) ⟨_,rfl,by simp[e3],by simp[e5],by simp[e6],by simp[JQ];split<;>omega,by simp[e9],by simp⟩ ?_;clear e3 e5 e6 e8 e9;rintro c1 y _ hy ⟨env,rfl,e3,e5,e6,e8,e9,aJ⟩ ihy;rcases Nat.lt_or_ge y n with g2|g2
   . have ns:(y:Int)<n:=by omega
     have f3:-9223372036854775808<=(y:Int)+1/\(y:Int)+1<=9223372036854775807:=by omega
     have hyl:y<l.length:=by omega
     have hly:l.getD y 0=l[y]:=by simp[List.getD_eq_getElem?_getD,hyl]
     have hsm:=hG.same x y g1 g2;rw[hlx,hly]at hsm;obtain⟨v,hv⟩:∃v,v=fy (ak f []) x y:=⟨_,rfl⟩;have hv2:v=fy (ak f []) y x:=by rw[hv,GG]
     unfold eS at hsm;rw[decide_eq_true_eq,<-hv]at hsm;refine ab.run lay [] ?_;simp[e3,e5,e6,e8,e9,aJ,ns];refine aq Tryz.func27 rfl rfl (jr hs hfit hchk ⟨by omega,by omega⟩ ⟨by omega,by omega⟩ hway (by omega) ?_);rw[show aL (((ak f []).filter (aC x y)).length:Int) (ak f []).length=v from hv.symm];refine ab.run lay [] ?_;simp[e3,e5,e6,e8,e9,aJ];refine aq Tryz.func27 rfl rfl (jr hs hfit hchk ⟨by omega,by omega⟩ ⟨by omega,by omega⟩ hway (by omega) ?_);rw[show aL (((ak f []).filter (aC y x)).length:Int) (ak f []).length=v from hv2.symm];by_cases q:v=1
     . have q1:(v==1)=true:=by simp[q]
       have q2:(l[x]==l[y])=true:=by simp[hsm.2 q]
       refine ab.run lay [] ?_;simp[e3,e5,e6,e8,e9,aJ,q1,q2,hxl,hyl];refine ab.run lay [] ?_;simp[e3,e5,e6,e8,e9,aJ,f3.1,f3.2];exact ihy _ g2 ⟨_,rfl,by simp[e3,e5,e6,e8,e9,aJ],by simp[e3,e5,e6,e8,e9,aJ],by simp[e3,e5,e6,e8,e9,aJ],by simp[e3,e5,e6,e8,e9,aJ],by simp[e3,e5,e6,e8,e9,aJ],by simp⟩
     . have q1:(v==1)=false:=by simp[q]
       have q2:(l[x]==l[y])=false:=by rw[beq_eq_false_iff_ne];exact λe=>q (hsm.1 e)
       refine ab.run lay [] ?_;simp[e3,e5,e6,e8,e9,aJ,q1,q2,hxl,hyl];refine ab.run lay [] ?_;simp[e3,e5,e6,e8,e9,aJ,f3.1,f3.2];exact ihy _ g2 ⟨_,rfl,by simp[e3,e5,e6,e8,e9,aJ],by simp[e3,e5,e6,e8,e9,aJ],by simp[e3,e5,e6,e8,e9,aJ],by simp[e3,e5,e6,e8,e9,aJ],by simp[e3,e5,e6,e8,e9,aJ],by simp⟩
   . have hye:y=n:=by omega
     subst hye;refine ab.run lay [] ?_;simp[e3,e5,e6,e8,e9,aJ,f1.1,f1.2];exact ihx _ g1 ⟨_,rfl,by simp[e3,e5,e6,e8,e9,aJ],by simp[e3,e5,e6,e8,e9,aJ],by simp[e3,e5,e6,e8,e9,aJ],by simp[e3,e5,e6,e8,e9,aJ],by simp⟩
 . have hxe:x=n:=by omega
   subst hxe;refine ab.run lay [] ?_;simp[e3,e5,e6,e8,e9];refine aq Tryz.func20 rfl rfl (ip hs ?_);refine ab.run lay [] ?_;simp[e3,e5,e6,e8,e9];exact .done h
end MS
end Go.Proofs.YtalogdafegmilaaGreatDoor
