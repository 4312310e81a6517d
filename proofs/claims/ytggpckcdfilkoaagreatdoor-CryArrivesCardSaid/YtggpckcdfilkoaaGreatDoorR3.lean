import Derived.Test.YtggpckcdfilkoaaGreatDoorR2
set_option linter.all false
set_option maxHeartbeats 2000000
set_option maxRecDepth 4000
namespace Go.Proofs.YtggpckcdfilkoaaGreatDoor
open Go.Proofs.Tryz hiding f0 f1 f10
section
open Go.bu
abbrev pl5:YA:=[⟨3,.take (MX 0 4) false (MU [4,5] (MV [6]))⟩,⟨12,.take (MX 0 5) false (MU [5] (MV (MX 6 5)))⟩,⟨13,.take (MX 0 8) false (MU [8] (MV (MX 9 5)))⟩,⟨14,.take (MX 0 5) false (MU [5] (MV (MX 6 5)))⟩,⟨15,.take (MX 0 8) false (MU [8] (MV (MX 9 5)))⟩,⟨18,.take [0,2,3,4,5] false (MU [1,6] (.take (MX 7 7) false (MU [14] (MV [15,16]))))⟩]
abbrev R9:YA:=[⟨7,.take [0,1,2,3,4,5,7,8,9,10,11,12] false (MU [6,13,14] (MV [15]))⟩]
end
section
open Go Go.bu Go.Conc
variable{m:Mo}{σ:af}{KF:YC}
def Xo{kk es d sp}(g:es.length=d.length)(h:∀a∈es,a.cells.length=kk)(e:∀a∈d,a.cells.length=kk)(l:∀(i:Nat) a a',(RP es)[i]?=some a->(RP d)[i]?=some a'->a.W a'):(AV.sl kk es sp).W (.sl kk d .any):=λk x m=>by
 have f1:=bL h;have r:=bL e;cases m with
 | sl b off cap _ N E _ _ c f n o s t u v=>
   rw[g]at f f1 ⊢;refine .sl b off cap kk N E d .any c f n o e am (λj a p=>?_) trivial;have w:j<(RP es).length:=am
   exact l j (RP es)[j] a am p k _ am
 | slnil q=>
   have:d=[]:=am
   subst this;exact .slnil q kk .any (.inl rfl)
def acB  t h :(AV.sl 2 [.agg [.sl 1 [Xn t] .exact,Xn h]] .exact).W (.sl 2 ([([t],h)].map lN) .any):=Xo rfl aq aq λi a d b c=>by
 match i with
 |0=>cases b;cases c;grind [eo]
 |1=>cases b;cases c;exact .refl _
 |n+2=>cases b
def S9{α:Type}{L}{G:α->Bool}{n k i}(a:k<n)  hi  (b:∀k'<k,∀x∈L k',G x=false) (c:∀x∈(L k).take i,G x=false) (h:G (L k)[i]=true):((List.range n).flatMap L).find? G=some (L k)[i]:=by
 have e:List.range n=List.range k++k::List.range' (k+1) (n-(k+1)):=by rw[Lg,Lg,show n=k+(n-(k+1)+1)by omega,<-List.range'_append_1,IC,show k+(n-(k+1)+1)-(k+1)=n-(k+1)by omega];rfl
 have d:((List.range k).flatMap L).find? G=none:=am
 have f:L k=(L k).take i++(L k)[i]::(L k).drop (i+1):=aq
 grind
def Xp{α:Type}{L}{G:α->Bool}{n}(a:∀k'<n,∀x∈L k',G x=false):((List.range n).flatMap L).find? G=none:=am
theorem Ta  w  (a:w.aX<=4)  r :(sB w r).length<=4:=by
 unfold sB;split
 . simp
 . unfold mS
   grind
def Tb  w  (a:w.aX<=4):∀M:JD,(M.flatMap (sB w)).length<=M.length*4
 |[]=>ap
 | x::M=>by
   have b:=Tb w a M
   grind [Ta]
def HU{w}(d:∀x∈w.ways,uv w.aX x)(e:w.aX<=4){r0}(f:r0.1.length=1/\0<=r0.2/\r0.2<=1048576):∀k,(vl w r0 k).length<=4 ^ k/\∀r∈vl w r0 k,r.1.length=k+1/\0<=r.2/\r.2<=1048576
 | 0=>⟨by simp[vl],λr c=>by
   have:r=r0:=by simpa[vl]using c
   grind⟩
 | k + 1=>by
   obtain⟨m,g⟩:=HU d e f k;refine⟨?_,λr c=>?_⟩
   . have:=Tb w e (vl w r0 k)
     exact FL this ac
   . simp only[vl,E2]at c
     obtain⟨y,h,c⟩:=c;obtain⟨n,i,o⟩:=g y h;unfold sB at c;split at c
     . grind
     . obtain⟨j,p,rfl⟩:=CR.1 c
       have:=uw   (a:=lastT y.1) (b:=j) (λx l=>(d x l).2.2.1) i
       grind
def ajM(hs:m.solo=true){w}(hw:w.pq){c:Nat}(h3:c<3)  hc  (he:dR w [] [] [(c:Int)]=0)
 (hK:if 72<bP w c then KF (.val (.cx [.nil,Xn 11])) σ else ∀r,rY w c w.ak[c]=some r->KF (.val (.cx [Ae r.1,Xn 0])) σ) (D:bP w c<=72->(rY w c w.ak[c]).isSome=true):ar prog m 31 [aT w,Xn c] σ KF:=by
 have hW:Wl [aT w,fa,fa,.sl 1 [Xn c] .exact] [aT w,Ae [],Ae [],Ae [(c:Int)]]:=E9 (.refl _) (bK 1) (bK 1) (eo 1 _ _);have hv:w.Valid:=bF.valid hw (by unfold dR at he;omega)
 refine S0 R9 func31 ?_
 simp[f31];refine bp func51 rfl rfl hW (kM hs hw ap ac λq Q fb mb hk=>?_)
 have al:=hk.less (.refl mb Q);apply rn;simp;refine O1 func69 (sK h3 ?_)
 by_cases hl:72<bP w c
 . rw[wS hl]at hK
   simp only[hl,ZC];apply rn;simp;refine dP Ax rfl zq rfl (isNil:=false) aq (.inr ⟨rfl,rfl⟩) ?_
   apply rn;simp[aM];exact .less al (.done hK)
 . rw [wN hl]at hK
   simp only[hl,LK];have D:=D ac
   apply rn;simp;refine dP Ax rfl zq rfl (isNil:=true) aq (.inr ⟨rfl,rfl⟩) ?_
   apply rn;simp[aM,hc];have c7:=hv.jS.2 _ (lb hc);obtain⟨N,hN⟩:∃N:Nat,w.aX=(N:Int):=⟨w.aX.toNat,ac⟩
   have hT:=hv.aX;have av:w.aX.toNat=N:=ac
   obtain⟨R,hR⟩:=S1 (vl w ([w.ak[c].town],w.ak[c].hour));have ax:=HU hv.way hT.2 (r0:=([w.ak[c].town],w.ak[c].hour)) am
   rw[<-hR]at ax;have b7:rY w c w.ak[c]=((List.range N).flatMap R).find? (Fu w (bP w c)):=by rw[hR,<-av];rfl
   have b8:∀k,R (k+1)=(R k).flatMap (sB w):=λk=>by rw[hR];rfl
   rw[b7]at D hK;have b9:R 0=[([w.ak[c].town],w.ak[c].hour)]:=by rw[hR];rfl
   refine aa.Fs 10 (a':=.sl 2 ((R 0).map lN) .any) (by rw[b9];exact acB _ _) ?_
   obtain⟨G,hG⟩:=S1 (Fu w (bP w c));rw[<-hG]at D hK;apply rn;simp;refine aa.loop N (λk s=>∃ε f,s=⟨ε,f,[],.no⟩/\(ε 2=.cp (aT w) 0/\ε 6=xN fb mb w 0/\ε 8=Xn (bP w c)/\ε 10=.sl 2 ((R k).map lN) .any/\ε 51=Xn N/\ε 52=Xn k)/\Q.Le f/\∀k'<k,∀r∈R k',G r=false) ⟨_,_,rfl,by simp[hN],af.le_refl _,ap⟩ ?_
   rintro c0 k _ c8 ⟨ε,f,rfl,⟨E,F,H,er,g,j⟩,ay,aC⟩ ih
   obtain⟨Z,hM⟩:=ax k;have aE:=b8 k;obtain⟨M,I⟩:=S1 (R k);rw[<-I]at Z hM er aE;apply rn;simp[g,j];apply aM.intro<;>intro g1<;>simp at g1<;>simp[er,g1]
   . have Z:M.length<=256:=FL Z (KQ (n:=4) be (show k<=4 by omega))
     refine aa.loop M.length (λi s=>∃ε f a,s=⟨ε,f,[],.no⟩/\(ε 2=.cp (aT w) 0/\ε 6=xN fb mb w 0/\ε 8=Xn (bP w c)/\ε 51=Xn N/\ε 52=Xn k/\ε 54=.sl 2 (M.map lN) .any/\ε 55=Xn M.length/\ε 56=Xn i/\ε 11=a)/\Tok Q f a 2 (((M.take i).flatMap (sB w)).map lN)/\∀r∈M.take i,G r=false) ⟨_,_,.nil,rfl,by simp[E,F,H,g,j],⟨ay,.inl ⟨rfl,ap⟩⟩,ap⟩ ?_
     rintro c1 i _ hi ⟨ε,f,a,rfl,⟨E,F,H,g,j,u,v,p,fh⟩,ht,X⟩ aF
     apply rn;simp[v,p];apply aM.intro<;>intro g2<;>simp at g2<;>simp[j,u,p,fh,g2]
     . obtain ⟨bm,a7,aL⟩:=hM _ (lb g2)
       have c9:=Tb w hT.2 (M.take i);have c6:(M.take i).length<=256:=by rw[HX];omega
       obtain⟨x,A⟩:=S1 (M[i]);rw[<-A]at bm a7 aL;simp only[<-A];have aO:∀q,(M.take (i+1)).flatMap q=(M.take i).flatMap q++(q x:JD):=λq=>by rw[so g2,Fe,Ml,<-A]
       have aW:G x=false->∀r∈M.take (i+1),G r=false:=λh r D=>by
        rw[so g2,<-A]at D
        rcases E4.1 D with D|D
        . exact X r D
        . rw[sN.1 D];exact h
       refine bz.intro λb hb=>?_
       have bq:x.1[x.1.length-1]?=some (lastT x.1):=by unfold lastT;rw[List.getLast?_eq_getElem?,kn ac];rfl
       have gx:0<=(x.1.length:Int)-1/\(x.1.length:Int)-1<x.1.length/\1<=(x.1.length:Int):=ac
       simp[gx,bq];refine⟨ac,?_⟩
       have S:(f.set b (.cells [Ae x.1,Xn x.2])) b=some (.cells [Ae x.1,Xn x.2]):=af.aj _ _ _;have br:f.Le (f.set b (.cells [Ae x.1,Xn x.2])):=λc y h=>(af.ah _ _ λe=>by rw[e,hb]at h;cases h).trans h
       have a8:=ht.up br;generalize f.set b (.cells [Ae x.1,Xn x.2])=ca at S a8;apply aM.intro<;>intro g3<;>simp at g3<;>simp[E,H,g3,S]
       . have xO:sB w x=[]:=by unfold sB;rw[wS g3]
         apply aM.intro<;>intro g4<;>simp at g4<;>simp[p,g4,S]
         . have U:G x=true:=by rw[hG];simp[Fu,g3,g4]
           have bw:=S9 (L:=R) (G:=G) (k:=k) (i:=i) g1 (by rw[<-I];omega) aC (by rw[<-I];omega) (by simp only[<-I,<-A];omega)
           have b0:=hK _ bw;simp only[<-I,<-A]at b0;exact .less (af.le_trans al a8.1) (.done b0)
         . have U:G x=false:=by rw[hG];simp[Fu,g4]
           refine⟨ac,aF _ ac ⟨_,_,a,rfl,by simp[E,F,H,g,j,u,v,fh],by rw[aO,xO,xx];omega,aW U⟩⟩
       . have xO:sB w x=mS w x N:=by unfold sB;rw[wN g3,av]
         have U:G x=false:=by rw[hG];simp[Fu,g3]
         refine aa.loop N (λd s=>∃ε z a',s=⟨ε,z,[],.no⟩/\(ε 2=.cp (aT w) 0/\ε 6=xN fb mb w 0/\ε 8=Xn (bP w c)/\ε 51=Xn N/\ε 52=Xn k/\ε 54=.sl 2 (M.map lN) .any/\ε 55=Xn M.length/\ε 56=Xn i/\ε 13=.ref b 0/\ε 14=Xn (lastT x.1)/\ε 77=Xn N/\ε 78=Xn d/\ε 11=a')/\z b=some (.cells [Ae x.1,Xn x.2])/\Tok Q z a' 2 (((M.take i).flatMap (sB w)++mS w x d).map lN)) ⟨_,_,a,rfl,by simp[E,F,H,g,j,u,v,p,fh,hN],S,by simpa[mS]using a8⟩ ?_
         rintro c2 d _ hd ⟨ε,z,a',rfl,⟨E,F,H,g,j,u,v,p,B,qC,V,J,fh⟩,o,bx⟩ a9
         have C:mS w x (d+1)=mS w x d++if Bg w x d then [(x.1++[(d:Int)],fj w.ways x.2 (lastT x.1) d)]else []:=by unfold mS;rw[zU,MK,DL];congr 1;simp only[List.filter_cons,List.filter_nil];split<;>rfl
         have cb:(mS w x d).length<=d:=by unfold mS;rw[zD];exact FL (Rp _ _) (by rw[L2];omega)
         apply rn;simp[V,J];apply aM.intro<;>intro g5<;>simp at g5<;>simp[F,p,B,qC,J,g5,o]
         . refine O1 func72 (JU ap hw.ways hv.way ⟨a7,aL⟩ ?_)
           have bA:=uw (l:=w.ways) (h:=x.2) (a:=lastT x.1) (b:=d) (λy hy=>(hv.way y hy).2.2.1) a7
           obtain⟨T,b1⟩:=S1 (fj w.ways x.2 (lastT x.1) d);rw[<-b1]at bA C ⊢;have ab:Bg w x d=(decide (T<1048576) && !decide ((d:Int)∈x.1)):=by rw[b1];rfl
           apply rn;simp;refine xj.intro (λg6=>?_) (λg6=>?_)<;>(try simp[-Int.not_lt,-Int.not_le]at g6)<;>(try simp[B,J,g6,o])
           . refine O1 func73 (nO ac ?_)
             apply rn;simp;apply aM.intro<;>intro g7<;>simp at g7<;>simp[B,J,fh,g7,o]
             . have K:Bg w x d=false:=by rw[ab];simp[g7]
               refine⟨ac,a9 _ ac ⟨_,_,a',rfl,by simp[E,F,H,g,j,u,v,p,B,qC,V,fh],o,by rw[C,K,wN ap,xx];omega⟩⟩
             . have K:Bg w x d=true:=by rw[ab];simp[g6,g7]
               rw[K,wS rfl]at C;refine pN Ax rfl bX rfl nM (es:=x.1.map Xn) (sp:=.any) (l:=0) (h:=x.1.length) ap (λcap b3=>⟨⟨⟨.i64,ap⟩,by simpa using b3⟩,⟨⟨.i64,ap⟩,AK _⟩,rfl⟩) ap λb2 b4=>?_
               have b5:Tok z z b2 1 (x.1.map Xn):=by
                rw[IB,IL ap]at b4
                rcases b4 with rfl|⟨e,rfl⟩
                . exact .exact _ _ _
                . rw[e];exact .nil _ _
               apply rn;simp;refine aP Ax rfl rfl rfl bX rfl bX rfl nM be (by simp only[zD,Ds,Dv];omega) (σ0:=z) (es:=x.1.map Xn) (xs:=[Xn d]) (by simpa using b5) (.inr ⟨_,rfl⟩) λa2 bB O=>?_
               have bC:x.1.map Xn++[Xn d]=(x.1++[(d:Int)]).map Xn:=by simp[DL]
               rw[bC]at O;obtain⟨y,hy⟩:=S1 (x.1++[(d:Int)]);rw[<-hy]at O C;refine aa.Fs 108 (a':=Ae y) (show AV.W a2 _ from O.W) ?_
               apply rn;simp
               have bE:(((M.take i).flatMap (sB w)++mS w x (d+1)).map lN)=(((M.take i).flatMap (sB w)++mS w x d).map lN)++[lN (y,T)]:=by rw[C,<-List.append_assoc,DL];rfl
               have P:=bx.up O.1;have Y:=O.1 _ _ o;have c5:bG a'≠some b:=λe=>by obtain⟨_,t,q⟩:=P.bH e;rw[Y]at q;cases q
               refine aP Ax rfl rfl rfl YY rfl YY rfl acC be (by simp only[zD,zR,Ds,Dv];omega) (σ0:=bB.off a') (es:=((M.take i).flatMap (sB w)++mS w x d).map lN) (xs:=[lN (y,T)]) (by simpa using P.here.1) (.inr ⟨_,rfl⟩) λa3 cg ad=>?_
               rw[<-bE]at ad;have b6:=ad.1 _ _ ((af.hQ c5).trans Y);apply rn;simp[J];refine⟨ac,a9 _ ac ⟨_,_,a3,rfl,by simp[E,F,H,g,j,u,v,p,B,qC,V],b6,ad.base P.here.2⟩⟩
           . have K:Bg w x d=false:=by rw[ab];simp[g6]
             refine⟨ac,a9 _ ac ⟨_,_,a',rfl,by simp[E,F,H,g,j,u,v,p,B,qC,V,fh],o,by rw[C,K,wN ap,xx];omega⟩⟩
         . have ed:d=N:=ac
           subst ed;refine⟨ac,aF _ ac ⟨_,_,a',rfl,by simp[E,F,H,g,j,u,v,fh],by rw[aO,xO];omega,aW U⟩⟩
     . have ei:i=M.length:=ac
       subst ei;rw[zH]at ht X;refine⟨ac,?_⟩
       refine aa.Fs 10 (a':=.sl 2 ((R (k+1)).map lN) .any) ?_ (ih _ ac ⟨_,_,rfl,by simp[E,F,H,g],ht.1,λk' q x hx=>?_⟩)
       . change AV.W a _
         rw[aE];exact ht.W
       grind
   . have ek:k=N:=ac
     subst ek;rw[Xp aC]at D
     grind
end
section
open Go.bu Go.Conc
variable{m:Mo}{σ:af}{KF:YC}
def aaf(d:m.solo=true)(f:σ 0=some (.stay [fW])){w}(g:w.cA){c}(b:bg w [] [] [c]≠0)(h:KF (.val (.cx [Xn 0,Xn (bg w [] [] [c])])) σ):ar prog m 29 [aT w,Xn c] σ KF:=by
 have i:Wl [aT w,fa,fa,.sl 1 [Xn c] .exact] [aT w,Ae [],Ae [],Ae [c]]:=E9 (.refl _) (bK 1) (bK 1) (eo 1 _ _);have key:=λ(a:YC) j=>j9 (KF:=a) d f g    ⟨ap,ap,ap⟩ b j
 generalize bg w [] [] [c]=e at b h key;have l:(e==0)=false:=am
 have k:(e !=0)=true:=am
 refine S0 [] func29 ?_;simp;refine bp func51 rfl rfl i (key _ ?_);apply rn;simp[k];exact .done h
def ahP(d:m.solo=true)(f:σ 0=some (.stay [fW])){w}(g:w.cA){c}(b:bg w [] [] [c]≠0)(h:KF (.val (.cx [fa,Xn (bg w [] [] [c])])) σ):ar prog m 31 [aT w,Xn c] σ KF:=by
 have i:Wl [aT w,fa,fa,.sl 1 [Xn c] .exact] [aT w,Ae [],Ae [],Ae [c]]:=E9 (.refl _) (bK 1) (bK 1) (eo 1 _ _);have key:=λ(a:YC) j=>j9 (KF:=a) d f g    ⟨ap,ap,ap⟩ b j
 generalize bg w [] [] [c]=e at b h key;have l:(e==0)=false:=am
 have k:(e !=0)=true:=am
 refine S0 R9 func31 ?_;simp;refine bp func51 rfl rfl i (key _ ?_);apply rn;simp[k];exact .done h
end
open Go Go.bu Go.Conc
variable{m:Mo}{σ:af}{KF:YC}
def yt(w:bF)(n bc:Int):Int:=if ij w≠0 then ij w else if cz n 0 (bc-1)=false then 3 else 0
def nu{w}(c:w.cA){n bc}(f:0<=bc/\bc<=1152921504606846976)(h:KF (.val (Xn (yt w n bc))) σ):ar prog m 54 [aT w,Xn n,Xn bc] σ KF:=by
 unfold yt at h;refine S0 [] func54 ?_;simp;refine O1 func34 (RC.jN c ?_);by_cases a:ij w=0
 . rw[wN (by simp[a])]at h
   rw[a];apply rn;simp;refine⟨ac,?_⟩;refine O1 func67 (eY ?_);apply rn;simp;refine aM.intro (λb=>?_) (λb=>?_)<;>(try simp[-Nat.not_lt]at b)<;>(try simp[b]at h)<;>(try simp)<;>(try exact .done h)
 . rw[wS a]at h
   generalize ij w=e at a h ⊢;have g:(e==0)=false:=am
   have d:(e !=0)=true:=am
   apply rn;simp[d];exact .done h
def SD{w}(a:w.cA)  c :yt w c w.ak.length=bg w [] [] [c]:=by
 unfold yt bg dR
 simp_all [cX]
def Px(w:bF)(c:Int):Int × Int:=if bg w [] [] [c]≠0 then(0,bg w [] [] [c])else if 72<bP w c.toNat then(0,11)else(bP w c.toNat,0)
def pK{w}(a:w.cA){c}(h:bg w [] [] [c]=0):w.Valid/\0<=c/\c.toNat<w.ak.length:=by
 unfold bg at h;split at h
 . next b=>
   obtain⟨d,e⟩:=cX a b;unfold dR at h;refine⟨bF.valid d e,?_⟩;by_cases q:cz c 0 ((w.ak.length:Int)-1)=true
   . have:=dJ q
     omega
   grind
 omega
def aeo{w}(j:w.cA){c}(h:KF (.val (.cx [Xn (Px w c).1,Xn (Px w c).2])) σ):ar prog m 30 [aT w,Xn c] σ KF:=by
 have n:=j.ak;unfold Px at h;refine S0 [] func30 ?_;simp[f30];refine O1 func54 (nu j ⟨ac,ac⟩ ?_);rw[SD j];by_cases f:bg w [] [] [c]=0
 . rw [wN (by simp[f])]at h
   obtain⟨g,p,b⟩:=pK j f;obtain⟨C,s⟩:∃C:Nat,c=C:=⟨c.toNat,ac⟩;subst s;rw[FV]at b h;obtain⟨d,i⟩:=uf g b;have t:=g.jS.2 _ (lb b);rw[f];apply rn;simp;refine O1 func71 (W7.qT (by have:=g.YV;omega) g.way g.aX b ac ?_);obtain⟨o,k⟩:=S1 ((sL w w.ak[C] w.aX.toNat).foldl iv none);rw[<-k]at d i ⊢;by_cases q:bP w C<=72
   . obtain⟨r,_,u,v⟩:=d q
     rw[wN ac,<-v]at h;rw[u,show qw (some r)=lN r from rfl,show np (some r)=decide (r.2<=72)from rfl];have l:r.2<=72:=ac
     apply rn;simp;refine bz.intro λdb a=>?_
     simp[aI,l];exact .less (af.bZ (af.le_refl _) a) (.done h)
   . rw[wS ac]at h
     cases o with
     | none=>
       rw[show qw none=.agg [Ae [],Xn 0]from rfl,show np none=false from rfl];apply rn;simp;refine bz.intro λdb a=>?_
       simp[aI];exact .less (af.bZ (af.le_refl _) a) (.done h)
     | some r=>
       have l:¬r.2<=72:=am
       rw[show qw (some r)=lN r from rfl,show np (some r)=decide (r.2<=72)from rfl];apply rn;simp;refine bz.intro λdb a=>?_
       simp[aI,l];exact .less (af.bZ (af.le_refl _) a) (.done h)
 . rw[wS f]at h
   generalize bg w [] [] [c]=e at f h ⊢;have y:(e==0)=false:=am
   have x:(e !=0)=true:=am
   apply rn;simp[x];exact .done h
def pv  e :(AV.cx [.lit (.slice none 0 0),Xn e]).W (.cx [Ae [],Xn e]):=vf rfl λi x y a b=>by
 match i with
 |0=>grind [bK]
 |1=>cases a;cases b;exact .refl _
 |i+2=>grind
def ahM{w}(j:w.cA){c}(k:bg w [] [] [c]≠0->KF (.val (.cx [Ae [],Xn (bg w [] [] [c])])) σ)(f:bg w [] [] [c]=0->72<bP w c.toNat->KF (.val (.cx [Ae [],Xn 11])) σ)
 (l:bg w [] [] [c]=0->bP w c.toNat<=72->∀  A  r,rY w c.toNat w.ak[c.toNat]=some r->KF (.val (.cx [Ae r.1,Xn 0])) σ):ar prog m 32 [aT w,Xn c] σ KF:=by
 have s:=j.ak;refine S0 [] func32 ?_;simp[f32];refine O1 func54 (nu j ac ?_);rw[SD j];by_cases g:bg w [] [] [c]=0
 . obtain⟨h,t,b⟩:=pK j g
   obtain⟨C,u⟩:∃C:Nat,c=C:=am;subst u;simp only[FV]at b f l
   replace f:=f g
   replace l:=l g
   obtain⟨d,i⟩:=uf h b;have v:=h.jS.2 _ (lb b);rw[g];apply rn;simp;refine O1 func71 (W7.qT (by have:=h.YV;omega) h.way h.aX b ac ?_);obtain⟨o,n⟩:=S1 ((sL w w.ak[C] w.aX.toNat).foldl iv none);rw[<-n]at d i ⊢;by_cases q:bP w C<=72
   . obtain⟨r,x,y,B⟩:=d q
     rw[y,show qw (some r)=lN r from rfl,show np (some r)=decide (r.2<=72)from rfl];have p:r.2<=72:=ac
     apply rn;simp;refine bz.intro λdb a=>?_
     simp[aI,p];exact .less (af.bZ (af.le_refl _) a) (.done am)
   . replace f:=f ac
     cases o with
     | none=>
       rw[show qw none=.agg [Ae [],Xn 0]from rfl,show np none=false from rfl];apply rn;simp;refine bz.intro λdb a=>?_
       simp[aI];exact .dp (pv 11) (.less (af.bZ (af.le_refl _) a) (.done f))
     | some r=>
       have p:¬r.2<=72:=am
       rw[show qw (some r)=lN r from rfl,show np (some r)=decide (r.2<=72)from rfl];apply rn;simp;refine bz.intro λdb a=>?_
       simp[aI,p];exact .dp (pv 11) (.less (af.bZ (af.le_refl _) a) (.done f))
 . replace k:=k g
   generalize bg w [] [] [c]=e at g k ⊢;have D:(e==0)=false:=am
   have z:(e !=0)=true:=am
   apply rn;simp[z];exact .dp (pv e) (.done k)
def aee(d:m.solo=true)(e:σ 0=some (.stay [fW])){w}(b:w.cA){c}(h:KF (.val (.cx [Xn (Px w c).1,Xn (Px w c).2])) σ):ar prog m 29 [aT w,Xn c] σ KF:=by
 unfold Px at h;by_cases a:bg w [] [] [c]=0
 . obtain⟨f,g,i⟩:=pK b a
   obtain⟨j,n,k⟩:=pr b a;have o:=f.jS.1;obtain⟨C,l⟩:∃C:Nat,c=C:=⟨c.toNat,ac⟩;subst l;refine BX d j ac k ?_
   grind
 . rw[wS a]at h
   exact aaf d e b a h
def ahB(e:m.solo=true)(f:σ 0=some (.stay [fW])){w}(b:w.cA){c}(g:bg w [] [] [c]≠0->KF (.val (.cx [fa,Xn (bg w [] [] [c])])) σ)(n:bg w [] [] [c]=0->72<bP w c.toNat->KF (.val (.cx [fa,Xn 11])) σ)
 (o:bg w [] [] [c]=0->bP w c.toNat<=72->∀  p  r,rY w c.toNat w.ak[c.toNat]=some r->KF (.val (.cx [Ae r.1,Xn 0])) σ):ar prog m 31 [aT w,Xn c] σ KF:=by
 by_cases a:bg w [] [] [c]=0
 . obtain⟨h,i,d⟩:=pK b a
   obtain⟨j,q,k⟩:=pr b a;have s:=h.jS.1;obtain⟨C,l⟩:∃C:Nat,c=C:=am;subst l;refine ajM e j ac d k ?_ (by grind [yz])
   grind
 . exact ahP e f b a (g a)
namespace RA
def Bh(w:bF)(c:Int):RQ × Int:=if bg w [] [] [c]≠0 then([],bg w [] [] [c])else if 72<bP w c.toNat then([],11)else((w.ak[c.toNat]?.bind (rY w c.toNat)).elim [] (·.1),0)
theorem DK{w c}(a:bg w [] [] [c]=0)(b:bP w c.toNat<=72)  d  {r}(h:rY w c.toNat w.ak[c.toNat]=some r):Bh w c=(r.1,0):=by
 unfold Bh
 grind
def Xq{w}(f:w.cA)  c :(Bh w c).1.length<=5:=by
 by_cases d:bg w [] [] [c]=0
 . obtain⟨a,_,b⟩:=pK f d
   by_cases i:72<bP w c.toNat
   . unfold Bh
     grind
   . obtain⟨r,e⟩:=OY.1 (yz a b ac)
     rw[DK d ac b e];have g:=a.aX;have j:=a.jS.2 _ (lb b);obtain⟨k,l,h⟩:=E2.1 (List.mem_of_find?_eq_some e);have:=((HU a.way g.2  am k).2 r h).1
     grind
 . unfold Bh
   grind
def Tc(a:m.solo=true)(b:σ 0=some (.stay [fW])){w}(d:w.cA){c}(h:KF (.val (.cx [Ae (Bh w c).1,Xn (Bh w c).2])) σ):ar prog m 31 [aT w,Xn c] σ KF:=by
 refine ar.thaw (ahB a b d (λg=>.dp (pv _) (.done ?_)) (λe g=>.dp (pv _) (.done ?_)) λe g f r i=>.done ?_)
 . unfold Bh at h;grind
 . unfold Bh at h;grind
 grind [DK]
def Td{w}(a:w.cA){c}(h:KF (.val (.cx [Ae (Bh w c).1,Xn (Bh w c).2])) σ):ar prog m 32 [aT w,Xn c] σ KF:=by
 refine ahM a (λg=>?_) (λb g=>?_) λb g d r e=>?_
 . unfold Bh at h;grind
 . unfold Bh at h;grind
 grind [DK]
def Fv(A:m.solo=true)(E:σ 0=some (.stay [fW])){w c x n o}(Z:w.Raw)(hm:c.lost.marks.length<1152921504606846976)(N:o.length<1152921504606846976)(h:∀σ',KF (.val (T0 true)) σ'):ll prog Ax m 5 [aT w,cK c,fG x,Xn n,Ae o] σ KF:=by
 refine ll.start Ax [] pl5 5 func5 rfl rfl (by rfl) s8 ?_
 simp[f5];refine O1 func8 (wD ?_ λhS=>?_)
 . apply rn
   simp;refine O1 func9 (jd A ?_);apply rn;simp;exact .done (h _)
 by_cases K:(20:Int)<c.lost.marks.length
 . apply rn
   simp[K];refine O1 func9 (jd A ?_);apply rn;simp;exact .done (h _)
 have B:c.lost.marks.length<=20:=ac
 apply rn;simp[K];refine O1 func10 (ug λb O F hb r=>?_)
 apply pg;simp;refine O1 func11 (pT ac N hb λmade other own lost G hd P Q t=>?_)
 have p:∀v∈[w,made,other],v.Small:=λv j=>by
  simp at j
  rcases j with rfl|rfl|rfl
  . omega
  . exact hd.small
  . exact hd.other B P
 have hlen:[w,made,other].length=3:=rfl;generalize [w,made,other]=L at p hlen ⊢
 have H:σ.Le G:=λy z q=>by
  have M:y≠b:=λe=>by subst e;rw[F]at q;cases q
  exact t y z M (by rw[r y M];exact q)
 apply pg;simp;apply rn;simp;refine aa.weaken (σ:=σ) ?_ H;refine aa.loop L.length (λi=>MY σ λε=>ε 3=Xn n/\ε 11=.sl 9 (L.map aT) .any/\ε 12=Xn i) aq ?_
 rintro c0 i _ hi ⟨ε,rfl,C,fh,iQ⟩ R
 rcases za i L.length with g1|g1
 . have u:(i:Int)<L.length:=ac
   have f1:=M1 ((i:Int)+1)
   obtain⟨v,j⟩:=S1 (L[i]);have f:=p v (by rw[j];exact lb g1)
   have a:=f.short;have S:=f.ways;have T:=f.ak;apply rn;simp[fh,iQ,g1,u,<-j];refine O1 func12 (f.own ?_);refine aa.runN Ax [] 2 ?_;simp;refine bz.intro λd D=>?_
   simp;refine aa.bj 13 (b:=d) (aT v) ap ap rfl ?_
   rw[cy D];apply rn;simp[C];obtain⟨l,I⟩:=S1 ([n,0,1,2]:RQ);have U:l.length=4:=am
   refine aa.loop l.length (λk s=>∃ε,s=⟨ε,σ,[],.no⟩/\(ε 3=Xn n/\ε 11=.sl 9 (L.map aT) .any/\ε 12=Xn i/\ε 13=.cp (aT v) 0/\ε 14=.sl 1 (l.map Xn) .exact)/\ε 15=Xn k) ⟨_,rfl,⟨aq,aq,aq,ap,by simp[I]⟩,ap⟩ ?_
   clear C fh iQ ε
   rintro c1 k _ V ⟨ε,rfl,⟨C,fh,iQ,g,qC⟩,tZ⟩ J
   rcases za k l.length with g2|g2
   . have pL:(k:Int)<l.length:=ac
     have W:=M1 ((k:Int)+1)
     obtain⟨y,q⟩:=S1 (l[k]);have X:=Xq a y;apply rn;simp[g,qC,tZ,g2,pL,<-q];refine O1 func29 (aee A E a ?_);apply pg;simp;apply rn;simp[fh,iQ,qC,tZ,g1,g2,<-q,<-j];refine O1 func30 (aeo a ?_);apply pg;simp;apply rn;simp[g,qC,tZ,g2,<-q];refine O1 func31 (Tc A E a ?_);apply pg;simp;apply rn;simp[fh,iQ,qC,tZ,g1,g2,<-q,<-j]
     refine O1 func32 (Td a ?_);apply pg;simp;apply rn;simp;refine O1 func28 (iM ac ac ?_)
     apply rn;simp[tZ];exact⟨W,J _ g2 ⟨_,rfl,⟨by simp[C],by simp[fh],by simp[iQ],by simp[g],by simp[qC]⟩,ap⟩⟩
   . have pL:¬(k:Int)<l.length:=ac
     apply rn;simp[fh,iQ,g,qC,tZ,pL,g1,<-j];refine O1 func33 (vi A E a ?_);apply pg;simp;refine O1 func34 (RC.jN a ?_);apply pg;simp[fh,iQ,g,g1,<-j];refine O1 func21 (SW.jw a.fits (λc Y=>by have:=f.lost c Y;omega) ac ac ?_)
     apply pg;simp;apply rn;simp[iQ];exact⟨f1,R _ g1 ⟨_,rfl,by simp[C],by simp[fh],ap⟩⟩
 . have u:¬(i:Int)<L.length:=ac
   apply rn;simp[fh,iQ,u];refine O1 func9 (jd A ?_);apply rn;simp;exact .done (h _)
end RA
