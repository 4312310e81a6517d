import Derived.Test.YtggpckcdfilkoaaGreatDoorN1
set_option linter.all false
set_option maxHeartbeats 2000000
set_option maxRecDepth 4000
namespace Go.Proofs.YtggpckcdfilkoaaGreatDoor
open Go.Proofs.Tryz hiding f0 f1 f10
open Go Go.bu Go.Conc
variable{m:Mo}{σ:af}{KF:YC}
namespace RN
def S8(n:Nat)(G:RQ->Bool):(Ft n G).length<=n:=by
 unfold Ft;cases e:((List.range (n+1)).flatMap (yJ n)).find? G with
 |none=>grind
 | some x=>
   obtain⟨k,b,a⟩:=E2.1 (List.mem_of_find?_eq_some e);have c:=(HT n k x a).1
   grind
def ajN{w:bF}(a:w.cA):(zF w).1.length<=6:=by
 unfold zF;by_cases q:bg w [] [] []=0
 . obtain⟨b,_⟩:=fX a q
   rw[wN (by simp[q])];have:(zI w).length<=_:=S8 w.ak.length _;have:=b.jS.1
   grind
 simp_all
def Xm{v:bF}{y:Az}(a:v.Small)(d:y.lost.marks.length<=20):(vh v y).1.fair.Fits/\(∀c∈(vh v y).1.ak,c.lost.marks.length<1152921504606846976)/\(vh v y).1.ak.length<1000/\(vh v y).1.ways.length<1000:=by
 have b:yx.fair.Fits/\(∀c∈yx.ak,c.lost.marks.length<1152921504606846976)/\yx.ak.length<1000/\yx.ways.length<1000:=⟨⟨by simp[yx],by simp[yx],by simp[yx],by simp[yx]⟩,by simp[yx],by simp[yx],by simp[yx]⟩;have f:=a.ak;have g:=a.ways;unfold vh;split
 . exact b
 split
 . exact b
 split
 . exact b
 exact⟨a.short.fits,λc e=>by have:=Z1.Gp a d c e;omega,by simp[bF.more];omega,by show v.ways.length<_;omega⟩
def JS(G:m.solo=true)(H:σ 0=some (.stay [fW])){w:bF}{c:Az}{x:Way}{l:RQ}(hw:w.Raw)(hm:c.lost.marks.length<1152921504606846976)(V:l.length<1152921504606846976)(h:∀σ',KF (.val (T0 true)) σ'):ll prog Ax m 6 [aT w,cK c,fG x,Ae l] σ KF:=by
 refine ll.start Ax [] pl6 4 func6 rfl rfl (by rfl) s8 ?_
 simp[f6];refine O1 func8 (wD ?_ λZ=>?_)
 . apply rn
   simp;refine O1 func9 (jd G ?_);apply rn;simp;exact .done (h _)
 by_cases W:(20:Int)<c.lost.marks.length
 . apply rn
   simp[W];refine O1 func9 (jd G ?_);apply rn;simp;exact .done (h _)
 have I:c.lost.marks.length<=20:=ac
 apply rn;simp[W];refine O1 func10 (ug λb a7 O hb C=>?_)
 apply rn;simp;refine O1 func11 (pT ac V hb λmade other own lost P hd ho J o=>?_)
 have z:∀v∈[w,made,other],v.Small:=λv A=>by
  simp at A
  rcases A with rfl|rfl|rfl
  . exact Z
  . exact hd.small
  exact hd.other I ho
 have hlen:[w,made,other].length=3:=rfl;generalize [w,made,other]=L at z hlen ⊢;have B:(0:Nat)≠b:=λe=>aq
 have K:P 0=some (.stay [fW]):=o 0 _ B aq
 apply rn;simp;refine aa.loop L.length (λi s=>∃ε σ',s=⟨ε,σ',[],.no⟩/\(ε 5=.cp (cK c) 0/\ε 9=.ref b 0/\ε 10=.sl 9 (L.map aT) .any/\ε 11=Xn i)/\cq b l (601+11*i) σ'/\σ' 0=some (.stay [fW])) ⟨_,_,rfl,⟨ap,ap,ap,ap⟩,J.mono ac,K⟩ ?_
 clear H K hb J C o O
 rintro c0 i _ hi ⟨ε,a8,rfl,⟨f,g,er,fh⟩,hb,H⟩ ih
 rcases za i L.length with g1|g1
 . have D : (i : Int)<L.length:=ac
   have f1:=M1 ((i:Int)+1)
   obtain⟨v,A⟩:=S1 (L[i]);have a:=z v aq
   have r:=a.short;have a9:=a.ways;have ab:=a.ak;apply rn;simp[er,fh,g1,D,<-A];refine O1 func12 (a.own ?_);refine aa.runN Ax [] 2 ?_;simp;refine bz.intro λd M=>?_
   simp;refine aa.bj 12 (b:=d) (aT v) ap ap rfl ?_
   rw[cy M];apply rn;simp;obtain⟨l1,l2⟩:(zF v).1.length<=6/\True:=⟨ajN r,trivial⟩;refine O1 func35 (NE.Pu G H r ?_);apply rn;simp[er,fh,g1,<-A];refine O1 func36 (NE.Pt r ?_);apply rn;simp;refine O1 func28 (iM ac ac ?_)
   apply rn;simp[g,er,fh,g1,<-A];refine O1 func37 (yy ac V ⟨ac,ac⟩ hb λe p X E=>?_)
   have q1:=X.hour;have q2:=(uu X.marks).2;have Q:e.hour+2<72:=ac
   have t:p 0=some (.stay [fW]):=by rw[E.2 0 B];exact H
   have R:cq b l (601+11*(i+1)) p:=E.1.mono ac
   clear E H hb;refine aa.runN Ax [] 2 ?_;simp;refine bz.intro λd N=>?_
   simp;refine aa.bj 17 (b:=d) (bn e) ap ap rfl ?_
   rw[cy N];apply rn;simp[f,Q,aI];refine⟨ac,?_⟩
   obtain⟨n,S⟩:=S1 ([c,⟨e,0,e.hour+2⟩]:List Az)
   have T:∀d∈n,d.lost.marks.length<=20:=λd hd=>am
   have ad:n.length=2:=am
   refine aa.loop n.length (λk s=>∃ε,s=⟨ε,p,[],.no⟩/\(ε 5=.cp (cK c) 0/\ε 9=.ref b 0/\ε 10=.sl 9 (L.map aT) .any/\ε 11=Xn i/\ε 12=.cp (aT v) 0/\ε 18=.sl 8 (n.map cK) .exact)/\ε 19=Xn k) ⟨_,rfl,⟨by simp[f],by simp[g],by simp[er],by simp[fh],ap,by simp[S]⟩,ap⟩ ?_
   clear f g er fh ε
   rintro c1 k _ al ⟨ε,rfl,⟨f,g,er,fh,iQ,qP⟩,xn⟩ U
   rcases za k n.length with g2|g2
   . have pL : (k:Int)<n.length:=ac
     have f2:=M1 ((k:Int)+1)
     obtain⟨y,Y⟩:=S1 (n[k]);have u:=T y am
     apply rn;simp[iQ,qP,xn,g2,pL,<-Y];apply HJ
     . intro key
       repeat' (first
                 |apply And.intro
                 | (refine O1 func38 (Z1.S7 G t a u ?_)
                    apply pg;simp[f,g,er,fh,iQ,qP,xn])
                 | (refine O1 func38 (Z1.S7 G ((af.ah _ _ (λq=>by rw[<-q,t]at j;cases j)).trans t) a u ?_)
                    apply pg;simp[f,g,er,fh,iQ,qP,xn])
                 | (refine qB.intro λF j=>?_
                    simp[f,g,er,fh,iQ,qP,xn])
                 | (refine aa.bj 20 (b:=F) (aT (vh v y).1) ap ap rfl ?_
                    rw[cy j];refine aa.lh (λe s=>(e 5=.cp (cK c) 0/\e 9=.ref b 0/\e 10=.sl 9 (L.map aT) .any/\e 11=Xn i/\e 12=.cp (aT v) 0/\e 18=.sl 8 (n.map cK) .exact/\e 19=Xn k/\e 20=.cp (aT (vh v y).1) 0/\e 21=Xn (vh v y).2)/\p=s) ⟨by simp[f,g,er,fh,iQ,qP,xn],rfl⟩ ?_
                    exact key))
     clear f g er fh iQ qP xn ε
     rintro ε s0 ⟨⟨f,g,er,fh,iQ,qP,xn,Ay,yo⟩,rfl⟩
     apply rn;simp[er,fh,qP,xn,g1,g2,<-A,<-Y];apply HJ
     . intro key
       repeat' (first
                 |apply And.intro
                 | (refine O1 func39 (Z1.Z2 a u ?_)
                    apply pg;simp[f,g,er,fh,iQ,qP,xn,Ay,yo])
                 | (refine qB.intro λF j=>?_
                    simp[f,g,er,fh,iQ,qP,xn,Ay,yo])
                 | (refine aa.bj 22 (b:=F) (aT (vh v y).1) ap ap rfl ?_
                    rw[cy j];refine aa.lh (λe s=>(e 5=.cp (cK c) 0/\e 9=.ref b 0/\e 10=.sl 9 (L.map aT) .any/\e 11=Xn i/\e 12=.cp (aT v) 0/\e 18=.sl 8 (n.map cK) .exact/\e 19=Xn k/\e 20=.cp (aT (vh v y).1) 0/\e 21=Xn (vh v y).2/\e 22=.cp (aT (vh v y).1) 0/\e 23=Xn (vh v y).2)/\p=s) ⟨by simp[f,g,er,fh,iQ,qP,xn,Ay,yo],rfl⟩ ?_
                    exact key))
     clear f g er fh iQ qP xn Ay yo ε
     rintro ε s0 ⟨⟨f,g,er,fh,iQ,qP,xn,Ay,yo,BS,NI⟩,rfl⟩
     obtain⟨a1,a2,a3,a4⟩:=Xm a u;apply rn;simp[Ay,yo,BS,NI];refine O1 func21 (SW.jw a1 a2 a3 a4 ?_);apply rn;simp[xn];exact⟨f2,U _ g2 ⟨_,rfl,⟨by simp[f],by simp[g],by simp[er],by simp[fh],by simp[iQ],by simp[qP]⟩,ap⟩⟩
   have pL:¬(k:Int)<n.length:=ac
   apply rn;simp[er,fh,iQ,qP,xn,pL,g1,<-A];refine O1 func21 (SW.jw r.fits (λc hc=>by have:=a.lost c hc;omega) ac ac ?_)
   apply pg;simp;apply rn;simp[fh];exact⟨f1,ih _ g1 ⟨_,_,rfl,⟨by simp[f],by simp[g],by simp[er],ap⟩,R,t⟩⟩
 have D:¬(i:Int)<L.length:=ac
 apply rn;simp[er,fh,D];refine O1 func9 (jd G ?_);apply rn;simp;exact .done (h _)
end RN
