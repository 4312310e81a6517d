import Derived.Test.YtkcceaplmgdnfaaGreatDoorC18
set_option linter.all false
set_option maxHeartbeats 1000000
set_option maxRecDepth 4000
namespace Go.Proofs.YtkcceaplmgdnfaaGreatDoor
open Go.Proofs.Tryz (prog)
section
open Go.cz Go.Conc
variable{m:Mo}{σ:ab}{KF:abW}
theorem Na:lY prog nn:=⟨⟨_,_,Tryz.func93,rfl,rfl,rfl⟩,⟨_,_,Tryz.func94,rfl,rfl,rfl⟩⟩
def ye(w:gn):Prop:=w.aD.length<=3/\∀c∈w.aD,(0<=c.town/\c.town<w.ba)/\0<=c.hour/\c.hour<=72
def Qi(w:gn)(c:NU):Int:=(qE w.ways w.ba.toNat c.town c.hour).getD 0 0
def gY(w:gn)(j:Nat):Int:=match w.aD[j]? with|some c=>Qi w c|none=>0
abbrev ti(fb mb:Nat)(w:gn)(o:Nat):AV:=Pl fb mb w (int (gY w 0)) (int (gY w 1)) (int (gY w 2)) [9,10] o
structure Jl(σ:ab)  fb mb  (w:gn)  σ' :Prop where
 f0:σ fb=none
 m0:σ mb=none
 ne:fb≠mb
 eq:σ'=(σ.set mb (mQ (pq .u8) [])).set fb (.part (bH 9))
def vf(n:Nat):acn:=[9,10]++(List.range n).map (11+·)
abbrev Wg(mb:Nat)(w:gn):acs:=[jm w.fair.aB,rows w.fair.roads,int w.fair.aQ,int w.fair.eP,int w.fair.cM,int w.fair.aW,int w.ba,uA w.ways,kD w.aD,.lit (.int .i32 0),.lit (.int .u32 0),int 0,int 0,int 0,.map mb]
abbrev Rq(fb mb:Nat)(w:gn)(o:Nat):AV:=Pl fb mb w (int 0) (int 0) (int 0) (vf w.aD.length) o
def Sw(n:Nat):Nat->abX:=λi=>if i=9 then some (.int .i32 0)else if i=10 then some (.int .u32 0)else if 11<=i/\i<11+n then some (.int .i64 0)else none
theorem nI{n i}:i∈vf n↔i=9\/i=10\/11<=i/\i<11+n:=by
 unfold vf;rw[ZA,ZU];constructor
 . grind
 . rintro(h|h|h)
   . simp_all
   . simp_all
   . exact .inr ⟨i-11,ZE.2 (by omega),by omega⟩
theorem Nb{n i}(h:i∈vf n):9<=i:=by have:=nI.1 h;omega
theorem Rr{n mb w}(h:n<=3)  i   v  (a:Sw n i=some v):(Wg mb w)[i]?=some (.lit v):=by
 unfold Sw at a;split at a
 . simp_all
 split at a
 . simp_all
 split at a
 . next e=>
   cases a;have:i=11\/i=12\/i=13:=by omega
   rcases this with rfl|rfl|rfl<;>rfl
 . cases a
theorem Nc  n i :Sw n i=none↔i∉vf n:=by
 rw[nI];unfold Sw
 grind
theorem tj{w}(hs:m.solo=true)(hl:w.ways.length<1152921504606846976)(hw:∀x∈w.ways,tg w.ba x)(hn:1<=w.ba/\w.ba<=4)(hc:ye w)(hK:∀σ' fb mb,Jl σ fb mb w σ'->KF (.val (ti fb mb w 0)) σ'):az prog m 48 [dv w] σ KF:=by
 have h3:=hc.1;refine az.start lay [10] [] 1 Tryz.func48 rfl rfl (by rfl) (by kernel_rfl) ?_;simp[Tryz.f48];refine uR (pq .u8) rfl λmb BV=>?_
 refine aa.run lay [10] ?_;simp[aJ];refine bV.intro λfb S=>?_
 simp;obtain⟨fm,mf,I⟩:=ab.aP S;refine bV.intro λbw B=>?_
 obtain⟨wf,T,B⟩:=ab.aP B;obtain⟨wm,mw,B⟩:=ab.aP B;simp;refine bV.intro λgb o=>?_
 obtain⟨gw,wg,o⟩:=ab.aP o;obtain⟨gf,U,o⟩:=ab.aP o;obtain⟨gm,mg,o⟩:=ab.aP o;simp[wf,T,wm,mw,gw,wg,gf,U,gm,mg,fm,mf,ab.ah];refine aa.part fb (Wg mb w) (vf w.aD.length) (Sw w.aD.length) (bw:=bw) (l1:=[.ref fb 0]) (l2:=[Rq fb mb w 0]) (by simp[ab.ah,T,U]) (Rr h3) (Nc w.aD.length) (λt=>.inl rfl) wf (by simp[ab.ah,wg]) rfl (λi a a' W h2=>?_) ?_
 . match i with
   |0=>simp at W h2;subst W;subst h2;exact .inr ⟨0,rfl,rfl⟩
   |i+1=>simp at W
 refine aa.bD 3 (b:=bw) (Rq fb mb w 0) (ab.ai _ _ _) (by simp) rfl ?_;refine aa.iC (λe σ'=>(e 3=.cp (Rq fb mb w 0) 0/\e 4=.ref gb 0/\e 15=kD w.aD/\e 16=int w.aD.length/\e 17=int 0)/\σ' fb=some (.part (Sw w.aD.length))/\σ' gb=some (.cells [.lit (.int .u64 0),.lit (.int .u32 0)])/\σ' mb=some (mQ (pq .u8) [])/\∀c x,σ c=some x->c≠fb/\c≠mb/\c≠gb/\σ' c=some x) ⟨by simp,by simp[ab.del,ab.set,T],by simp[ab.del,ab.set,gw,gf],by simp[ab.del,ab.set,mw,mf,mg],λc x C=>?_⟩ ?_
 . have D:c≠fb:=λe=>by simp_all
   have E:c≠mb:=λe=>by simp_all
   have P:c≠gb:=λe=>by simp_all
   have X:c≠bw:=λe=>by simp_all
   exact⟨D,E,P,by simp[ab.del,ab.set,D,E,P,X,C]⟩
 rintro env al ⟨⟨g,h,il,jP,d⟩,F,s2,s3,H⟩;refine aa.T6 hs (n:=w.aD.length) (fo:=9) (GI:=λx=>x=.map []) (λj=>.int .i64 (gY w j)) Qf Qg zX zY Na (by omega) U fm gm s2 F rfl rfl (λj Q q=>(Nc _ _).1 q (nI.2 (.inr (.inr (by omega))))) s3 rfl rfl rfl ?_;rintro A ⟨J,rfl,Y,rfl,rfl,K,p,y,L,G⟩ Fin kd Z k0 M;refine aa.iC (λe σ'=>(e 3=.cp (Rq A.fb A.mb w 0) 0/\e 4=.ref A.gb 0/\e 15=kD w.aD/\e 16=int w.aD.length/\e 17=int 0)/\σ' A.fb=some .gL/\∀c x,σ c=some x->c≠A.fb/\c≠A.mb/\σ' c=some x) ⟨⟨g,h,il,jP,d⟩,ab.ai _ _ _,λc x C=>?_⟩ ?_
 . obtain⟨D,E,P,X⟩:=H c x C
   exact⟨D,E,by simp[ab.del,ab.set,D,E,P,X]⟩
 rintro env av ⟨⟨g,h,il,jP,d⟩,F,H⟩;refine aa.T5 (λk s=>∃e σ',s=⟨e,σ',[],.told kd Z k0⟩/\(e 3=.cp (Rq A.fb A.mb w 0) 0/\e 4=.ref A.gb 0/\e 15=kD w.aD/\e 16=int w.aD.length/\e 17=int k)/\σ' A.fb=some .gL/\∀c x,σ c=some x->c≠A.fb/\c≠A.mb/\σ' c=some x) ⟨_,_,rfl,⟨g,h,il,jP,d⟩,F,H⟩ ?_ ?_
 . rintro r k _ hk ⟨env,σ',rfl,⟨g,h,il,jP,d⟩,F,H⟩ ih
   rw[J]at hk;have z:k<w.aD.length:=by omega
   have f:(k:Int)<w.aD.length:=by omega
   refine aa.runN lay [] 17 ?_;simp[g,h,il,jP,d,z,f];refine bV.intro λD ax=>?_
   simp[g,h,il,jP,d,z,f];refine bV.intro λE N=>?_
   obtain⟨n1,n2,N⟩:=ab.aP N;simp[g,h,il,jP,d,z,f,n1,n2,ab.ah];change aa _ _ _ _ _ _ _ _ _;refine aa.runN lay [] 4 ?_;simp[g,h,il,jP,d,z,f,n1,n2,ab.ah];change aa _ _ _ _ _ _ _ _ _;refine aa.bD 6 (b:=E) (gW w.aD[k]) (ab.ai _ _ _) (by simp) rfl ?_;refine aa.bD 5 (b:=D) (int k) (by simp[ab.del,ab.set,n1,n2]) (by simp) rfl ?_;refine aa.Lf rfl (by rw[p];rfl) rfl (by simp) (by rw[p];exact Tryz.func89) rfl rfl (by simp[g,h,il,jP,d,z,f]) ?_;refine aa.runN lay [] 4 ?_;simp[g,h,il,jP,d,z,f];change aa _ _ _ _ _ _ _ _ _;have Q:A.n-(r+1)=k:=by omega
   have b1:A.fb≠D:=λe=>by simp_all
   have b2:A.fb≠E:=λe=>by simp_all
   have O:=hc.2 _ (zD z);refine aa.PF y (hold':=Ul) (first:=[]) (cap:=[.ref A.gb 0,.cp (Rq A.fb A.mb w 0) 0,.cp (gW w.aD[k]) 0,.cp (int k) 0]) rfl rfl rfl (by simp) (by simp[g,h,il,jP,d,z,f]) Tryz.func90 rfl rfl (by show(4:Nat)<=25;decide) (by simp[ab.del,ab.set,b1,b2,F]) (by kernel_rfl) (by rw[p];exact Tryz.func91) rfl rfl (by rw[K];exact Tryz.func94) rfl rfl (λk1=>?_) ?_
   . rw[Q]
     exact yd (λi hi=>Nb hi) ⟨rfl,rfl,Y,K,p,y⟩ (by omega) (λx=>by rw[L]) hl hw hn O.1 O.2 (by rw[G];simp[gY,z,Qi]) rfl
   have f1:-9223372036854775808<=(k:Int)+1/\(k:Int)+1<=9223372036854775807:=by omega
   refine aa.run lay [10] ?_;simp[g,h,il,jP,d,z,f,f1.1,f1.2];refine ih _ ⟨_,_,rfl,by simp[g,h,il,jP,d,z,f],by simp[ab.del,ab.set,b1,b2,F],λc x C=>?_⟩;obtain⟨x1,x2,x3⟩:=H c x C;have y1:c≠D:=λe=>by grind
   have y2:c≠E:=λe=>by grind
   exact⟨x1,x2,by simp[ab.del,ab.set,y1,y2,x3]⟩
 . rintro _ ⟨env,σ',rfl,⟨g,h,il,jP,d⟩,F,H⟩
   rw[J]at d;refine aa.runN lay [] 9 ?_;simp[g,h,il,jP,d];change aa _ _ _ _ _ _ _ _ _;refine aa.Lm y ((cz.bc (env.upd 18 (bool false)) (some 25) (.ck [])).upd 3 (.cp (ti A.fb A.mb w 0) 0)) rfl (by rw[p];rfl) rfl (by simp) (by rw[p];exact Tryz.func95) rfl rfl (by simp_all) F rfl M (λkk a7 t v R=>?_) λa ha=>?_
   . change V kk v (cz.bc (env.upd 18 (bool false)) (some 25) (.ck []) t)at R
     by_cases e:t=3
     . subst e
       rw[show(cz.bc (env.upd 18 (bool false)) (some 25) (.ck [])) 3=.cp (Rq A.fb A.mb w 0) 0 by simp[g]]at R;rw[show((cz.bc (env.upd 18 (bool false)) (some 25) (.ck [])).upd 3 (.cp (ti A.fb A.mb w 0) 0)) 3=.cp (ti A.fb A.mb w 0) 0 by simp];refine V.YM rfl rfl (λu=>OT (l:=Wg A.mb w) (hole:=vf w.aD.length) rfl λj Q ay=>?_) R;by_cases hm:j∈vf w.aD.length
       . have aC:11<=j/\j<11+w.aD.length:=by
          have:=nI.1 hm
          simp_all
         refine .inr ⟨.int .i64 (gY w (j-11)),?_,rfl,?_⟩
         . have:=a7 (j-11) (by omega)
           rwa [G,show A.cell (j-11)=j by unfold bL.cell;omega]at this
         . have:j=11\/j=12\/j=13:=by omega
           rcases this with rfl|rfl|rfl<;>rfl
       . refine .inl ⟨hm,?_⟩
         have aE:j<15:=Q;have hz:∀i,w.aD.length<=i->int (gY w i)=int 0:=λi hi=>by rw[gY,aau hi]
         have aL:¬(11<=j/\j<11+w.aD.length):=λq=>hm (nI.2 (.inr (.inr q)))
         by_cases a8:j=11
         . subst a8;simp[hz 0 (by omega)]
         by_cases a9:j=12
         . subst a9;simp[hz 1 (by omega)]
         by_cases ad:j=13
         . subst ad;simp[hz 2 (by omega)]
         have:j=0\/j=1\/j=2\/j=3\/j=4\/j=5\/j=6\/j=7\/j=8\/j=9\/j=10\/j=14:=by omega
         rcases this with rfl|rfl|rfl|rfl|rfl|rfl|rfl|rfl|rfl|rfl|rfl|rfl<;>rfl
     . simpa[Env.upd,e]using R
   . rw[L]at ha
     subst ha;refine aa.run lay [10] ?_;simp[g,h,il,jP,d];refine .less (σ':=(σ.set A.mb (mQ (pq .u8) [])).set A.fb (.part (bH 9))) ?_ (.done (hK _ _ _ ⟨I,BV,fm,rfl⟩));intro c x C;by_cases c1:c=A.fb
     . simp_all
     by_cases c2:c=A.mb
     . subst c2
       rw[ab.ah _ _ c1,ab.ai]at C;rw[ab.ah _ _ c1,ab.ai];exact C
     rw[ab.ah _ _ c1,ab.ah _ _ c2]at C ⊢
     simp_all
def eH(w:gn)(cu a aD:acm):Int:=if mY w=0 then(if cu.all (bI · 0 72)=false then 1 else if a.all (bI · 0 (w.fair.aB.length-1))=false then 3 else if aD.all (bI · 0 (w.aD.length-1))=false then 3 else 0)else mY w
theorem pZ{α}  g :∀{l:List α},fJ g l=0->∀x∈l,g x=0
 |[],_,x,hx=>by simp at hx
 | a ::l,h,x,hx=>by
   unfold fJ at h;split at h
   . next e=>
     rcases ZW.1 hx with rfl|hx
     . exact e
     . exact pZ g h x hx
   omega
theorem Jm{t x}(h:pX t x=0):tg t x:=by
 unfold pX at h;split at h
 . cases h
 next a=>
 split at h
 . cases h
 next b=>
 split at h
 . cases h
 split at h
 . cases h
 next c=>
 split at h
 . cases h
 next d=>
 split at h
 . cases h
 next e=>
 have f:=dA (by simpa using a);have g:=dA (by simpa using b);have i:=dA (by simpa using c);have j:=dA (by simpa using d);have k:=dA (by simpa using e);unfold tg;omega
structure gn.Valid(w:gn):Prop where
 Jn:w.pY
 ba:1<=w.ba/\w.ba<=4
 cW:∀x∈w.ways,tg w.ba x
 Zz:w.ways.length<=6
 Nd:ye w
 late:∀c∈w.aD,c.lost.hour<=c.hour
 qH:w.fair.aB.length+w.aD.length<=6
 some:aH (iS w) []≠[]
theorem gn.valid{w}(d:w.pY)(h:mY w=0):w.Valid:=by
 unfold mY at h;split at h
 . cases h
 next f=>
 split at h
 . cases h
 next o=>
 split at h
 . omega
 next p=>
 split at h
 . cases h
 next q=>
 split at h
 . omega
 next g=>
 split at h
 . cases h
 next r=>
 split at h
 . cases h
 next i=>
 have j:=dA (a:=w.ba) (by simpa using f)
 have e:w.fair.aB.length+w.aD.length<=6:=by omega
 have b:∀c∈w.aD,((0<=c.town/\c.town<w.ba)/\0<=c.hour/\c.hour<=72)/\c.lost.hour<=c.hour:=λc b=>by
  have:=pZ _ (by simpa using g) c b
  unfold yV at this;split at this
  . cases this
  next k=>
  split at this
  . cases this
  next l=>
  split at this
  . cases this
  next s=>
  have t:=dA (by simpa using k)
  have u:=dA (by simpa using l)
  omega
 have m:=lP d e;have v:gV (iS w)≠0:=i;refine⟨d,j,λx n=>Jm (pZ _ (by omega) x n),by omega,⟨by omega,λc h=>(b c h).1⟩,λc h=>(b c h).2,e,(z9 m).1 ?_⟩
 have:0<=gV (iS w):=by unfold gV;omega
 omega
theorem FQ  p  (l:acm){i}  h :(l.drop i).all p=(p l[i] && (l.drop (i+1)).all p):=by rw[aah h,aaj]
theorem lQ{w}(A:m.solo=true)(y:w.pY){cu a aD}(D:cu.length<1000000/\a.length<1000000/\aD.length<1000000)
 (f:eH w cu a aD≠0->KF (.val (.ck [.lit (.pointer none),int (eH w cu a aD)])) σ)
 (r:eH w cu a aD=0->∀σ' fb mb,Jl σ fb mb w σ'->KF (.val (.ck [ti fb mb w 0,int 0])) σ'):az prog m 41 [dv w,ints cu,ints a,ints aD] σ KF:=by
 unfold eH at f r;refine fs [] Tryz.func41 rfl (by kernel_rfl) ?_;simp[Tryz.f41];refine cf Tryz.func33 rfl (FP A y ?_);apply rn;simp;apply aG.intro<;>intro t<;>simp at t<;>simp[t]
 . simp[t]at f
   exact .done f
 have v:=gn.valid y t;have z:=y.ways;have E:=v.qH;simp only[t,ZD]at f r;refine aa.loop cu.length (λk s=>∃env,s=⟨env,σ,[],.no⟩/\env 2=ints a/\env 3=ints aD/\env 4=.cp (dv w) 0/\env 22=ints cu/\env 23=int cu.length/\env 24=int k/\cu.all (bI · 0 72)=(cu.drop k).all (bI · 0 72)) ⟨_,rfl,by simp⟩ ?_;rintro F k _ x ⟨env,rfl,B,C,q,vD,rR,HI,b⟩ u;apply rn;simp[rR,HI];apply aG.intro<;>intro h<;>simp at h<;>simp[B,C,vD,HI,h]
 . rw[FQ _ _ h]at b
   refine cf Tryz.func71 rfl (dW ?_);apply rn;simp;refine aG.intro (λd=>?_) (λd=>?_)<;>(try simp at d)<;>(try simp[HI,d])
   . rw[d,Bool.true_and]at b
     refine⟨by omega,u _ (by omega) ⟨_,rfl,?_,?_,?_,?_,?_,?_,b⟩⟩<;>simp[B,C,q,vD,rR]
   . simp[b,d]at f
     exact .done f
 have ek:k=cu.length:=by omega
 subst ek;rw[abj,List.all_nil]at b;simp only[b,aaW,LK]at f r;refine aa.uj ?_;apply rn;simp;refine aa.loop a.length (λk s=>∃env,s=⟨env,σ,[],.no⟩/\env 4=.cp (dv w) 0/\env 34=.sl 1 [ints a,ints aD] .exact/\env 35=int 2/\env 36=int 0/\env 13=int 0/\env 41=ints a/\env 42=int a.length/\env 43=int k/\a.all (bI · 0 (w.fair.aB.length-1))=(a.drop k).all (bI · 0 (w.fair.aB.length-1))) ⟨_,rfl,by simp[q]⟩ ?_;rintro G k _ x ⟨env,rfl,q,i,g,j,n,o,p,e,b⟩ u;refine aa.runN lay [] 25 ?_;simp[p,e];apply aG.intro<;>intro h<;>simp at h<;>simp[q,j,o,e,h]
 . rw[FQ _ _ h]at b
   refine aa.op rfl (bW rfl) (by simp) (λc=>by simp) (pJ lay rfl Qb rfl rS (l:=[int w.fair.aB.length,int w.aD.length]) (by simp) (by simp[ku,aJ]) ?_);apply rn;simp[n];refine⟨by omega,?_⟩;refine cf Tryz.func71 rfl (dW ?_);apply rn;simp;refine aG.intro (λd=>?_) (λd=>?_)<;>(try simp at d)<;>(try simp[e,d])
   . rw[d,Bool.true_and]at b
     refine⟨by omega,u _ (by omega) ⟨_,rfl,?_,?_,?_,?_,?_,?_,?_,?_,b⟩⟩<;>simp[q,i,g,j,n,o,p]
   . rw[d,Bool.false_and]at b
     simp only[b,ZD]at f;exact .done (f (by decide))
 have ek:k=a.length:=by omega
 subst ek;rw[abj,List.all_nil]at b;simp only[b,aaW,LK]at f r;refine aa.again (by kernel_rfl) ?_;apply rn;simp[i,g];refine aa.loop aD.length (λk s=>∃env,s=⟨env,σ,[],.no⟩/\env 4=.cp (dv w) 0/\env 34=.sl 1 [ints a,ints aD] .exact/\env 35=int 2/\env 36=int 1/\env 13=int 1/\env 41=ints aD/\env 42=int aD.length/\env 43=int k/\aD.all (bI · 0 (w.aD.length-1))=(aD.drop k).all (bI · 0 (w.aD.length-1))) ⟨_,rfl,by simp[q,i,g]⟩ ?_;rintro H k _ x ⟨env,rfl,q,i,g,j,n,o,p,e,b⟩ u;refine aa.runN lay [] 25 ?_;simp[p,e];apply aG.intro<;>intro h<;>simp at h<;>simp[q,j,o,e,h]
 . rw[FQ _ _ h]at b
   refine aa.op rfl (bW rfl) (by simp) (λc=>by simp) (pJ lay rfl Qb rfl rS (l:=[int w.fair.aB.length,int w.aD.length]) (by simp) (by simp[ku,aJ]) ?_);apply rn;simp[n];refine⟨by omega,?_⟩;refine cf Tryz.func71 rfl (dW ?_);apply rn;simp;refine aG.intro (λd=>?_) (λd=>?_)<;>(try simp at d)<;>(try simp[e,d])
   . rw[d,Bool.true_and]at b
     refine⟨by omega,u _ (by omega) ⟨_,rfl,?_,?_,?_,?_,?_,?_,?_,?_,b⟩⟩<;>simp[q,i,g,j,n,o,p]
   . rw[d,Bool.false_and]at b
     simp only[b,ZD]at f;exact .done (f (by decide))
 have ek:k=aD.length:=by omega
 subst ek;rw[abj,List.all_nil]at b;simp only[b,aaW,LK]at f r;refine aa.again (by kernel_rfl) ?_;apply rn;simp[q,g];refine cf Tryz.func48 rfl (tj A z v.cW v.ba v.Nd λσ' fb mb x=>?_);apply rn;simp;exact .done (r trivial σ' fb mb x)
end
section
open Go Go.cz Go.Conc
open Go.Extern
variable{m:Mo}{σ:ab}{KF:abW}
abbrev Sx(t:Nat):Value:=.pointer (some ⟨1,t,none⟩)
abbrev UQ(t:Nat):AV:=.lS 224 (.agg [.lit (Sx t)])
theorem vg{P}{t f:Nat}{name a a'}(h:∀k v,V k v a->∃r,eM P (Go.method (P.types.size+Made.depth) t v name)=some (f,r)/\V k r a'):nW P t name f a a':=λk O v K g b c=>by obtain⟨r,d,e⟩:=h k v b;exact ov _ d (c r e)
theorem Jo{t f:Nat}{name}(h:∀h,eM prog (Go.method (prog.types.size+Made.depth) 224 (.agg #[h]) name)=some (f,.agg #[h])):nW prog 224 name f (.agg [.lit (Sx t)]) (.agg [.lit (Sx t)]):=vg λk v a=>by
 obtain⟨x,rfl,_⟩:=Fc.1 a
 simp_all
theorem Rs  k   t :V k (.iface 224 (.agg #[Sx t])) (UQ t):=P9.2 ⟨_,rfl,Fc.2 ⟨_,rfl,.lit _⟩⟩
abbrev Ag:AV:=.lS 105 (.agg [])
theorem Nf(h:KF (.val (bool false)) σ):az prog m 56 [.lit .nilIface,Ag] σ KF:=by
 refine fs [] Tryz.func56 rfl (by kernel_rfl) ?_;simp[Tryz.f56];refine gq lay rfl GY rfl (.inl ⟨rfl,rfl⟩) (.inl ⟨rfl,rfl⟩) ?_;apply rn;simp;refine ow (vx:=.nilIface) (vy:=.iface 105 (.agg #[])) (r:=.bool false) rfl (λk v a=>by simpa using zP.1 a) (λk v a=>V.OW (by simpa using a)) (by kernel_rfl) ?_;apply rn;simp;exact .done h
theorem Ng  h :eM prog (Go.method (prog.types.size+Made.depth) 224 (.agg #[h])  "Comparable")=some (237,.agg #[h]):=by kernel_rfl
theorem Pm(h:KF (.val (bool true)) σ):az prog m 98 [Ag,Ag,bool true] σ KF:=by
 refine fs [] Tryz.func98 rfl (by kernel_rfl) ?_;simp[Tryz.f98];refine aa.uj ?_;apply rn;simp;refine ow (vx:=.iface 105 (.agg #[])) (vy:=.iface 105 (.agg #[])) (r:=.bool true) rfl (λk v a=>V.OW (by simpa using a)) (λk v a=>V.OW (by simpa using a)) (by kernel_rfl) ?_;apply rn;simp;exact .done h
theorem Hd(h:KF (.val (bool true)) σ):az prog m 56 [Ag,Ag] σ KF:=by
 refine fs [] Tryz.func56 rfl (by kernel_rfl) ?_;simp[Tryz.f56];refine gq lay rfl GY rfl (.inr ⟨⟨_,_,rfl⟩,rfl⟩) (.inl ⟨rfl,rfl⟩) ?_;apply rn;simp;refine gq lay rfl GY rfl (.inr ⟨⟨_,_,rfl⟩,rfl⟩) (.inl ⟨rfl,rfl⟩) ?_;apply rn;simp;refine bY.ext Tryz.func97 rfl rfl (by kernel_rfl) (e:=ReflectliteType.typeOf) (by kernel_rfl) (va.pure (v:=.iface 224 (.agg #[Sx 105])) (a:=UQ 105) (λk f d=>?_) (λk=>Rs k _) ?_)
 . obtain⟨v,b,c⟩:=d.one
   subst b;rw[V.OW c]
   kernel_rfl
 apply rn;simp;refine aa.OV rfl rfl (bW rfl) (by simp) rfl (Jo Ng) Tryz.func237 rfl rfl (by kernel_rfl) (e:=ReflectliteType.method λt=>do Rtype.noPackHeld  "Comparable" t;pure (.bool (<-typeInfo t).comparable)) (by kernel_rfl) (va.pure (v:=.bool true) (a:=bool true) (λk f d=>?_) (λk=>.lit _) ?_)
 . obtain⟨v,b,c⟩:=d.one
   subst b;obtain⟨u,rfl,g⟩:=Fc.1 c;rw[zP.1 g]
   kernel_rfl
 apply rn;simp;refine cf Tryz.func98 rfl (Pm ?_);apply rn;simp;exact .done h
theorem vh{w fb mb c}(b:c<3)(h:if 72<gY w c then KF (.val (.ck [int 0,Ag])) σ else KF (.val (.ck [int (gY w c),.lit .nilIface])) σ):az prog m 55 [ti fb mb w 0,int c] σ KF:=by
 have:c=0\/c=1\/c=2:=by omega
 rcases this with rfl|rfl|rfl
 all_goals
  refine fs [] Tryz.func55 rfl (by kernel_rfl) ?_;simp[Tryz.f55];refine aG.intro (λa=>?_) (λa=>?_)<;>(try simp[-Int.not_lt,-Int.not_le]at a)<;>(try simp[a]at h)<;>(try simp[a])<;>(try exact .done h)
 all_goals exact .done h
def pE(w:gn)(h:Int)(i:Int):Bool:=decide ((aR w.fair i).hour<=h)
def pC(w:gn)(h:Int)(i:Int):Bool:=decide (gY w i.toNat<=72) && decide (gY w i.toNat<=h)
def lR(w:gn)(h:Int):acm:=(rO w.fair.aB.length).filter (pE w h)
def mZ(w:gn)(h:Int):acm:=(rO w.aD.length).filter (pC w h)
abbrev Rt(w:gn)(h:Int):AV:=.agg [u8 (aX (lR w h)),u8 (aX (mZ w h))]
theorem yf  k   p :(rO (k+1)).filter p=(rO k).filter p++if p k then[(k:Int)]else[]:=by
 unfold rO;rw[ZQ,ZO,aaF]
 grind
theorem m5  l   n :aX (l++[n])=bS (aX l) n:=by
 unfold aX
 simp_all
namespace CK
abbrev Wh:acb:=[⟨6,.take [0,1,2,3,4,5] true (.one 6 (.done))⟩,⟨13,.take [0,3,6] false (.both 1 (.one 2 (.take [4,5] true (.one 7 (.done)))) (.one 2 (.take [1,4,5] true (.one 7 (.done)))))⟩]
theorem Jp{w fb mb h}(H:w.fair.aB.length<=6)(I:w.aD.length<=3)(z:KF (.val (Rt w h)) σ):az prog m 59 [ti fb mb w 0,int h] σ KF:=by
 refine fs Wh Tryz.func59 rfl (by kernel_rfl) ?_
 simp[Tryz.f59];refine bV.intro λb hb=>?_
 simp;refine bV.intro λd hd=>?_
 obtain⟨J,A,hd⟩:=ab.aP hd;simp;refine aa.loop w.fair.aB.length (λk s=>∃env,s=⟨env,(σ.set b (.cells [u8 0,u8 0])).set d (.cells [u8 (aX ((rO k).filter (pE w h))),u8 0]),[],.no⟩/\env 0=ti fb mb w 0/\env 1=int h/\env 4=.ref b 0/\env 5=.ref d 0/\env 16=jm w.fair.aB/\env 17=int w.fair.aB.length/\env 18=int k) ⟨_,rfl,by simp⟩ ?_
 rintro K k _ B ⟨env,rfl,i,j,n,g,jP,o,lU⟩ p
 refine aa.runN lay [] 17 ?_;simp[o,lU];apply aG.intro<;>intro r<;>simp at r<;>simp[i,jP,lU,r]
 . have C:aR w.fair k=w.fair.aB[k]:=by simp[aR,r]
   refine bV.intro λq D=>?_
   obtain⟨L,M,E⟩:=ab.aP D;obtain⟨N,O,P⟩:=ab.aP E;simp
   change aa _ _ _ _ _ _ _ _ _
   refine aa.runN lay [] 2 ?_;simp
   change aa _ _ _ _ _ _ _ _ _
   refine aa.bD 7 (b:=q) (bu w.fair.aB[k]) (ab.ai _ _ _) (by simp) rfl ?_
   rw[eY (by omega)]
   apply rn;simp[j];have a:=yf k (pE w h);have t:pE w h k=decide (w.fair.aB[k].hour<=h):=by unfold pE;rw[C]
   apply aG.intro<;>intro u<;>simp at u<;>simp[g,lU,u,sX]
   . rw[t,show decide (w.fair.aB[k].hour<=h)=true by grind,ZG rfl]at a
     apply rn;simp[lU];refine⟨by omega,p _ (by omega) ⟨_,by rw[a,m5];rfl,by simp[i,j,n,g,jP,o]⟩⟩
   . rw[t,show decide (w.fair.aB[k].hour<=h)=false by grind,ZB (by simp),aao]at a
     refine⟨by omega,p _ (by omega) ⟨_,by rw[a],by simp[i,j,n,g,jP,o]⟩⟩
 have ek:k=w.fair.aB.length:=by omega
 subst ek;rw[show(rO w.fair.aB.length).filter (pE w h)=lR w h from rfl]
 apply rn;simp;refine aa.loop w.aD.length (λk s=>∃env,s=⟨env,(σ.set b (.cells [u8 0,u8 0])).set d (.cells [u8 (aX (lR w h)),u8 (aX ((rO k).filter (pC w h)))]),[],.no⟩/\env 0=ti fb mb w 0/\env 1=int h/\env 4=.ref b 0/\env 5=.ref d 0/\env 39=int w.aD.length/\env 40=int k) ⟨_,rfl,by simp[i,j,n,g]⟩ ?_
 rintro v k _ B ⟨env,rfl,i,j,n,g,l,f⟩ p
 apply rn;simp[l,f];apply aG.intro<;>intro r<;>simp at r<;>simp[i,n,g,f,r,A,ab.ah]
 . have a:=yf k (pC w h)
   have t:pC w h k=(decide (gY w k<=72) && decide (gY w k<=h)):=rfl;refine cf Tryz.func55 rfl (vh (by omega) ?_)
   split
   . next u=>
     apply rn;simp;refine cf Tryz.func56 rfl (Hd ?_);apply rn;simp[f];rw[t,show decide (gY w k<=72)=false by simp;omega,Bool.false_and,ZB (by simp),aao]at a
     refine⟨by omega,p _ (by omega) ⟨_,by rw[a],by simp[i,j,n,g,l]⟩⟩
   . next u=>
     apply rn;simp;refine cf Tryz.func56 rfl (Nf ?_);apply rn;simp[j];rw[t,show decide (gY w k<=72)=true by simp;omega,Bool.true_and]at a
     apply aG.intro<;>intro y<;>simp at y<;>simp[g,f,y]
     . rw[show decide (gY w k<=h)=true by grind,ZG rfl]at a
       have:k=0\/k=1\/k=2:=by omega
       refine⟨?_,?_⟩
       all_goals
        refine cf Tryz.func101 rfl (M8 ?_)
        rcases this with rfl|rfl|rfl
       all_goals
        apply pg;simp[sX];apply rn;simp[f]
       all_goals exact p _ (by omega) ⟨_,by rw[a,m5];rfl,by simp[i,j,n,g,l]⟩
     . rw[show decide (gY w k<=h)=false by grind,ZB (by simp),aao]at a
       refine⟨by omega,p _ (by omega) ⟨_,by rw[a],by simp[i,j,n,g,l]⟩⟩
 . have ek:k=w.aD.length:=by omega
   subst ek;rw[show(rO w.aD.length).filter (pC w h)=mZ w h from rfl]
   refine .less (λc x F=>?_) (.done z)
   have v:c≠b:=λe=>by grind
   have G:c≠d:=λe=>by grind
   rw[ab.ah _ _ v,ab.ah _ _ G,ab.ah _ _ v];exact F
end CK
theorem p9{b o l n}(a:σ b=some (.cells l))(c:l[o]?=some (.lit (.int .u32 n)))(h:KF (.val (bool (n !=0))) σ):az prog m 178 [.ref b o] σ KF:=by
 refine fs [] Tryz.func178 rfl (by kernel_rfl) ?_;simp[Tryz.f178];refine bY.ext Tryz.func199 rfl rfl (by kernel_rfl) (e:=Atomic.loadT (.int .u32)) (by kernel_rfl) (Fe (ot b o) a c ?_);apply rn;simp;exact .done h
theorem Ru(h:KF (.val (.lit (.int .u32 1))) σ):az prog m 208 [bool true] σ KF:=by
 refine fs [] Tryz.func208 rfl (by kernel_rfl) ?_;simp[Tryz.f208];exact .done h
theorem BM{b o l}(a:σ b=some (.cells l))(c:o<l.length)(h:KF (.val (.ck [])) (σ.set b (.cells (l.set o (.lit (.int .u32 1)))))):az prog m 200 [.ref b o,bool true] σ KF:=by
 refine fs Uu Tryz.func200 rfl (by kernel_rfl) ?_;simp[Tryz.f200];refine cf Tryz.func208 rfl (Ru ?_);apply pg;simp;refine bY.ext Tryz.func207 rfl rfl (by kernel_rfl) (e:=Atomic.storeT) (by kernel_rfl) (Dd (ot b o) a c ?_);apply pg;simp;apply rn;simp;exact .done h
theorem DO{b l f}(a:σ b=some (.cells l))(c:l[0]?=some (.lit (.int .u32 1)))(h:KF (.val (.ck [])) σ):az prog m 146 [.ref b 0,f] σ KF:=by
 refine fs [] Tryz.func146 rfl (by kernel_rfl) ?_;simp[Tryz.f146];refine cf Tryz.func178 rfl (p9 a c ?_);apply rn;simp;exact .done h
theorem DQ(d:m.solo=true){b l f}(c:σ b=some (.cells l))(p:l[0]?=some (.lit (.int .u32 0)))(e:l[1]?=some (.lit (.int .i32 0)))(g:l[2]?=some (.lit (.int .u32 0)))
 (h:∀K ,(∀σ' a,σ' b=some (.cells a)->a[0]?=some (.lit (.int .u32 0))->a[1]?=some (.lit (.int .i32 1))->a[2]?=some (.lit (.int .u32 0))->KF (.val (.ck [])) (σ'.set b (.cells ((a.set 0 (.lit (.int .u32 1))).set 1 (.lit (.int .i32 0)))))->K (.val (.ck [])) σ')->bY prog m f [] (σ.set b (.cells (l.set 1 (.lit (.int .i32 1))))) K):
 az prog m 179 [.ref b 0,f] σ KF:=by
 refine fs [] Tryz.func179 rfl (by kernel_rfl) ?_;simp[Tryz.f179];refine cf Tryz.func93 rfl (E3 zX zY Na d (ot b 1) c e g ?_);apply rn;simp;refine aa.defer rfl rfl rfl rfl (by simp) rfl ?_;apply rn;simp;have i:(σ.set b (.cells (l.set 1 (.lit (.int .i32 1))))) b=some (.cells (l.set 1 (.lit (.int .i32 1)))):=ab.ai _ _ _;have j:(l.set 1 (.lit (.int .i32 1)))[0]?=some (.lit (.int .u32 0)):=by simp_all
 refine cf Tryz.func178 rfl (p9 i j ?_);apply rn;simp;refine aa.defer rfl rfl rfl rfl (by simp) rfl ?_;apply rn;simp;refine h _ λσ' a k n q r o=>?_
 apply rn;simp;refine qL.func Tryz.func200 rfl rfl (BM k (ZK.1 n).1 ?_);refine qL.func Tryz.func94 rfl rfl (Br zX zY Na d (ot b 1) (ab.ai _ _ _) (by simp_all) (by simp_all) ?_);rw[ab.set_set];exact⟨[],rfl,.done o⟩
theorem BN(e:m.solo=true){b l f}(c:σ b=some (.cells l))(d:l[0]?=some (.lit (.int .u32 0)))(g:l[1]?=some (.lit (.int .i32 0)))(h:l[2]?=some (.lit (.int .u32 0)))
 (i:∀K ,(∀σ' a,σ' b=some (.cells a)->a[0]?=some (.lit (.int .u32 0))->a[1]?=some (.lit (.int .i32 1))->a[2]?=some (.lit (.int .u32 0))->KF (.val (.ck [])) (σ'.set b (.cells ((a.set 0 (.lit (.int .u32 1))).set 1 (.lit (.int .i32 0)))))->K (.val (.ck [])) σ')->bY prog m f [] (σ.set b (.cells (l.set 1 (.lit (.int .i32 1))))) K):
 az prog m 146 [.ref b 0,f] σ KF:=by
 refine az.thaw ?_;refine fs [] Tryz.func146 rfl (by kernel_rfl) ?_;simp[Tryz.f146];refine cf Tryz.func178 rfl (p9 c d ?_);apply rn;simp;refine cf Tryz.func179 rfl (DQ e c d g h λK j=>i K λσ' a k n o p q=>j σ' a k n o p ?_);apply rn;simp;exact .done (.done q)
end
section
open Go Go.cz Go.Conc
variable{m:Mo}{σ:ab}{KF:abW}
def BO(w:gn)(c:Int):NU:=w.aD.getD c.toNat ⟨⟨0,0,0,[],0,0⟩,0,0⟩
abbrev du(w:gn)(es cs:acm):Fr:={w.fair with aB:=es.map (aR w.fair)++cs.map λc=>(BO w c).lost}
abbrev He(f:Fr):acs:=[rows f.roads,int f.aQ,int f.eP,int f.cM,int f.aW]
abbrev FT:acs:=[.lit (.slice none 0 0),.lit (.slice none 0 0),int 0,int 0,int 0,int 0]
theorem Nh{a a' l}(h:a.W a'):(AV.agg (a::l)).W (.agg (a'::l)):=pP rfl λi x y c b=>by
 cases i with
 |zero=>simp_all
 |succ i=>simp at c b;rw[c]at b;cases b;exact .refl _
namespace CF
abbrev Wi:acb:=[⟨6,.take [0,2,3,4,5,6,7,8,9,10,13] false (.both 1 (.one 11 (.one 12 (.one 14 (.done)))) (.one 11 (.take [1] true (.one 12 (.one 14 (.done))))))⟩,⟨11,.take [1,2,3,4,5,6,7,8,9] false (.both 0 (.one 10 (.one 11 (.one 12 (.done)))) (.one 10 (.take [0] true (.one 11 (.one 12 (.done))))))⟩]
theorem Ni{w fb mb x y}(U:∀i∈aA x,0<=i/\i<w.fair.aB.length)(V:∀i∈aA y,0<=i/\i<w.aD.length)(h:KF (.val (dz (du w (aA x) (aA y)))) σ):az prog m 65 [ti fb mb w 0,.agg [u8 x,u8 y]] σ KF:=by
 have X:=nG x;have Y:=nG y;refine fs Wi Tryz.func65 rfl (by kernel_rfl) ?_
 simp[Tryz.f65];refine bV.intro λb hb=>?_
 simp;refine bV.intro λd l=>?_
 obtain⟨n1,n2,hd⟩:=ab.aP l;simp;refine cf Tryz.func60 rfl (pW ?_);apply rn;simp
 refine aa.loop (aA x).length (λk s=>∃env f a,s=⟨env,f,[],.no⟩/\env 0=ti fb mb w 0/\env 3=.cp (.agg [u8 x,u8 y]) 0/\env 4=.ref b 0/\env 5=.ref d 0/\env 18=ints (aA x)/\env 19=int (aA x).length/\env 20=int k/\f d=some (.cells (a::He w.fair))/\Tok (σ.set b (.cells FT)) f a 6 (((aA x).take k).map λi=>bu (aR w.fair i))) ⟨_,_,_,rfl,by simp,by simp,by simp,by simp,by simp,by simp,by simp,ab.ai _ _ _,(Tok.nil _ _).beside l (by simp[br])⟩ ?_
 rintro c0 k _ Z ⟨env,f,a,rfl,E,S,F,n,lU,Oe,yG,p,g⟩ K
 have L:=g.cells;apply rn;simp[Oe,yG];apply aG.intro<;>intro o<;>simp at o<;>simp[E,S,n,lU,yG,o]
 . obtain⟨i,r⟩:∃i,(aA x)[k]=i:=⟨_,rfl⟩
   have t:=U i (r ▸ zD o);have j:i.toNat<w.fair.aB.length:=by omega
   have M:aR w.fair i=w.fair.aB[i.toNat]:=by simp[aR,j]
   simp only[r];have u:w.fair.aB[i.toNat]?=some w.fair.aB[i.toNat]:=Rp j;refine⟨t.1,?_⟩;simp[n,p,u]
   have N:((aA x).take (k+1)).map (λi=>bu (aR w.fair i))=((aA x).take k).map (λi=>bu (aR w.fair i))++[bu w.fair.aB[i.toNat]]:=by rw[zA o,ZO,r,<-M];rfl
   have O:br a≠some d:=λe=>by obtain⟨_,_,q⟩:=g.aV e;simp_all
   refine⟨?_,?_⟩
   all_goals
    refine aK lay rfl rfl rfl mW rfl mW rfl yP (by decide) (by simp only[ZT,aaB,aaa,aaz];omega) (σ0:=f.off a) (es:=((aA x).take k).map λi=>bu (aR w.fair i)) (xs:=[bu w.fair.aB[i.toNat]]) (by simpa using g.here.1) (.inr ⟨_,by simp;rfl⟩) λa' P A=>?_
    have G:=A.cells;have T:P d=some (.cells (a::He w.fair)):=A.1 _ _ (by rw[ab.dL O];exact p)
    have B:=A.base g.here.2;rw[<-N]at B;apply pg;simp[T,G.1,G.2,aJ];apply rn;simp[yG];refine⟨by omega,K _ (by omega) ⟨_,_,a',rfl,by simp[E],by simp[S],by simp[F],by simp[n],by simp[lU],by simp[Oe],by simp,ab.ai _ _ _,B.beside l (λe=>by obtain⟨_,_,q⟩:=B.aV e;rw[T]at q;cases q)⟩⟩
 . have ek:k=(aA x).length:=by omega
   subst ek;rw[ZL]at g;refine cf Tryz.func60 rfl (pW ?_);apply rn;simp
   have H:a.W (jm ((aA x).map (aR w.fair)++(((aA y).take 0).map λc=>(BO w c).lost))):=by simp only[List.take_zero,List.map_nil,aao];have:=g.W;show a.W (.sl 6 (((aA x).map (aR w.fair)).map bu) .any);rw[List.map_map];exact this
   refine aa.loop (aA y).length (λk s=>∃env f z,s=⟨env,f,[],.no⟩/\env 0=ti fb mb w 0/\env 4=.ref b 0/\env 5=.ref d 0/\env 41=ints (aA y)/\env 42=int (aA y).length/\env 43=int k/\f d=some (.cells (z::He w.fair))/\(z.cells=[z]/\z.flat=true)/\z.W (jm ((aA x).map (aR w.fair)++(((aA y).take k).map λc=>(BO w c).lost)))/\(σ.set b (.cells FT)).Le f) ⟨_,_,a,rfl,by simp[E],by simp[F],by simp[n],by simp,by simp,by simp,p,L,H,g.1⟩ ?_
   rintro Q k _ Z ⟨env,f,z,rfl,E,F,n,I,J,C,p,R,H,D⟩ K
   have qb:f b=some (.cells FT):=D _ _ (ab.ai _ _ _);apply rn;simp[J,C];apply aG.intro<;>intro o<;>simp at o<;>simp[E,F,n,I,C,p,qb,R.2,o,aJ]
   . obtain⟨i,r⟩:∃i,(aA y)[k]=i:=⟨_,rfl⟩
     have t:=V i (r ▸ zD o);have j:i.toNat<w.aD.length:=by omega
     have M:BO w i=w.aD[i.toNat]:=by simp[BO,j]
     simp only[r];have u:w.aD[i.toNat]?=some w.aD[i.toNat]:=Rp j;refine⟨t.1,?_⟩;simp[n,p,u]
     have N:((aA y).take (k+1)).map (λc=>(BO w c).lost)=((aA y).take k).map (λc=>(BO w c).lost)++[w.aD[i.toNat].lost]:=by rw[zA o,ZO,r,<-M];rfl
     have hW:Wl [AV.agg (z::He w.fair),.sl 6 [bu w.aD[i.toNat].lost] .exact] [dz (du w (aA x) ((aA y).take k)),jm [w.aD[i.toNat].lost]]:=.cons (Nh H) (.cons (iq _ _ _) .nil);refine⟨?_,?_⟩
     all_goals
      refine cd Tryz.func75 rfl rfl hW (DN (by simp only[ZN,ZT,aaB,aaa,aaz];omega) ?_)
      rw[aaI,<-N];apply pg;simp[n,p];apply rn;simp[C];refine⟨by omega,K _ (by omega) ⟨_,_,_,rfl,by simp[E],by simp[F],by simp[n],by simp[I],by simp[J],by simp,ab.ai _ _ _,⟨rfl,rfl⟩,by simp only[List.map_take];exact .refl _,ab.fa D l⟩⟩
   . have ek:k=(aA y).length:=by omega
     subst ek;rw[ZL]at H;refine .oW (Nh H) (.less (λc v hv=>?_) (.done h))
     have Q:c≠b:=λe=>by grind
     rw[ab.ah _ _ Q];exact D _ _ (by rw[ab.ah _ _ Q];exact hv)
end CF
def yg(f:Fr)(x y:Int):Int:=kW (((aH f []).filter (lM x y)).length:Int) (aH f []).length
def Ah(n:Int):Nat:=if n=1 then 125 else if n=3 then 284 else 195
abbrev yh(n:Int):AV:=.lS (Ah n) (.agg [])
def tk(n:Int):AV:=if n=0 then .lit .nilIface else yh n
def Nj(f:Fr)(es cs:acm)(x:Nat)(N:acm):acm:=(List.range cs.length).foldl (λN y=>N.set (3*(es.getD x 0).toNat+(cs.getD y 0).toNat) (yg f x ((es.length:Int)+y))) N
def Nk(f:Fr)(es cs:acm):acm:=(List.range es.length).foldl (λN x=>Nj f es cs x N) (List.replicate 18 0)
abbrev vi(a b:Int)(N:acm):acs:=[.lit (.int .u32 a),.lit (.int .i32 b),.lit (.int .u32 0)]++N.map tk
theorem Nl  f   x y :yg f x y≠0:=by unfold yg kW;omega
theorem ji{σ:ab}{b x}(h:σ b=some x):σ.set b x=σ:=by
 funext c;by_cases e:c=b
 . simp_all
 . simp[ab.set,e]
theorem Nm  f   es cs   x   N :(Nj f es cs x N).length=N.length:=by
 have key:∀(l:acn) (N:acm),(l.foldl (λN y=>N.set (3*(es.getD x 0).toNat+(cs.getD y 0).toNat) (yg f x ((es.length:Int)+y))) N).length=N.length:=λl=>by
  induction l with
  |nil=>simp_all
  |cons a l b=>simp_all
 exact key _ N
theorem DR{a b c}{N:acm}{i j n}(d:3*i+j<N.length)(f:n≠0):aJ (a::b::c::N.map tk) (3+i*3+j) [yh n]=a::b::c::(N.set (3*i+j) n).map tk:=by
 have e:3+i*3+j=3*i+j+1+1+1:=by omega
 rw[e];generalize 3*i+j=p at d ⊢;unfold aJ;simp only[List.take_succ_cons,aaa,aaz,aaK,List.drop_succ_cons,List.cons_append];rw[abt,abc,ZG (by simp_all)];simp[tk,f]
theorem Nn(Q:m.solo=true){w fb mb bk x y}(K:∀i∈aA x,0<=i/\i<w.fair.aB.length)(L:∀i∈aA y,0<=i/\i<w.aD.length)(D:(du w (aA x) (aA y)).Good)(R:aH (du w (aA x) (aA y)) []≠[])(h6:w.fair.aB.length<=6/\w.aD.length<=3)
 (hb:σ bk=some (.cells (vi 0 1 (List.replicate 18 0)))) (h:KF (.val (.ck [])) (σ.set bk (.cells (vi 0 1 (Nk (du w (aA x) (aA y)) (aA x) (aA y)))))):
 az prog m 147 [.cp (ti fb mb w 0) 0,.cp (.agg [u8 x,u8 y]) 0,.cp (.ref bk 0) 0] σ KF:=by
 have S:=nG x;have T:=nG y;refine fs Uo Tryz.func147 rfl (by kernel_rfl) ?_;simp[Tryz.f147]
 repeat' first
  |refine⟨?_,?_⟩
  | (refine cf Tryz.func65 rfl (CF.Ni K L ?_)
     apply pg;simp)
  | (refine cf Tryz.func60 rfl (pW ?_)
     apply pg;simp)
  | (refine vo.intro λd hd=>?_
     simp)
 all_goals
  refine aa.bD 3 (b:=d) (dz (du w (aA x) (aA y))) (ab.ai _ _ _) (by simp) rfl ?_;rw[eY hd];apply rn;simp;refine aa.loop (aA x).length (λk s=>∃env N,s=⟨env,σ.set bk (.cells (vi 0 1 N)),[],.no⟩/\N.length=18/\N=(List.range k).foldl (λN i=>Nj (du w (aA x) (aA y)) (aA x) (aA y) i N) (List.replicate 18 0)/\env 2=.cp (.ref bk 0) 0/\env 3=.cp (dz (du w (aA x) (aA y))) 0/\env 4=ints (aA x)/\env 5=ints (aA y)/\env 21=ints (aA x)/\env 22=int (aA x).length/\env 23=int k) ⟨_,List.replicate 18 0,by rw[ji hb],rfl,rfl,by simp⟩ ?_;rintro c0 k _ hk ⟨env,N,rfl,U,p,q,r,u,v,m9,vD,rR⟩ V;apply rn;simp[vD,rR];apply aG.intro<;>intro B<;>simp at B<;>simp[v,m9,rR,B]
  . obtain⟨i,E⟩:∃i,(aA x)[k]=i:=⟨_,rfl⟩
    have W:=K i (E ▸ zD B);have F:(aA x).getD k 0=i:=by simp[zH,B,E]
    refine aa.loop (aA y).length (λj s=>∃env g,s=⟨env,σ.set bk (.cells (vi 0 1 g)),[],.no⟩/\g.length=18/\g=(List.range j).foldl (λN M=>N.set (3*i.toNat+((aA y).getD M 0).toNat) (yg (du w (aA x) (aA y)) k (((aA x).length:Int)+M))) N/\env 2=.cp (.ref bk 0) 0/\env 3=.cp (dz (du w (aA x) (aA y))) 0/\env 4=ints (aA x)/\env 5=ints (aA y)/\env 21=ints (aA x)/\env 22=int (aA x).length/\env 23=int k/\env 6=int k/\env 7=int i/\env 28=ints (aA y)/\env 29=int (aA y).length/\env 30=int j) ⟨_,N,rfl,U,rfl,by simp[q,r,u,v,m9,vD,rR,E]⟩ ?_;rintro c1 j _ hj ⟨env,g,rfl,l,e,q,r,u,v,m9,vD,rR,O,P,z,A,n⟩ G;apply rn;simp[A,n];apply aG.intro<;>intro C<;>simp at C<;>simp[r,u,rR,O,z,n,C]
    . obtain⟨c,o⟩:∃c,(aA y)[j]=c:=⟨_,rfl⟩
      have X:=L c (o ▸ zD C);have H:(aA y).getD j 0=c:=by simp[zH,C,o]
      have Y:(du w (aA x) (aA y)).aB.length=(aA x).length+(aA y).length:=by simp
      simp only[o];refine⟨by omega,?_⟩;refine cf Tryz.func148 rfl (Pb (f:=du w (aA x) (aA y)) Q D.fits D.EB ⟨by omega,by omega⟩ ⟨by omega,by omega⟩ R (Nat.lt_of_le_of_lt (BG D _) (by decide)) ?_);apply rn;simp[q,P];refine⟨by omega,by omega,?_⟩;refine cf Tryz.func149 rfl (FO (t:=Ah (yg (du w (aA x) (aA y)) k (((aA x).length:Int)+j))) rfl ?_);have I:3+i.toNat*3+c.toNat<=20:=by omega
      have J:=λa b d=>DR (a:=a) (b:=b) (c:=d) (N:=g) (i:=i.toNat) (j:=c.toNat) (by omega) (Nl (du w (aA x) (aA y)) k (((aA x).length:Int)+j))
      apply pg;simp[l,I,J];apply rn;simp[n];simp only[<-List.map_set];refine⟨by omega,G _ (by omega) ⟨_,g.set (3*i.toNat+c.toNat) (yg (du w (aA x) (aA y)) k (((aA x).length:Int)+j)),rfl,by rw[aaM];exact l,?_,by simp[q,r,u,v,m9,vD,rR,O,P,z,A]⟩⟩;rw[ZQ,aak,<-e];simp only[aay,List.foldl_nil,H]
    . have Z:j=(aA y).length:=by omega
      subst Z;refine⟨by omega,V _ (by omega) ⟨_,g,rfl,l,?_,by simp[q,r,u,v,m9,vD]⟩⟩;rw[ZQ,aak,<-p];simp only[aay,List.foldl_nil];unfold Nj;rw[F];exact e
  . have ek:k=(aA x).length:=by omega
    subst ek;refine .done ?_;rw[p];exact h
theorem Qj:Cf prog 156 112 193 110 .u8:=.of (by kernel_rfl) (by kernel_rfl) (by kernel_rfl) (by kernel_rfl)
abbrev yi(w:gn)(p:Int × Int):acm:=Nk (du w (aA p.1) (aA p.2)) (aA p.1) (aA p.2)
def dX(w:gn)(mb:Nat)(σ:ab):Prop:=∃l,σ mb=some (mQ (pq .u8) l)/\∀p a,dg l p=some a->∃bk,a=.ref bk 0/\bk≠mb/\σ bk=some (.cells (vi 1 0 (yi w p)))
def eS(mb:Nat)(σ σ':ab):Prop:=∀c x,σ c=some x->c≠mb->σ' c=some x
theorem eS.refl  mb   σ :eS mb σ σ:=λ_ _ h _=>h
theorem eS.trans{mb a b c}(h:eS mb a b)(e:eS mb b c):eS mb a c:=λd x q n=>e d x (h d x q n) n
structure gn.Bk(w:gn)  x y :Prop where
 hx:∀i∈aA x,0<=i/\i<w.fair.aB.length
 hy:∀i∈aA y,0<=i/\i<w.aD.length
 qI:(du w (aA x) (aA y)).Good
 some:aH (du w (aA x) (aA y)) []≠[]
theorem FU{l}{p q:Int × Int}{a b}(h:dg (l++[(q,b)]) p=some a):dg l p=some a\/p=q/\a=b:=by
 unfold dg at h ⊢;rw[List.find?_append]at h;cases e:l.find? (λr=>p==r.1)with
 |some r=>simp_all
 |none=>grind
theorem No(J:m.solo=true){w fb mb x y}(hb:w.Bk x y)(P:w.fair.aB.length<=6/\w.aD.length<=3)(Q:dX w mb σ)
 (h:∀bk σ',dX w mb σ'->eS mb σ σ'->σ' bk=some (.cells (vi 1 0 (yi w (x,y))))->KF (.val (.ref bk 0)) σ'):az prog m 110 [ti fb mb w 0,.agg [u8 x,u8 y]] σ KF:=by
 obtain⟨l,s,A⟩:=Q;refine az.start lay [15] Um 2 Tryz.func110 rfl rfl (by rfl) (by kernel_rfl) ?_
 simp[Tryz.f110]
 have f:∀{o:Oper}{env:Env}{σ:ab}{K R:abV},o.op=.lookup 156 (.tmp 9) (.tmp 10) false->env 9=.map mb->env 10=pq .u8 (x,y)->σ mb=some (mQ (pq .u8) l)->K ((dg l (x,y)).getD (.lit (.pointer none))) σ->aI prog o env σ K R:=λS T E U F=>wI lay (Qj.key lay Lr rfl) S Ug T E U F
 have t:dg l (x,y)=none\/∃bk,dg l (x,y)=some (.ref bk 0)/\bk≠mb/\σ bk=some (.cells (vi 1 0 (yi w (x,y)))):=by
  cases e:dg l (x,y)with
  |none=>simp_all
  |some a=>simp_all
 rcases t with j|⟨bk,j,V,B⟩
 . refine⟨f rfl (by simp) (by simp[pq]) s ?_,?_⟩
   rotate_left
   refine vo.intro λd hd=>?_
   have u:mb≠d:=λe=>by simp_all
   simp;refine f rfl (by simp) (by simp[pq]) (by simp[ab.ah,u,s]) ?_
   rw[j];refine aM.go lay [15] ?_;simp
   rotate_left
   rw[j];refine aM.go lay [15] ?_;simp;refine vo.intro λd hd=>?_
   have u:mb≠d:=λe=>by simp_all
   simp
   all_goals
    refine aa.run lay [15] ?_;simp;refine ow (vx:=.pointer none) (vy:=.pointer none) (r:=.bool true) rfl (λk v g=>by simpa using zP.1 g) (λk v g=>by simpa using zP.1 g) (by kernel_rfl) ?_
    refine aa.run lay [15] ?_;simp;refine bV.intro λbk C=>?_
    obtain⟨W,X,i⟩:=ab.aP C;have D:mb≠bk:=λe=>by rw[<-e,s]at i;cases i
    simp[X,ab.ah];refine qO (Qj.key lay Lr rfl) rfl (b:=mb) (l:=l) (n:=(x,y)) (a:=.ref bk 0) (by simp) (by simp[pq]) (by simp) (by simp[ab.set,u,D,s]) j ?_
    refine aM.go lay [15] ?_;simp;refine aa.bD 5 (b:=d) (.ref bk 0) (by simp[ab.set,zj u]) (by simp) rfl ?_
    refine aa.iC (λe q=>(e 2=.cp (ti fb mb w 0) 0/\e 3=.cp (.agg [u8 x,u8 y]) 0/\e 5=.cp (.ref bk 0) 0)/\q mb=some (mQ (pq .u8) (l++[((x,y),.ref bk 0)]))/\q bk=some (.cells (vi 0 0 (List.replicate 18 0)))/\eS mb σ q) ⟨by simp,by simp[ab.set,ab.del,u],by simp[ab.set,ab.del,W,zj D,List.replicate,tk],λc v g z=>?_⟩ ?_
    . have Y:c≠d:=λe=>by rw[e,hd]at g;cases g
      have G:c≠bk:=λe=>by rw[e,i]at g;cases g
      simp[ab.set,ab.del,Y,G,z,g]
    rintro env q ⟨⟨Z,e3,L⟩,q1,q2,M⟩
    refine aa.run lay [15] ?_;simp[Z,e3,L];refine cf Tryz.func146 rfl (BN J q2 rfl rfl rfl λK F=>dY Tryz.func147 rfl rfl rfl (Nn J hb.hx hb.hy hb.qI hb.some P (ab.ai _ _ _) (F _ _ (ab.ai _ _ _) rfl rfl rfl ?_)))
    simp only[ab.set_set];refine aa.run lay [15] ?_;simp[L];refine .done (h bk _ ⟨_,(ab.ah _ _ D).trans q1,λp a H=>?_⟩ (λc v g z=>?_) (ab.ai _ _ _))
    . rcases FU H with H|⟨rfl,rfl⟩
      . obtain⟨N,rfl,O,I⟩:=A _ _ H
        have h3:N≠bk:=λe=>by rw[e,i]at I;cases I
        exact⟨N,rfl,O,(ab.ah _ _ h3).trans (M _ _ I O)⟩
      . exact⟨bk,rfl,zj D,ab.ai _ _ _⟩
    . have G:c≠bk:=λe=>by rw[e,i]at g;cases g
      exact(ab.ah _ _ G).trans (M _ _ g z)
 . refine⟨f rfl (by simp) (by simp[pq]) s ?_,?_⟩
   rotate_left
   refine vo.intro λd hd=>?_
   have u:mb≠d:=λe=>by simp_all
   simp;refine f rfl (by simp) (by simp[pq]) (by simp[ab.ah,u,s]) ?_
   rw[j];refine aM.go lay [15] ?_;simp
   rotate_left
   rw[j];refine aM.go lay [15] ?_;simp;refine vo.intro λd hd=>?_
   simp
   all_goals
    refine aa.bD 5 (b:=d) (.ref bk 0) (ab.ai _ _ _) (by simp) rfl ?_
    rw[eY hd];refine aa.run lay [15] ?_;simp;refine ow (vx:=.pointer (some ⟨bk,0,none⟩)) (vy:=.pointer none) (r:=.bool false) rfl (λk v g=>by simpa using T4.1 g) (λk v g=>by simpa using zP.1 g) (by kernel_rfl) ?_
    refine aa.run lay [15] ?_;simp;refine cf Tryz.func146 rfl (DO B rfl ?_);refine aa.run lay [15] ?_;simp;exact .done (h bk σ ⟨l,s,A⟩ (.refl mb σ) B)
abbrev kE(w:gn)(h:Int):Int:=aX (lR w h)
abbrev kC(w:gn)(h:Int):Int:=aX (mZ w h)
structure gn.Open(w:gn):Prop where
 qH:w.fair.aB.length<=6/\w.aD.length<=3
 bk:∀h,w.Bk (kE w h) (kC w h)
def jB(w:gn)(h i c:Int):Int:=(yi w (kE w h,kC w h)).getD (3*i.toNat+c.toNat) 0
theorem Jq  f   es cs :(Nk f es cs).length=18:=by
 have key:∀(l:acn) (N:acm),(l.foldl (λN x=>Nj f es cs x N) N).length=N.length:=λl=>by
  induction l with
  |nil=>simp_all
  |cons a l b=>exact λN=>(b _).trans (Nm ..)
 exact key _ _
theorem DT(p:m.solo=true){w fb mb h i c}(b:w.Open)(hi:0<=i/\i<6)(f:0<=c/\c<3)(q:dX w mb σ)(d:∀σ',dX w mb σ'->eS mb σ σ'->KF (.val (yh (jB w h i c))) σ'):az prog m 67 [ti fb mb w 0,int h,int i,int c] σ KF:=by
 refine fs [] Tryz.func67 rfl (by kernel_rfl) ?_
 simp[Tryz.f67];refine cf Tryz.func59 rfl (CK.Jp b.qH.1 b.qH.2 ?_);apply rn;simp;refine cf Tryz.func110 rfl (No p (b.bk h) b.qH q λbk σ' g j k=>?_)
 have hlen:=Jq (du w (aA (kE w h)) (aA (kC w h))) (aA (kE w h)) (aA (kC w h));obtain⟨N,l⟩:∃N,N=yi w (kE w h,kC w h):=⟨_,rfl⟩;have r:N.length=18:=by simp_all
 have s:jB w h i c=N.getD (3*i.toNat+c.toNat) 0:=by rw[l];rfl
 rw[<-l]at k
 have a:(AV.lit (.int .u32 1)::.lit (.int .i32 0)::.lit (.int .u32 0)::N.map tk)[3+i.toNat*3+c.toNat]?=some (tk (jB w h i c)):=by
  have e:3+i.toNat*3+c.toNat=3*i.toNat+c.toNat+3:=by omega
  have t:3*i.toNat+c.toNat<N.length:=by omega
  simp_all
 generalize jB w h i c=n at d a;apply rn;simp[k,hi.1,hi.2,f.1,f.2,a]
 by_cases o:n=0
 . subst o
   refine gq lay rfl Qa rfl (.inl ⟨by simp[tk],rfl⟩) (.inr ⟨rfl,rfl⟩) ?_
   apply rn;simp;exact .done (d σ' g j)
 . have e:tk n=yh n:=ZB o
   rw[e];refine gq lay rfl Qa rfl (.inr ⟨⟨Ah n,.agg [],by simp⟩,rfl⟩) (.inr ⟨rfl,rfl⟩) ?_
   apply rn;simp;exact .done (d σ' g j)
def FV(n:Int):Bool:=n==1||n==3
theorem uC{t f:Nat}(h:eM prog (Go.method (prog.types.size+Made.depth) t (.agg #[])  "palfrey/cry.holds")=some (f,.agg #[])):nW prog t  "palfrey/cry.holds" f (.agg []) (.agg []):=vg λk v b=>by
 cases b with
 | agg c l d e=>
   obtain⟨c⟩:=c
   match c,d with
   |[],_=>exact⟨_,h,.agg _ _ rfl λi v a h=>by simp at h⟩
theorem DU(h:KF (.val (bool true)) σ):az prog m 232 [.agg []] σ KF:=by
 refine fs [] Tryz.func232 rfl (by kernel_rfl) ?_;simp[Tryz.f232];exact .done h
theorem DV(h:KF (.val (bool true)) σ):az prog m 258 [.agg []] σ KF:=by
 refine fs [] Tryz.func258 rfl (by kernel_rfl) ?_;simp[Tryz.f258];exact .done h
theorem DW(h:KF (.val (bool false)) σ):az prog m 233 [.agg []] σ KF:=by
 refine fs [] Tryz.func233 rfl (by kernel_rfl) ?_;simp[Tryz.f233];exact .done h
theorem Np(b:m.solo=true){w fb mb h i c}(d:w.Open)(hi:0<=i/\i<6)(f:0<=c/\c<3)(g:dX w mb σ)(a:∀σ',dX w mb σ'->eS mb σ σ'->KF (.val (bool (FV (jB w h i c)))) σ'):az prog m 102 [int c,.cp (ti fb mb w 0) 0,.cp (int h) 0,.cp (int i) 0] σ KF:=by
 refine fs [] Tryz.func102 rfl (by kernel_rfl) ?_
 simp[Tryz.f102];refine cf Tryz.func67 rfl (DT b d hi f g λσ' j k=>?_)
 have a:=a σ' j k;generalize jB w h i c=n at a;unfold FV at a
 by_cases l:n=1
 . subst l
   apply rn;simp;refine aa.invoke rfl rfl rfl (by simp) rfl (uC (by kernel_rfl)) Tryz.func232 rfl rfl (DU ?_)
   apply rn;simp;exact .done a
 by_cases o:n=3
 . subst o
   apply rn;simp;refine aa.invoke rfl rfl rfl (by simp) rfl (uC (by kernel_rfl)) Tryz.func258 rfl rfl (DV ?_)
   apply rn;simp;exact .done a
 have e:yh n=.lS 195 (.agg []):=by unfold yh Ah;simp_all
 rw[e];apply rn;simp;refine aa.invoke rfl rfl rfl (by simp) rfl (uC (by kernel_rfl)) Tryz.func233 rfl rfl (DW ?_)
 apply rn;simp;rw[show(n==1)=false by simp_all,show(n==3)=false by simp_all]at a
 exact .done a
theorem tp{σ0 σ σ2 a kk es}(h:Tok σ0 σ a kk es)(d:∀b e,σ b=some (.tail e)->σ2 b=some (.tail e)):Tok (σ2.off a) σ2 a kk es:=by
 rcases h.2 with⟨rfl,rfl⟩|rfl|⟨b,e,_,rfl,f⟩
 . exact⟨ab.le_refl _,.inl ⟨rfl,rfl⟩⟩
 . exact⟨ab.le_refl _,.inr (.inl rfl)⟩
 . refine⟨λc x g=>?_,.inr (.inr ⟨b,e,by simp[ab.off,br,ab.del],rfl,d b e f⟩)⟩
   simp only[ab.off,br,ab.del]at g
   simp_all
structure US(I:acp)  mb :Prop where
 le:∀{σ σ'},I σ->(∀c x,σ c=some x->(∀e,x≠.tail e)->σ' c=some x)->I σ'
 mb:∀{σ},I σ->∀e,σ mb≠some (.tail e)
theorem FW{σ0 σ a kk es}(h:Tok σ0 σ a kk es){c x}(b:σ c=some x)(d:∀e,x≠.tail e):(σ.off a) c=some x:=by
 rw[ab.dL λe=>?_]
 . exact b
 . obtain⟨_,n,q⟩:=h.aV e
   grind
theorem Qk{I mb}(z:US I mb){f l p}(T:l.length<=1000)(A:f.flat=true)
 (P:∀x∈l,∀  σ   K ,I σ->(∀σ',I σ'->eS mb σ σ'->K (.val (bool (p x))) σ')->bY prog m f [int x] σ K)
 (Q:I σ) (h:∀σ',I σ'->eS mb σ σ'->KF (.val (ints (l.filter p))) σ'):az prog m 86 [.agg [f],ints l] σ KF:=by
 refine fs [] Tryz.func86 rfl (by kernel_rfl) ?_
 simp[Tryz.f86];refine⟨A,?_⟩;refine aa.loop l.length (λk s=>∃env σ' a,s=⟨env,σ',[],.no⟩/\env 2=.cp (.agg [f]) 0/\env 8=ints l/\env 9=int l.length/\env 10=int k/\env 5=a/\I σ'/\Tok (σ'.off a) σ' a 1 (((l.take k).filter p).map int)/\eS mb σ (σ'.off a)) ?_ ?_
 . refine⟨_,σ,AV.nil,rfl,?_,?_,?_,?_,?_,Q,Tok.nil σ 1,eS.refl mb σ⟩<;>simp
 rintro U k _ V ⟨env,σ',a,rfl,B,C,D,bp,v,E,d,hb⟩ L
 apply rn;simp[D,bp];apply aG.intro<;>intro w<;>simp at w<;>simp[B,C,bp,v,w]
 . have F:(l.take (k+1)).filter p=(l.take k).filter p++if p l[k]then[l[k]]else[]:=by
    rw[zA w,aaF]
    grind
   have R:((l.take k).filter p).length<=k:=ZH (aaH _ _) (by grind)
   refine P _ (zD w) _ _ E λσ2 M j=>?_
   have o:=tp d (σ2:=σ2) (λb e r=>j b _ r λq=>z.mb E e (q ▸ r))
   have g:eS mb σ (σ2.off a):=λc x i y=>by
    have N:=hb c x i y;have G:br a≠some c:=λe=>by obtain⟨n,_⟩:=d.aV e;grind
    rw[ab.dL G]at N ⊢;exact j c x N y
   apply rn;simp;cases O:p l[k]
   . rw[O,ZB (by simp),aao]at F
     simp[bp];refine⟨by omega,L _ (by omega) ⟨_,σ2,a,rfl,?_,?_,?_,?_,?_,M,by grind,g⟩⟩<;>simp[B,C,D,v]
   . rw[O,ZG rfl]at F
     simp[v];refine aK lay rfl rfl rfl dM rfl dM rfl rS (by decide) (by grind) (σ0:=σ2.off a) (es:=((l.take k).filter p).map int) (xs:=[int l[k]]) (by simpa[v]using o) (.inr ⟨_,by simp;rfl⟩) λS H t=>?_
     apply rn;simp[bp];have u:=t.here;refine⟨by omega,L _ (by omega) ⟨_,H,S,rfl,?_,?_,?_,?_,?_,z.le M λc x i J=>t.1 _ _ (FW o i J),by rw[F,ZO];exact u.1,λc x i y=>u.2 _ _ (g c x i y)⟩⟩<;>simp[B,C,D]
 . have ek:k=l.length:=by omega
   subst ek;rw[ZL]at d;refine .oW d.W (.less d.1 (.done (h _ (z.le E λc x i J=>FW d i J) hb)))
theorem rP  w   mb :US (dX w mb) mb where
 le h hk:=by
  obtain⟨l,b,c⟩:=h;refine⟨l,hk _ _ b (by simp[mQ]),λp a d=>?_⟩
  grind
 mb h e q:=by obtain⟨l,b,_⟩:=h;rw[b]at q;simp[mQ]at q
theorem Hf{n x}(h:x∈rO n):0<=x/\x<n:=by grind
theorem BP  n :(rO n).length=n:=by grind
def Pn(w:gn)(h i:Int):acm:=(rO w.aD.length).filter λc=>FV (jB w h i c)
def js(w:gn)(h:Int):acm:=(rO w.fair.aB.length).filter λi=>decide (0<(Pn w h i).length)
theorem Hg(c:m.solo=true){w fb mb h i}(b:w.Open)(hi:0<=i/\i<6)(d:dX w mb σ)(a:∀σ',dX w mb σ'->eS mb σ σ'->KF (.val (ints (Pn w h i))) σ'):az prog m 61 [ti fb mb w 0,int h,int i] σ KF:=by
 have j:=b.qH.2;refine fs [] Tryz.func61 rfl (by kernel_rfl) ?_;simp[Tryz.f61];refine cf Tryz.func49 rfl (uB (by omega) ?_);apply rn;simp;refine cf Tryz.func86 rfl (Qk (rP w mb) (by grind) rfl (λx k σ K e a=>dY Tryz.func102 rfl rfl rfl (Np c b hi (by grind) e a)) d λσ' f g=>?_);apply rn;simp;exact .done (a σ' f g)
theorem Nq(a:m.solo=true){w fb mb h i}(b:w.Open)(hi:0<=i/\i<6)(c:dX w mb σ)(d:∀σ',dX w mb σ'->eS mb σ σ'->KF (.val (bool (decide (0<(Pn w h i).length)))) σ'):az prog m 87 [int i,.cp (ti fb mb w 0) 0,.cp (int h) 0] σ KF:=by
 refine fs [] Tryz.func87 rfl (by kernel_rfl) ?_;simp[Tryz.f87];refine cf Tryz.func61 rfl (Hg a b hi c λσ' e f=>?_);apply rn;simp;refine .done ?_
 simp_all
theorem tu(c:m.solo=true){w fb mb h}(b:w.Open)(d:dX w mb σ)(a:∀σ',dX w mb σ'->eS mb σ σ'->KF (.val (ints (js w h))) σ'):az prog m 42 [ti fb mb w 0,int h] σ KF:=by
 have i:=b.qH.1;refine fs [] Tryz.func42 rfl (by kernel_rfl) ?_;simp[Tryz.f42];refine cf Tryz.func49 rfl (uB (by omega) ?_);apply rn;simp;refine cf Tryz.func86 rfl (Qk (rP w mb) (by grind) rfl (λx j σ K e a=>dY Tryz.func87 rfl rfl rfl (Nq c b (by grind) e a)) d λσ' f g=>?_);apply rn;simp;exact .done (a σ' f g)
theorem Jl.yj{σ σ' fb mb w}(h:Jl σ fb mb w σ'):dX w mb σ':=⟨[],by rw[h.eq,ab.ah _ _ (zj h.ne),ab.ai],λp a b=>by simp[dg]at b⟩
theorem Jl.less{σ σ' σ2 fb mb w}(h:Jl σ fb mb w σ')(hb:eS mb σ' σ2):σ.Le σ2:=λc x a=>by
 have d:c≠fb:=λe=>by rw[e,h.f0]at a;cases a
 have b:c≠mb:=λe=>by rw[e,h.m0]at a;cases a
 exact hb c x (by rw[h.eq,ab.ah _ _ d,ab.ah _ _ b];exact a) b
abbrev m7:AV:=.lit (.slice none 0 0)
theorem Rv{a b c d a' b' c' d'}(e:a.W a')(f:b.W b')(g:c.W c')(h:d.W d'):Wl [a,b,c,d] [a',b',c',d']:=.cons e (.cons f (.cons g (.cons h .nil)))
theorem DX(e:m.solo=true){w}(f:w.pY){c:Nat}(h:c<3)(i:eH w [] [] [(c:Int)]=0)(b:if 72<gY w c then KF (.val (.ck [int 0,int 11])) σ else KF (.val (.ck [int (gY w c),int 0])) σ):az prog m 22 [dv w,int c] σ KF:=by
 have j:Wl [dv w,m7,m7,.sl 1 [int c] .exact] [dv w,ints [],ints [],ints [(c:Int)]]:=Rv (.refl _) (fq 1) (fq 1) (iq 1 _ _);refine fs [] Tryz.func22 rfl (by kernel_rfl) ?_;simp[Tryz.f22];refine cd Tryz.func41 rfl rfl j (lQ e f (by simp) (λq=>absurd i q) λ_ d fb mb k=>?_);have a:=k.less (.refl mb d);apply rn;simp;refine cf Tryz.func55 rfl (vh h ?_);split at b
 . next g=>rw[ZG g];apply rn;simp;refine cf Tryz.func56 rfl (Hd ?_);apply rn;simp;exact .less a (.done b)
 . next g=>rw[ZB g];apply rn;simp;refine cf Tryz.func56 rfl (Nf ?_);apply rn;simp;exact .less a (.done b)
theorem DY(a:m.solo=true){w}(f:w.pY)(g:w.Open){h}(b:eH w [h] [] []≠0->KF (.val (.ck [m7,int (eH w [h] [] [])])) σ)(i:eH w [h] [] []=0->KF (.val (.ck [ints (js w h),int 0])) σ):az prog m 11 [dv w,int h] σ KF:=by
 have j:Wl [dv w,.sl 1 [int h] .exact,m7,m7] [dv w,ints [h],ints [],ints []]:=Rv (.refl _) (iq 1 _ _) (fq 1) (fq 1);obtain⟨e,k⟩:∃e,e=eH w [h] [] []:=⟨_,rfl⟩;refine fs [] Tryz.func11 rfl (by kernel_rfl) ?_;simp[Tryz.f11];refine cd Tryz.func41 rfl rfl j (lQ a f (by simp) (λq=>?_) λq l fb mb c=>?_)
 . rw[<-k]at q b ⊢
   have d:(e !=0)=true:=by grind
   apply rn;simp[d];exact .done (b q)
 . apply rn
   simp;refine cf Tryz.func42 rfl (tu a g c.yj λn d o=>?_);apply rn;simp;exact .less (c.less o) (.done (i q))
def km(w:gn)(h i:Int):Bool:=decide (0<(Pn w h i).length)
def bn(w:gn)(i:Int):Nat->Int × List (Int × Int)
 |0=>(1048576,[])
 |h+1=>if(h:Int)<=72/\km w h i=true then(if(h:Int)<(bn w i h).1 then(h:Int)else(bn w i h).1,(bn w i h).2)else if(bn w i h).1<1048576 then(1048576,(bn w i h).2++[((bn w i h).1,(h:Int)-1)])else(1048576,(bn w i h).2)
def bF(w:gn)(i:Int):abO:=(bn w i 74).2
abbrev ko(r:Int × Int):AV:=.agg [int r.1,int r.2]
theorem tv  w   i :∀h ,0<=(bn w i h).1/\(bn w i h).1<=1048576
 |0=>by simp[bn]
 | h+1=>by
   have:=tv w i h;unfold bn
   grind
theorem DZ  w   i :∀d h ,(bn w i h).2 <+: (bn w i (h+d)).2
 |0,h=>List.prefix_refl _
 | d+1,h=>by
   refine(DZ w i d h).trans ?_;show _ <+: (bn w i ((h+d)+1)).2
   conv=>rhs;unfold bn
   grind
theorem Hh{w i h}(d:h<74){r}(b:(bn w i (h+1)).2=(bn w i h).2++[r]):∃f ,(bF w i)[(bn w i h).2.length]=r:=by
 have a:=DZ w i (73-h) (h+1);rw[show h+1+(73-h)=74 by omega,b]at a;obtain⟨t,c⟩:=a;have e:bF w i=(bn w i h).2++[r]++t:=c.symm
 grind
theorem Ai(C:m.solo=true){w fb mb i}(D:w.Open)(hi:0<=i/\i<6){y}{I:Nat->acp}(E:y.cells=[y]/\y.flat=true)
 (t:∀k σ σ',I k σ->eS mb σ σ'->dX w mb σ'->I k σ') (hb:∀k σ,I k σ->dX w mb σ)
 (B:∀k  F   σ   K ,I k σ->(∀σ',I (k+1) σ'->K (.val (bool true)) σ')->bY prog m y [ko (bF w i)[k]] σ K)
 (G:I 0 σ) (h:∀σ',I (bF w i).length σ'->KF (.val (.ck [])) σ'):az prog m 100 [y,.cp (ti fb mb w 0) 0,.cp (int i) 0] σ KF:=by
 refine fs [] Tryz.func100 rfl (by kernel_rfl) ?_;simp[Tryz.f100];refine aa.loop 74 (λk s=>∃env σ',s=⟨env,σ',[],.no⟩/\env 0=y/\env 1=.cp (ti fb mb w 0) 0/\env 2=.cp (int i) 0/\env 4=int (bn w i k).1/\env 7=int k/\I (bn w i k).2.length σ') ⟨_,_,rfl,by simp,by simp,by simp,by simp[bn],by simp,G⟩ ?_;rintro N k _ F ⟨env,σ',rfl,c,j,l,r,d,n⟩ o;have H:=tv w i k;apply rn;simp[d];apply aG.intro<;>intro p<;>simp at p<;>simp[d,p]
 . have p : k<74:=by omega
   refine tJ.intro (λu=>?_) (λu=>?_)<;>(try simp[-Int.not_lt,-Int.not_le]at u)<;>(try simp[j,l,r,u])
   . refine cf Tryz.func61 rfl (Hg C D hi (hb _ _ n) λJ L M=>?_)
     have n:=t _ _ _ n M L;apply rn;simp;apply aG.intro<;>intro v<;>simp at v<;>simp[r,d,v]
     . have b:bn w i (k+1)=(if (k:Int)<(bn w i k).1 then (k:Int)else (bn w i k).1,(bn w i k).2):=by
        conv=>lhs;unfold bn
        rw[ZG ⟨by omega,by unfold km;simp_all⟩]
       refine⟨by omega,o _ (by omega) ⟨_,_,rfl,by simp[c],by simp[j],by simp[l],by rw[b];simp,by simp,by grind⟩⟩
     . have x:¬((k:Int)<=72/\km w k i=true):=λq=>by have:=q.2;simp[km,v]at this
       refine tJ.intro (λe=>?_) (λe=>?_)<;>(try simp[-Int.not_lt,-Int.not_le]at e)<;>(try simp[c,r,d,e])
       . have b:bn w i (k+1)=(1048576,(bn w i k).2++[((bn w i k).1,(k:Int)-1)]):=by
          conv=>lhs;unfold bn
          grind
         obtain⟨z,f⟩:=Hh (w:=w) (i:=i) p (by rw[b]);have a:=B _ z;rw[f]at a;refine⟨by omega,?_⟩;refine a _ _ n λg A=>?_
         apply rn;simp[d];refine⟨by omega,o _ (by omega) ⟨_,g,rfl,by simp[c],by simp[j],by simp[l],by rw[b];simp,by simp,by grind⟩⟩
       . have b:bn w i (k+1)=(1048576,(bn w i k).2):=by
          conv=>lhs;unfold bn
          grind
         refine⟨by omega,o _ (by omega) ⟨_,_,rfl,?_,?_,?_,by simp_all,?_,by simp_all⟩⟩<;>simp[c,j,l]
   . have x:¬((k:Int)<=72/\km w k i=true):=λq=>by omega
     refine tJ.intro (λe=>?_) (λe=>?_)<;>(try simp[-Int.not_lt,-Int.not_le]at e)<;>(try simp[c,r,d,e])
     . have b:bn w i (k+1)=(1048576,(bn w i k).2++[((bn w i k).1,(k:Int)-1)]):=by
        conv=>lhs;unfold bn
        grind
       obtain⟨z,f⟩:=Hh (w:=w) (i:=i) p (by rw[b]);have a:=B _ z;rw[f]at a;refine⟨by omega,?_⟩;refine a _ _ n λg A=>?_
       apply rn;simp[d];refine⟨by omega,o _ (by omega) ⟨_,g,rfl,?_,?_,?_,by simp_all,?_,by simp_all⟩⟩<;>simp[c,j,l]
     . have b:bn w i (k+1)=(1048576,(bn w i k).2):=by
        conv=>lhs;unfold bn
        grind
       refine⟨by omega,o _ (by omega) ⟨_,_,rfl,?_,?_,?_,by simp_all,?_,by simp_all⟩⟩<;>simp[c,j,l]
 . have ek:k=74:=by omega
   subst ek;exact .done (h _ n)
abbrev BQ(fb mb:Nat)(w:gn)(i:Int):AV:=.fn (.func 100) [] [.cp (ti fb mb w 0) 0,.cp (int i) 0]
theorem Aj{w fb mb i}(h:KF (.val (BQ fb mb w i)) σ):az prog m 58 [ti fb mb w 0,int i] σ KF:=by
 refine fs [] Tryz.func58 rfl (by kernel_rfl) ?_;simp[Tryz.f58];exact .done h
theorem lf  w   i :∀h ,(bn w i h).2.length<=h
 |0=>by simp[bn]
 | h+1=>by
   have:=lf w i h;unfold bn
   grind
theorem dX.mono{w mb σ σ'}(h:dX w mb σ)(b:∀d x,σ d=some x->(∀e,x≠.tail e)->(∀a,x≠.cells [a])->(∀y,x≠.loop y)->(∀o,x≠.raw o)->σ' d=some x):dX w mb σ':=by
 obtain⟨l,c,f⟩:=h;refine⟨l,b _ _ c (by simp[mQ]) (by simp[mQ]) (by simp[mQ]) (by simp[mQ]),λp a g=>?_⟩
 grind
abbrev kL(l:abO):AV:=.sl 2 (l.map ko) .any
theorem yW(Q:m.solo=true){w fb mb i}(hO:w.Open)(hi:0<=i/\i<6)(hB:dX w mb σ)(h:∀σ',dX w mb σ'->eS mb σ σ'->KF (.val (kL (bF w i))) σ'):az prog m 99 [m7,BQ fb mb w i] σ KF:=by
 have hlen:=lf w i 74;refine az.start lay [2] [] 2 Tryz.func99 rfl rfl (by rfl) (by kernel_rfl) ?_
 simp[Tryz.f99];refine bV.intro λc hc=>?_
 simp;refine aa.rangeFunc rfl λR r l S T s=>?_
 obtain⟨r1,r2,S⟩:=ab.aP S;obtain⟨B,l2,T⟩:=ab.aP T;generalize C:vU.mk _ _ _ _ _ _ _ _ _=al;have nm:∀d,σ d=none->d≠mb:=λd hd e=>by obtain⟨x,q,_⟩:=hB;simp_all
 have cm:=nm c hc;have lm:=nm l T;have rm:=nm r S;refine dY Tryz.func100 rfl rfl rfl (Ai Q hO hi (y:=.fn (.yield l) [] []) (I:=λk σ'=>dX w mb σ'/\σ' l=some (.loop al)/\σ' r=some (.raw (.deferred (some [])))/\∃a,σ' c=some (.cells [a])/\Tok (σ'.off a) σ' a 2 (((bF w i).take k).map ko)/\eS mb σ (σ'.off a)) ⟨rfl,rfl⟩ ?_ ?_ ?_ ?_ ?_)
 . rintro k f ad ⟨D,z,E,a,F,g,G⟩ t U
   refine⟨U,t _ _ z lm,t _ _ E rm,a,t _ _ F cm,tp g λb e o=>t b _ o λq=>(rP w mb).mb D e (q ▸ o),λd x H hd=>?_⟩
   have J:=G d x H hd;have V:br a≠some d:=λe=>by obtain⟨n,_⟩:=g.aV e;simp_all
   rw[ab.dL V]at J ⊢;exact t _ _ J hd
 . simp_all
 . rintro k t f K ⟨D,z,E,a,F,g,G⟩ hK
   have Y:=g.cells;subst C;refine bY.wG (hold:=[]) R Tryz.func99 z rfl ?_;apply rn;simp[mP];refine bV.intro λq hq=>?_
   simp
   change aa _ _ _ _ _ _ _ _ _
   refine aa.runN lay [] 1 ?_;simp
   change aa _ _ _ _ _ _ _ _ _
   refine aa.bD 5 (b:=q) (ko (bF w i)[k]) (ab.ai _ _ _) (by simp) rfl ?_
   rw[eY hq];refine aa.beginRound z rfl ?_;have cl:∀x,(f.set l x) c=some (.cells [a]):=λx=>(ab.ah _ _ (zj B)).trans F
   apply rn;simp[cl];have H:∀X,Tok ((f.set l X).off a) (f.set l X) a 2 (((bF w i).take k).map ko):=λX=>tp g λb e o=>(ab.ah _ _ (λq=>by simp_all)).trans o
   have Q:((bF w i).take (k+1)).map ko=((bF w i).take k).map ko++[ko (bF w i)[k]]:=by rw[zA t,ZO];rfl
   refine aK lay rfl rfl rfl Ue rfl Ue rfl V4 (by decide) (by simp only[ZT,aaB,aaa,aaz];unfold bF;omega) (es:=((bF w i).take k).map ko) (xs:=[ko (bF w i)[k]]) (H _) (.inr ⟨_,by simp;rfl⟩) λZ u j=>?_
   rw[<-Q]at j;have L:=j.cells;have a7:br a≠some c:=λe=>by obtain⟨_,_,q⟩:=g.aV e;simp_all
   have t3:u c=some (.cells [a]):=j.1 _ _ (by rw[ab.dL a7];exact cl _)
   have a8:br a≠some l:=λe=>by obtain⟨_,_,q⟩:=g.aV e;simp_all
   have t4:=λ(X:rk) (hX:((f.set l X).off a).Le u)=>hX l X (by rw[ab.dL a8];simp_all)
   have t4:=t4 _ j.1;refine aa.run lay [2] ?_;simp[t3,L.1,L.2,aJ];refine⟨rfl,rfl,_,(ab.ah _ _ B).trans t4,?_⟩
   have M:∀X d x,d≠l->d≠c->br a≠some d->f d=some x->((u.set c (.cells [Z])).set l X) d=some x:=λX d x d1 d2 d3 hd=>by rw[ab.ah _ _ d1,ab.ah _ _ d2];exact j.1 _ _ (by rw[ab.dL d3,ab.ah _ _ d1];exact hd)
   refine hK _ ⟨D.mono λd x hd O h2 h3 _=>M _ d x (λe=>by grind) (λe=>by grind) (λe=>by obtain⟨_,_,q⟩:=g.aV e;grind) hd,ab.ai _ _ _,M _ r _ s r1 (λe=>by obtain⟨_,_,q⟩:=g.aV e;simp_all) E,Z,(ab.ah _ _ (zj B)).trans (ab.ai _ _ _),tp j λb e o=>?_,λd x H hd=>?_⟩
   . have v:b≠l:=λq=>by grind
     have A:b≠c:=λq=>by grind
     rw[ab.ah _ _ v];exact(ab.ah _ _ A).trans o
   . have v:d≠l:=λq=>by grind
     have A:d≠c:=λq=>by grind
     have J:=G d x H hd;have P:br a≠some d:=λe=>by obtain⟨n,_⟩:=g.aV e;grind
     rw[ab.dL P]at J
     have n4:br Z≠some d:=λe=>by obtain⟨n,_⟩:=j.aV e;rw[ab.dL P,ab.ah _ _ v,J]at n;cases n
     rw[ab.dL n4]
     grind
 . have N:∀d x,σ d=some x->(((σ.set c (.cells [m7])).set r (.raw (.deferred (some [])))).set l (.loop al)) d=some x:=λd x hd=>by
    have v:d≠l:=λq=>by simp_all
    have A:d≠r:=λq=>by simp_all
    have P:d≠c:=λq=>by simp_all
    rw[ab.ah _ _ v,ab.ah _ _ A,ab.ah _ _ P];exact hd
   exact⟨hB.mono λd x hd _ _ _ _=>N d x hd,ab.ai _ _ _,(ab.ah _ _ s).trans (ab.ai _ _ _),AV.nil,(ab.ah _ _ (zj B)).trans ((ab.ah _ _ (zj r1)).trans (ab.ai _ _ _)),Tok.nil _ 2,λd x hd _=>N d x hd⟩
 . rintro f ⟨D,z,E,a,F,g,G⟩
   have Y:=g.cells;rw[ZL]at g;subst C;refine⟨_,z,by simp,rfl,?_⟩
   have a9:(f.del l) c=some (.cells [a]):=by simp only[ab.del,zj B,LK];exact F
   refine aa.run lay [2] ?_;simp[a9];refine⟨by simp only[ab.del,s,LK];exact E,?_⟩
   have p:∀{d x},d≠l->d≠r->(f.off a) d=some x->(((f.off a).del l).del r) d=some x:=λO h2 h3=>by simp only[ab.del,O,h2,LK];exact h3
   refine .oW g.W (.less (λd x hd=>?_) (.done (h (((f.off a).del l).del r) (D.mono λd x hd O h2 h3 h4=>p (λe=>by grind) (λe=>by grind) (FW g hd O)) λd x hd hm=>p (λq=>by simp_all) (λq=>by simp_all) (G d x hd hm))))
   simp only[ab.del]at hd;split at hd
   . cases hd
   next v=>
   split at hd
   . cases hd
   next A=>
   rw[ab.ah _ _ v];simp only[ab.del,A,LK];exact ab.QF hd
theorem D5(a:m.solo=true){w fb mb i}(b:w.Open)(hi:0<=i/\i<6)(c:dX w mb σ)(h:∀σ',dX w mb σ'->eS mb σ σ'->KF (.val (kL (bF w i))) σ'):az prog m 57 [BQ fb mb w i] σ KF:=by
 refine fs [] Tryz.func57 rfl (by kernel_rfl) ?_;simp[Tryz.f57];refine cf Tryz.func99 rfl (yW a b hi c λσ' d e=>?_);apply rn;simp;exact .done (h σ' d e)
theorem Ak(a:m.solo=true){w}(f:w.pY)(g:w.Open){i}(hi:0<=i/\i<6)(b:eH w [] [i] []≠0->KF (.val (.ck [m7,int (eH w [] [i] [])])) σ)(h:eH w [] [i] []=0->KF (.val (.ck [kL (bF w i),int 0])) σ):az prog m 23 [dv w,int i] σ KF:=by
 have j:Wl [dv w,m7,.sl 1 [int i] .exact,m7] [dv w,ints [],ints [i],ints []]:=Rv (.refl _) (fq 1) (iq 1 _ _) (fq 1);obtain⟨e,k⟩:∃e,e=eH w [] [i] []:=⟨_,rfl⟩;refine fs [] Tryz.func23 rfl (by kernel_rfl) ?_;simp[Tryz.f23];refine cd Tryz.func41 rfl rfl j (lQ a f (by simp) (λq=>?_) λq l fb mb c=>?_)
 . rw[<-k]at q b ⊢
   have d:(e !=0)=true:=by grind
   apply rn;simp[d];exact .done (b q)
 . apply rn
   simp;refine cf Tryz.func58 rfl (Aj ?_);apply rn;simp;refine cf Tryz.func57 rfl (D5 a g hi c.yj λn d o=>?_);apply rn;simp;exact .less (c.less o) (.done (h q))
def kq(l:abO):Int:=l.foldl (λn r=>n+(r.2-r.1+1)) 0
def dO(w:gn)(k:Nat):Int:=(List.range k).foldl (λ(n:Int) (i:Nat)=>n+kq (bF w (i:Int))) 0
theorem qa  w   i :∀h ,h<=74->∀r∈(bn w i h).2,(0<=r.1/\r.1<=1048576)/\-1<=r.2/\r.2<=73
 |0,_,r,a=>by simp[bn]at a
 | h + 1,b,r,a=>by
   have:=tv w i h;unfold bn at a;split at a
   . exact qa w i h (by omega) r a
   split at a
   . rcases ZA.1 a with a|a
     . exact qa w i h (by omega) r a
     grind
   . exact qa w i h (by omega) r a
theorem Al  l   r :kq (l++[r])=kq l+(r.2-r.1+1):=by unfold kq;simp_all
theorem Hi{l}(a:∀r∈l,(0<=r.1/\r.1<=1048576)/\-1<=r.2/\r.2<=73):-(2000000*(l.length:Int))<=kq l/\kq l<=2000000*l.length:=by
 have key:∀(l:abO) (n:Int),(∀r∈l,(0<=r.1/\r.1<=1048576)/\-1<=r.2/\r.2<=73)->n-2000000*l.length<=l.foldl (λn r=>n+(r.2-r.1+1)) n/\l.foldl (λn r=>n+(r.2-r.1+1)) n<=n+2000000*l.length:=λl=>by
  induction l with
  |nil=>simp_all
  | cons r l b=>
    intro n h;have d:=h r (by simp);have e:=b (n+(r.2-r.1+1)) λx c=>h x (by simp[c])
    grind
 have:=key l 0 a;unfold kq;omega
theorem yk  w :∀k:Nat,-(200000000*(k:Int))<=dO w k/\dO w k<=200000000*k
 |0=>by simp[dO]
 | k+1=>by
   have a:=yk w k;have b:=Hi (qa w k 74 (by omega))
   have c:=lf w k 74;have e:dO w (k+1)=dO w k+kq (bF w k):=by unfold dO;rw[ZQ,aak];rfl
   rw[e];unfold bF;omega
theorem Am{P}(L:iW P){rs env a}:∀(ds:acn)  σ ,ds.Nodup->(∀r∈ds,σ r=some (.raw (.deferred (some []))))->(∀σ',(∀d,d∉ds->σ' d=σ d)->Jz L m rs env KF [] a σ')->Jz L m rs env KF (ds.map .mark) a σ
 |[],σ,_,_,h=>h σ λ_ _=>rfl
 | r ::ds,σ,b,c,h=>⟨c r (by simp),Am L ds _ (aaw.1 b).2 (λd hd=>by
     have n:d≠r:=λe=>(aaw.1 b).1 (by simp_all)
     rw[ab.ah _ _ n]
     simp_all) λσ' f=>h σ' λd hd=>by
     have n:d≠r:=λe=>hd (by simp[e])
     rw[f d λq=>hd (by simp[q]),ab.ah _ _ n]⟩
theorem An(hs:m.solo=true){w}(hw:w.pY)(hO:w.Open)(he:eH w [] [] []=0)(hK:KF (.val (.ck [int (dO w w.fair.aB.length),int 0])) σ):az prog m 25 [dv w] σ KF:=by
 have hW:Wl [dv w,m7,m7,m7] [dv w,ints [],ints [],ints []]:=Rv (.refl _) (fq 1) (fq 1) (fq 1);have h6:=hO.qH.1;refine fs [] Tryz.func25 rfl (by kernel_rfl) ?_
 simp[Tryz.f25];refine cd Tryz.func41 rfl rfl hW (lQ hs hw (by simp) (λq=>absurd he q) λq o fb mb v=>?_)
 have E:=v.yj;have F:∀d,o d=none->d≠mb:=λd hd e=>by obtain⟨x,q,_⟩:=E;simp_all
 apply rn;simp;refine bV.intro λc hc=>?_
 simp;have cm:=F c hc;refine aa.loop w.fair.aB.length (λk s=>∃env a ds,s=⟨env,a,List.map vV.mark ds,.no⟩/\(env 1=.cp (dv w) 0/\env 4=ti fb mb w 0/\env 6=.ref c 0/\env 20=int w.fair.aB.length/\env 21=int k)/\dX w mb a/\a c=some (.cells [int (dO w k)])/\ds.Nodup/\(∀r∈ds,a r=some (.raw (.deferred (some [])))/\o r=none)/\eS mb o a) ⟨_,_,[],rfl,by simp,E.mono λd x hd _ _ _ _=>(ab.ah _ _ λe=>by simp_all).trans hd,ab.ai _ _ _,by simp,by simp,λd x hd _=>(ab.ah _ _ λe=>by simp_all).trans hd⟩ ?_
 rintro c0 k _ P ⟨env,a,ds,rfl,⟨e1,e4,U,yG,m9⟩,hB,G,H,z,A⟩ ih
 apply rn;simp[yG,m9];apply aG.intro<;>intro g1<;>simp at g1<;>simp[e4,U,m9,g1,G]
 . refine cf Tryz.func58 rfl (Aj ?_)
   apply rn;simp;refine aa.rangeFunc rfl λV r l Q R B=>?_
   change a r=none at Q
   change a l=none at R
   have nm:∀d,a d=none->d≠mb:=λd hd e=>by obtain⟨x,q,_⟩:=hB;grind
   have lm:=nm l R;have rm:=nm r Q;have lc:l≠c:=λe=>by grind
   have rc:r≠c:=λe=>by grind
   have J:=qa w k 74 (by omega)
   have hlen:=lf w k 74;have ax:=yk w k
   have W:o r=none:=by
    cases e:o r with
    |none=>rfl
    |some x=>have:=A r x e rm;grind
   have a7:dO w (k+1)=dO w k+kq (bF w k):=by unfold dO;rw[ZQ,aak];rfl
   generalize L:vU.mk _ _ _ _ _ _ _ _ _=al;refine dY Tryz.func100 rfl rfl rfl (Ai hs hO (i:=(k:Int)) (by omega) (y:=.fn (.yield l) [] []) (I:=λj f=>dX w mb f/\f l=some (.loop al)/\f c=some (.cells [int (dO w k+kq ((bF w k).take j))])/\∀d x,(a.set r (.raw (.deferred (some [])))) d=some x->d≠mb->d≠c->f d=some x) ⟨rfl,rfl⟩ ?_ ?_ ?_ ?_ ?_)
   . rintro j f a8 ⟨T,t,u,D⟩ P a9
     exact⟨a9,P _ _ t lm,P _ _ u cm,λd x g p h=>P _ _ (D d x g p h) p⟩
   . grind
   . rintro j hj f K ⟨T,t,u,D⟩ ad
     have M:=J _ (zD hj);have av:=Hi (l:=(bF w k).take j) λx hx=>J x (abl hx)
     have ay:((bF w k).take j).length<=74:=ZH (List.length_take_le _ _) (by unfold bF at hj;omega)
     have C:kq ((bF w k).take (j+1))=kq ((bF w k).take j)+((bF w k)[j].2-(bF w k)[j].1+1):=by rw[zA hj,Al]
     generalize kq ((bF w k).take j)=S at u av C;obtain⟨x1,x2⟩:∃r:Int × Int,r=(bF w k)[j]:=⟨_,rfl⟩;rw[<-x2]at M C ⊢;obtain⟨ra,rb⟩:=x1;simp only at M C;subst L;refine bY.wG (hold:=[]) V Tryz.func25 t rfl ?_;apply rn;simp[mP];refine bV.intro λq hq=>?_
     simp
     change aa _ _ _ _ _ _ _ _ _
     refine aa.runN lay [] 1 ?_;simp
     change aa _ _ _ _ _ _ _ _ _
     refine aa.bD 8 (b:=q) (ko (ra,rb)) (ab.ai _ _ _) (by simp) rfl ?_
     rw[eY hq];refine aa.beginRound t rfl ?_;have cl:∀x,(f.set l x) c=some (.cells [int (dO w k+S)]):=λx=>(ab.ah _ _ (zj lc)).trans u
     apply rn;simp[cl,U];refine⟨by omega,by omega,by omega,?_⟩
     refine⟨rfl,rfl,_,(ab.ah _ _ lc).trans (ab.ai _ _ _),?_⟩
     have N:∀X Y Z d x,d≠l->d≠c->f d=some x->(((f.set l X).set c Y).set l Z) d=some x:=λX Y Z d x g p h=>by rw[ab.ah _ _ g,ab.ah _ _ p,ab.ah _ _ g];exact h
     refine ad _ ⟨T.mono λd x hd _ p h _=>N _ _ _ d x (λe=>by rw[e,t]at hd;exact h _ (ZR hd).symm) (λe=>by rw[e,u]at hd;exact p _ (ZR hd).symm) hd,ab.ai _ _ _,(ab.ah _ _ (zj lc)).trans ((ab.ai _ _ _).trans (by grind)),λd x g p h=>?_⟩
     have dl:d≠l:=λe=>by rw[e,ab.ah _ _ (zj B),R]at g;cases g
     exact N _ _ _ d x dl h (D d x g p h)
   . have O:∀d x,a d=some x->((a.set r (.raw (.deferred (some [])))).set l (.loop al)) d=some x:=λd x hd=>by
      have n1:d≠l:=λe=>by grind
      have n2:d≠r:=λe=>by grind
      rw[ab.ah _ _ n1,ab.ah _ _ n2];exact hd
     refine⟨hB.mono λd x hd _ _ _ _=>O d x hd,ab.ai _ _ _,(O _ _ G).trans (by simp[kq]),λd x g _ _=>?_⟩
     exact(ab.ah _ _ λe=>by rw[e,ab.ah _ _ (zj B),R]at g;cases g).trans g
   . rintro f ⟨T,t,u,D⟩
     rw[ZL,<-a7]at u;subst L;refine⟨_,t,by simp,rfl,?_⟩
     apply rn;simp[m9];have n:∀d x,d≠l->f d=some x->(f.del l) d=some x:=λd x g p=>by simp only[ab.del,g,LK];exact p
     have hold:∀d x,a d=some x->d≠mb->d≠c->(f.del l) d=some x:=λd x g p h=>n d x (λe=>by grind) (D d x ((ab.ah _ _ λe=>by grind).trans g) p h)
     refine⟨by omega,ih _ (by omega) ⟨_,_,r::ds,rfl,by simp[e1,e4,U,yG],T.mono λd x hd _ _ h _=>n d x (λe=>by rw[e,t]at hd;exact h _ (ZR hd).symm) hd,n _ _ (zj lc) u,aaw.2 ⟨λq=>?_,H⟩,λd hd=>?_,λd x hd hm=>?_⟩⟩
     . grind
     . rcases ZW.1 hd with rfl|hd
       . exact⟨n _ _ B (D _ _ (ab.ai _ _ _) rm rc),W⟩
       . obtain⟨q1,q2⟩:=z d hd
         exact⟨hold d _ q1 (F d q2) (λe=>by grind),q2⟩
     . exact hold d x (A d x hd hm) hm (λe=>by grind)
 . have ek:k=w.fair.aB.length:=by omega
   subst ek;refine Am lay ds _ H (λr Q=>(z r Q).1) λa8 h=>⟨[int (dO w w.fair.aB.length),int 0],by simp[eC],?_⟩
   refine .less (λd x hd=>?_) (.done hK)
   have q1:=v.less A d x hd;rw[h d λq=>?_]
   . exact q1
   . have:=(z d q).2
     have h0:=v.less (.refl mb o) d x hd
     grind
theorem tw{a b}(t:a.length<1152921504606846976)(hb:b.length<1152921504606846976)(h:KF (.val (bool (decide (a=b)))) σ):az prog m 47 [ints a,ints b] σ KF:=by
 refine fs V' Tryz.func47 rfl (by kernel_rfl) ?_;simp[Tryz.f47];apply aG.intro<;>intro d<;>simp at d<;>simp[d]
 . have:a≠b:=λe=>d (by rw[e])
   simp[this]at h;exact .done h
 refine aa.loop a.length (λk s=>∃env,s=⟨env,σ,[],.no⟩/\env 0=ints a/\env 1=ints b/\env 12=int a.length/\env 13=int k/\a.take k=b.take k) ⟨_,rfl,by simp[d]⟩ ?_;rintro u k _ v ⟨env,rfl,l,n,cZ,c,f⟩ p;have r:a.length=b.length:=by omega
 apply rn;simp[cZ,c];apply aG.intro<;>intro g<;>simp at g<;>simp[l,n,c,g]
 . have o:k<b.length:=by omega
   simp[o];apply rn;simp;by_cases i:a[k]=b[k]
   . have q:(a[k]!=b[k])=false:=by simp[i]
     simp[c,q];refine⟨by omega,p _ (by omega) ⟨_,rfl,by simp[l],by simp[n],by simp[cZ],by simp,?_⟩⟩;rw[zA g,zA o,f,i]
   . have q:(a[k] !=b[k])=true:=by simp[i]
     have j:a≠b:=λe=>by simp_all
     simp[j]at h;simp[q];exact .done h
 . have ek:k=a.length:=by omega
   subst ek;rw[ZL,r,ZL]at f;simp[f]at h;exact .done h
def foundAt(w:gn)(c:Int)(h i:Nat):Prop:=jB w h i c=1/\∀a b:Nat,(a<h\/a=h/\b<i)->b<w.fair.aB.length->jB w a b c≠1
theorem Jr(z:m.solo=true){w}(F:w.pY)(A:w.Open){c}(G:0<=c/\c<3)(H:eH w [] [] [c]=0)(I:∀h i ,h<73->i<w.fair.aB.length->foundAt w c h i->KF (.val (.ck [int h,int i,int 0])) σ)
 (J:(∀e b:Nat,e<73->b<w.fair.aB.length->jB w e b c≠1)->KF (.val (.ck [int 0,int 0,int 11])) σ):az prog m 31 [dv w,int c] σ KF:=by
 have K:Wl [dv w,m7,m7,.sl 1 [int c] .exact] [dv w,ints [],ints [],ints [c]]:=Rv (.refl _) (fq 1) (fq 1) (iq 1 _ _);have S:=A.qH.1;refine fs [] Tryz.func31 rfl (by kernel_rfl) ?_;simp[Tryz.f31];refine cd Tryz.func41 rfl rfl K (lQ z F (by simp) (λq=>absurd H q) λq g fb mb u=>?_);apply rn;simp;refine aa.loop 73 (λk s=>∃env a,s=⟨env,a,[],.no⟩/\(env 1=int c/\env 2=.cp (dv w) 0/\env 9=.fn (.func 67) [ti fb mb w 0] []/\env 24=int k)/\dX w mb a/\eS mb g a/\∀e b:Nat,e<k->b<w.fair.aB.length->jB w e b c≠1) ⟨_,_,rfl,by simp,u.yj,.refl mb g,λe b q=>absurd q (Nat.not_lt_zero _)⟩ ?_;rintro T k _ L ⟨env,a,rfl,⟨n,o,p,HI⟩,t,d,v⟩ M;apply rn;simp[HI];apply aG.intro<;>intro B<;>simp at B<;>simp[o,HI,B]
 . refine aa.loop w.fair.aB.length (λj s=>∃env a,s=⟨env,a,[],.no⟩/\(env 1=int c/\env 2=.cp (dv w) 0/\env 9=.fn (.func 67) [ti fb mb w 0] []/\env 24=int k/\env 10=int k/\env 30=int w.fair.aB.length/\env 31=int j)/\dX w mb a/\eS mb g a/\∀b:Nat,b<j->jB w k b c≠1) ⟨_,_,rfl,by simp[n,o,p,HI],t,d,λb q=>absurd q (Nat.not_lt_zero _)⟩ ?_
   rintro U j _ V ⟨env,a,rfl,⟨n,o,p,HI,bp,r,l⟩,t,d,C⟩ x;apply rn;simp[r,l];apply aG.intro<;>intro D<;>simp at D<;>simp[n,p,HI,bp,l,D]
   . refine dY Tryz.func67 rfl rfl rfl (DT z A (by omega) G t λy N O=>?_)
     have f:=d.trans O;by_cases E:jB w k j c=1
     . rw[show yh (jB w k j c)=.lS 125 (.agg [])by rw[E];rfl]
       apply rn;simp[bp];refine .less (u.less f) (.done (I k j (by omega) (by omega) ⟨E,λe b q P=>?_⟩))
       grind
     . have Q:Ah (jB w k j c)≠125:=by unfold Ah;grind
       apply rn;simp[l,Q];refine⟨by omega,x _ (by omega) ⟨_,y,rfl,(by simp[n,o,p,HI,bp,r]),N,f,λb q=>?_⟩⟩
       grind
   . have R:j=w.fair.aB.length:=by omega
     subst R;refine⟨by omega,M _ (by omega) ⟨_,a,rfl,(by simp[n,o,p]),t,d,λe b q P=>?_⟩⟩
     grind
 . have ek:k=73:=by omega
   subst ek;exact .less (u.less d) (.done (J v))
theorem qF  w   h :(js w h).length<=w.fair.aB.length:=by
 unfold js
 grind
def yl(H:Int->acm)(s:Nat):Prop:=s<=72/\(∀h:Nat,s<=h->h<=72->H h=H 72)/\(0<s->H ((s:Int)-1)≠H 72)
theorem D9(A:m.solo=true){w}(B:w.pY){H}(t:∀  fb mb   h   σ   KF ,dX w mb σ->(∀σ',dX w mb σ'->eS mb σ σ'->KF (.val (ints (H h))) σ')->az prog m 42 [ti fb mb w 0,int h] σ KF)(hlen:∀h,(H h).length<=6)(C:eH w [] [] []=0)(u:∀s ,yl H s->KF (.val (.ck [int s,int 0])) σ):az prog m 26 [dv w] σ KF:=by
 have D:Wl [dv w,m7,m7,m7] [dv w,ints [],ints [],ints []]:=Rv (.refl _) (fq 1) (fq 1) (fq 1);have v:=hlen 72;refine fs [] Tryz.func26 rfl (by kernel_rfl) ?_;simp[Tryz.f26];refine cd Tryz.func41 rfl rfl D (lQ A B (by simp) (λq=>absurd C q) λq i fb mb j=>?_);apply rn;simp;refine cf Tryz.func42 rfl (t _ _ _ _ _ j.yj λE x l=>?_);apply rn;simp;refine aa.loop 72 (λk s=>∃env σ',s=⟨env,σ',[],.no⟩/\(env 4=ti fb mb w 0/\env 6=int (72-(k:Int))/\env 7=ints (H 72))/\dX w mb σ'/\eS mb i σ'/\∀h:Nat,72<=h+k->h<=72->H h=H 72) ⟨_,_,rfl,by simp,x,l,λh q F=>by grind⟩ ?_;rintro O k _ G ⟨env,σ',rfl,⟨y,d,z⟩,I,f,g⟩ J;obtain⟨a,K⟩:∃a:Nat,a+k=72:=⟨72-k,by omega⟩;have n:(72:Int)-k=a:=by omega
 have b:∀_:(0<a->H ((a:Int)-1)≠H 72),yl H a:=λq=>⟨by omega,λh x l=>g h (by omega) l,q⟩
 rw[n]at d;apply rn;simp[d];refine tJ.intro (λo=>?_) (λo=>?_)<;>(try simp[-Nat.not_lt,-Nat.not_le]at o)<;>(try simp[y,d,o])
 . refine⟨by omega,?_⟩
   refine cf Tryz.func42 rfl (t _ _ _ _ _ I λp L M=>?_);have c:=f.trans M;have N:=hlen ((a:Int)-1);apply rn;simp[z];refine cf Tryz.func47 rfl (tw (by omega) (by omega) ?_);by_cases r:H ((a:Int)-1)=H 72
   . apply rn
     simp[d,r];refine⟨by omega,J _ (by omega) ⟨_,p,rfl,⟨by simp[y],by simp;omega,by simp[z]⟩,L,c,λh q F=>?_⟩⟩;by_cases e:h+1=a
     . grind
     grind
   . apply rn
     simp[d,r];exact .less (j.less c) (.done (u a (b λ_=>r)))
 . exact .less (j.less f) (.done (u a (b λq=>by omega)))
abbrev Ao(w:gn)(s:Nat):Prop:=yl (js w) s
theorem Ea(a:m.solo=true){w}(c:w.pY)(b:w.Open)(d:eH w [] [] []=0)(e:∀s ,Ao w s->KF (.val (.ck [int s,int 0])) σ):az prog m 26 [dv w] σ KF:=D9 a c (λfb mb h σ KF f g=>tu a b f g) (λh=>ZH (qF w h) b.qH.1) d e
def gn.only(w:gn)(l:acm):gn:={w with aD:=l.filterMap λc=>w.aD[c.toNat]?}
abbrev ym(w:gn)(a:AV):acs:=[jm w.fair.aB,rows w.fair.roads,int w.fair.aQ,int w.fair.eP,int w.fair.cM,int w.fair.aW,int w.ba,uA w.ways,a]
theorem Nr  w   a b :(ym w a).set 8 b=ym w b:=rfl
theorem Js{w wb a}(b:σ wb=some (.cells (ym w a)))(h:KF (.val (.ck [])) (σ.set wb (.cells (DG w)))):az prog m 88 [.cp (kD w.aD) 0,.cp (.ref wb 0) 0] σ KF:=by
 refine fs [] Tryz.func88 rfl (by kernel_rfl) ?_;simp[Tryz.f88];simp[b];exact .done h
namespace CW
abbrev Wj:acb:=[⟨7,.take [0,1,2,3,5,6,7,8,11,12] false (.both 4 (.one 9 (.one 10 (.one 13 (.done)))) (.one 9 (.take [4] true (.one 10 (.one 13 (.done))))))⟩]
abbrev Wk:acb:=[⟨0,.take [3] false (.one 0 (.one 1 (.one 2 (.one 4 (.one 5 (.done))))))⟩]
theorem Ns{w wb l}(M:∀c∈l,0<=c/\c<w.aD.length)(S:l.length<=1000){F t}(I:acp)(C:σ wb=some (.cells (DG w)))
 (N:∀a g K,Tok (σ.del wb) g a 8 ((w.only l).aD.map gW)->g wb=some (.cells (ym w a))->(∀σ2,σ2 wb=some (.cells (ym w a))->I σ2->K (.val (.ck [])) σ2)->bY prog m (.fn F [] t) [] g K)
 (h:∀σ2,I σ2->KF (.val (.ck [])) (σ2.set wb (.cells (DG w)))):az prog m 45 [.ref wb 0,ints l,.fn F [] t] σ KF:=by
 refine az.E8 lay [] Wj 12 3 Tryz.func45 rfl rfl (by rfl) (by kernel_rfl) ?_
 simp[Tryz.f45,C];refine bV.intro λD u=>?_
 have T:wb≠D:=λe=>by simp_all
 simp
 change aa _ _ _ _ _ _ _ _ _
 refine aa.bD 6 (b:=D) (kD w.aD) (ab.ai _ _ _) (by simp) rfl ?_
 rw[eY u];apply rn;simp;refine aa.defer rfl rfl rfl rfl (by simp) rfl ?_
 apply rn;simp[C];refine aa.loop l.length (λk s=>∃env d a,s=⟨env,d,[.call (.func 88) [.cp (kD w.aD) 0,.cp (.ref wb 0) 0] []],.no⟩/\(env 2=.fn F [] t/\env 3=.cp (.ref wb 0) 0/\env 6=.cp (kD w.aD) 0/\env 17=ints l/\env 18=int l.length/\env 19=int k)/\Tok (σ.del wb) d a 8 ((w.only (l.take k)).aD.map gW)/\d wb=some (.cells (ym w a))) ⟨_,_,.lit (.slice none 0 0),rfl,by simp,⟨?_,.inl ⟨rfl,by simp[gn.only]⟩⟩,ab.ai _ _ _⟩ ?_
 . intro c x v
   have E:c≠wb:=λe=>by subst e;simp[ab.del]at v
   simp only[ab.del,E,LK]at v;rw[ab.ah _ _ E];exact v
 rintro U k _ V ⟨env,d,a,rfl,⟨G,H,J,j,lU,Oe⟩,n,i⟩ O
 apply rn;simp[lU,Oe];apply aG.intro<;>intro r<;>simp at r<;>simp[G,H,J,j,Oe,r]
 . have P:=M l[k] (zD r)
   have y:((w.only (l.take k)).aD.map gW).length<=k:=by
    rw[ZT];refine ZH (List.length_filterMap_le _ _) ?_
    grind
   have z:(w.only (l.take (k+1))).aD.map gW=(w.only (l.take k)).aD.map gW++[gW w.aD[l[k].toNat]]:=by simp only[gn.only];rw[zA r,List.filterMap_append,ZO];simp[Rp (show l[k].toNat<w.aD.length by omega)]
   have A:br a≠some wb:=λe=>by obtain⟨_,x,q⟩:=n.aV e;simp_all
   simp[i,P];refine⟨?_,?_⟩
   all_goals
    refine aK lay rfl rfl rfl OY rfl OY rfl Ud (by decide) (by simp only[ZT,aaa,aaz]at y ⊢;omega) (σ0:=d.off a) (es:=(w.only (l.take k)).aD.map gW) (xs:=[gW w.aD[l[k].toNat]]) (by simpa using n.here.1) (.inr ⟨_,rfl⟩) λL σ2 f=>?_
    rw[<-z]at f;have o:σ2 wb=some (.cells (ym w a)):=f.1 _ _ ((ab.dL A).trans i);have B:=f.cells;have p:br L≠some wb:=λe=>by obtain⟨_,x,q⟩:=f.aV e;rw[o]at q;cases q
    apply pg;simp[o,B];apply rn;simp[Oe];refine⟨by omega,O _ (by omega) ⟨_,_,L,rfl,by simp[G,H,J,j,lU],(f.base n.here.2).beside (by simp[ab.del]) p,ab.ai _ _ _⟩⟩
 . have ek:k=l.length:=by omega
   subst ek;rw[ZL]at n;refine N a d _ n i λσ2 Q R=>?_
   apply rn;simp;refine qL.func Tryz.func88 rfl rfl (Js Q ?_);exact⟨[],rfl,.done (h σ2 R)⟩
theorem UT{w l a}(d:a.W (kD (w.only l).aD)):(AV.agg (ym w a)).W (dv (w.only l)):=pP rfl λi x y c b=>by
 change (ym w (kD (w.only l).aD))[i]?=some y at b;rw[<-Nr w a]at b;by_cases e:i=8
 . simp_all
 . rw[aaq (zj e),c]at b
   cases b;exact .refl _
theorem BR(f:m.solo=true){w wb c a l e x}(g:(w.only l).Open)(d:w.ways.length<1152921504606846976/\(∀x∈w.ways,tg w.ba x)/\1<=w.ba/\w.ba<=4)(k:ye (w.only l))(t:e.length<1000000)(n:σ wb=some (.cells (ym w a)))(o:a.W (kD (w.only l).aD))(p:σ c=some (.cells [x]))
 (h:∀σ2,σ.Le σ2->KF (.val (.ck [])) (σ2.set c (.cells [bool (decide (js (w.only l) 72=e))]))):az prog m 46 [.ref wb 0,.cp (ints e) 0,.ref c 0] σ KF:=by
 have u:=g.qH.1;have i:=qF (w.only l) 72;have q:Wl [.agg (ym w a)] [dv (w.only l)]:=.cons (UT o) .nil;refine fs Wk Tryz.func46 rfl (by kernel_rfl) ?_;simp[Tryz.f46];simp[n];refine cd Tryz.func48 rfl rfl q (tj f d.1 d.2.1 d.2.2 k λr fb mb j=>?_);apply pg;simp;refine cf Tryz.func42 rfl (tu f g j.yj λσ2 v s=>?_);apply pg;simp;have b:=j.less s;refine cf Tryz.func47 rfl (tw (by omega) (by omega) ?_);apply pg;simp[b _ _ p];apply rn;simp;exact .done (h σ2 b)
end CW
theorem Eb(v:m.solo=true){w wb l e}(y:(w.only l).Open)(z:w.ways.length<1152921504606846976/\(∀x∈w.ways,tg w.ba x)/\1<=w.ba/\w.ba<=4)(A:ye (w.only l))(B:e.length<1000000)(k:∀c∈l,0<=c/\c<w.aD.length)(C:l.length<=1000)(D:σ wb=some (.cells (DG w)))
 (h:KF (.val (bool (decide (js (w.only l) 72=e)))) σ):az prog m 44 [ints l,.ref wb 0,.cp (ints e) 0] σ KF:=by
 refine az.start lay [5] [] 3 Tryz.func44 rfl rfl (by rfl) (by kernel_rfl) ?_;simp[Tryz.f44];refine bV.intro λf E=>?_
 have j:wb≠f:=λe=>by simp_all
 simp;have o:(σ.set f (.cells [bool false])) wb=some (.cells (DG w)):=(ab.ah _ _ j).trans D;refine cf Tryz.func45 rfl (CW.Ns k C (λb=>∃d:ab,(∀c x,σ c=some x->c≠wb->d c=some x)/\b=d.set f (.cells [bool (decide (js (w.only l) 72=e))])) o (λa p K r g F=>?_) ?_)
 . have s:p f=some (.cells [bool false]):=r.1 _ _ (by simp[ab.del,zj j])
   refine dY Tryz.func46 rfl rfl rfl (CW.BR v y z A B g r.W s λb i=>?_);refine F _ ((ab.ah _ _ j).trans (i _ _ g)) ⟨b,λc x u n=>i _ _ (r.1 _ _ ?_),rfl⟩;have t:c≠f:=λe=>by simp_all
   simp only[ab.del,n,LK];exact(ab.ah _ _ t).trans u
 . rintro b ⟨d,q,rfl⟩
   have G:((d.set f (.cells [bool (decide (js (w.only l) 72=e))])).set wb (.cells (DG w))) f=some (.cells [bool (decide (js (w.only l) 72=e))]):=(ab.ah _ _ (zj j)).trans (ab.ai _ _ _);refine aa.run lay [5] ?_;simp[G];refine .less (λc x u=>?_) (.done h);have t:c≠f:=λe=>by simp_all
   by_cases e:c=wb
   . simp_all
   . rw[ab.ah _ _ e,ab.ah _ _ t];simp_all
def cT(x:acm):Nat:=match x.getLast? with|none=>0|some v=>v.toNat+1
def nxt(n:Nat)(x:acm):abQ:=(List.range' (cT x) (n-cT x)).map λ(j:Nat)=>x++[(j:Int)]
def vz(n:Nat):Nat->abQ
 |0=>[[]]
 |k+1=>(vz n k).flatMap (nxt n)
theorem Nt  n :∀k,∀x∈vz n k,x.length=k/\(∀c∈x,0<=c/\c<n)/\cT x<=n
 | 0,x,a=>by
   have:x=[]:=by simpa[vz]using a
   subst this;simp[cT]
 | k+1,x,a=>by
   simp only[vz,aaQ,nxt,ZU,List.mem_range'_1]at a;obtain⟨y,b,j,e,rfl⟩:=a;obtain⟨d,f,g⟩:=Nt n k y b;refine⟨by simp[d],λc h=>?_,?_⟩
   . grind
   . simp[cT];omega
theorem yn  n :∀M:abQ,(M.flatMap (nxt n)).length<=M.length*n
 |[]=>by simp
 | x::M=>by
   have:=yn n M;rw[abf,ZN,aaa,abm];have:(nxt n x).length<=n:=by simp[nxt]
   omega
theorem Hj  n :∀k,(vz n k).length<=n ^ k
 |0=>by simp[vz]
 |k+1=>by have a:=yn n (vz n k);have b:=Hj n k;rw[Nat.pow_succ];exact ZH a (aar n b)
theorem FX{x}(h:0<x.length)(a:∀c∈x,0<=c):x[x.length-1]?=some ((cT x:Int)-1):=by
 have b:=a x[x.length-1] (zD _);unfold cT
 grind
def FY(n:Nat)(G:acm->Bool):acm:=(((List.range (n+1)).flatMap (vz n)).find? G).getD (rO n)
theorem Po{n k i G}(a:k<n+1)  hi  (b:∀k'<k,∀x∈vz n k',G x=false) (c:∀x∈(vz n k).take i,G x=false) (h:G (vz n k)[i]=true):FY n G=(vz n k)[i]:=by
 unfold FY
 have e:List.range (n+1)=List.range k++k::List.range' (k+1) (n-k):=by rw[List.range_eq_range',List.range_eq_range',show n+1=k+(n-k+1)by omega,<-List.range'_append_1,aaK];rfl
 have d:((List.range k).flatMap (vz n)).find? G=none:=List.find?_eq_none.2 λx f=>by grind
 have g:(vz n k).find? G=some (vz n k)[i]:=by
  have j:vz n k=(vz n k).take i++(vz n k)[i]::(vz n k).drop (i+1):=by simp_all
  grind
 grind
theorem Pp{n G}(a:∀k'<n+1,∀x∈vz n k',G x=false):FY n G=rO n:=by
 unfold FY;rw[List.find?_eq_none.2 λx b=>by grind];rfl
abbrev mM(M:abQ):acs:=M.map ints
theorem bY.zh{P m b args args' σ KF}(h:bY P m b args' σ KF)(c:Wl args args'):bY P m b args σ KF:=λQ k O cf a fr cs d e f g i j l n=>h Q k O cf a fr cs d (e.zh c) f g i j l n
theorem Jt{n:Nat}(hn:n<=3){G f}(b0:f.cells=[f])(a7:f.flat=true)(hf:∀  l   σ'   K ,(∀c∈l,0<=c/\c<(n:Int))->l.length<=n->σ.Le σ'->K (.val (bool (G l))) σ'->bY prog m f [ints l] σ' K){xs:acm}(hx:xs.length=n)(a8:∀  j  (q:j<xs.length),xs[j]=j)(h:KF (.val (ints (FY n G))) σ):az prog m 43 [.agg [f],ints xs] σ KF:=by
 refine fs [] Tryz.func43 rfl (by kernel_rfl) ?_
 simp[Tryz.f43];refine⟨a7,by omega,?_⟩
 refine aa.Ii 5 (a':=.sl 1 (mM (vz n 0)) .any) ?_ ?_
 . change AV.W (.sl 1 [.nil] .exact) (.sl 1 [ints []] .any)
   exact Q3 rfl (by simp) (by simp) λi a a' h1 h2=>by
    cases i with
    |zero=>cases h1;cases h2;exact fq 1
    |succ i=>simp at h1
 refine aa.loop (n+1) (λk s=>∃env σ',s=⟨env,σ',[],.no⟩/\(env 1=ints xs/\env 2=.cp (.agg [f]) 0/\env 5=.sl 1 (mM (vz n k)) .any/\env 17=int ((n:Int)+1)/\env 18=int k)/\σ.Le σ'/\∀k'<k,∀x∈vz n k',G x=false) ⟨_,_,rfl,by simp[hx],ab.le_refl _,by simp⟩ ?_
 rintro c0 k _ hk ⟨env,σ',rfl,⟨o,r,e5,g,lU⟩,J,L⟩ ih
 have hM:=Nt n k;obtain⟨M,B⟩:∃M,M=vz n k:=⟨_,rfl⟩;rw[<-B]at hM e5;apply rn;simp[g,lU];apply aG.intro<;>intro g1<;>simp at g1<;>simp[o,e5,g1]
 . have b1:M.length<=27:=by
    rw[B];exact ZH (Hj n k) (ZH (Nat.pow_le_pow_left hn k) (Nat.pow_le_pow_right (n:=3) (by decide) (show k<=3 by omega)))
   refine aa.loop M.length (λi s=>∃env σ' a,s=⟨env,σ',[],.no⟩/\(env 1=ints xs/\env 2=.cp (.agg [f]) 0/\env 17=int ((n:Int)+1)/\env 18=int k/\env 20=.sl 1 (mM M) .any/\env 21=int M.length/\env 22=int i/\env 6=a)/\Tok σ σ' a 1 (mM ((M.take i).flatMap (nxt n)))/\∀x∈M.take i,G x=false) ⟨_,_,.nil,rfl,by simp[o,r,g,lU],⟨J,.inl ⟨rfl,by simp⟩⟩,by simp⟩ ?_
   rintro c1 i _ hi ⟨env,σ',a,rfl,⟨o,r,g,lU,yG,m9,vD,u⟩,Z,v⟩ a9
   apply rn;simp[m9,vD];apply aG.intro<;>intro N<;>simp at N<;>simp[lU,yG,vD,u,N]
   . obtain ⟨ad,C,al⟩:=hM _ (zD N)
     have av:=yn n (M.take i);have aO:((M.take i).flatMap (nxt n)).length<=200:=ZH av (ZH (Nat.mul_le_mul (by rw[aaB];omega:(M.take i).length<=27) hn) (by decide))
     obtain⟨x,D⟩:∃x,x=M[i]:=⟨_,rfl⟩;rw[<-D]at ad C al;simp only[<-D];refine aa.loop x.length (λj s=>∃env t b,s=⟨env,t,[],.no⟩/\(env 1=ints xs/\env 2=.cp (.agg [f]) 0/\env 17=int ((n:Int)+1)/\env 18=int k/\env 20=.sl 1 (mM M) .any/\env 21=int M.length/\env 22=int i/\env 6=a/\env 8=ints x/\env 26=ints x/\env 27=int x.length/\env 28=int j/\env 9=b)/\Tok σ' t b 1 ((x.take j).map int)) ⟨_,_,.nil,rfl,by simp[o,r,g,lU,yG,m9,vD,u],.nil σ' 1⟩ ?_
     rintro c2 j _ hj ⟨env,t,b,rfl,⟨o,r,g,lU,yG,m9,vD,u,A,O,P,F,e9⟩,w⟩ ax
     apply rn;simp[P,F];apply aG.intro<;>intro g3<;>simp at g3<;>simp[o,r,O,F,e9,g3]
     . have g4:=C _ (zD g3)
       have g5:x[j].toNat<xs.length:=by omega
       have g6:(xs[x[j].toNat]:Int)=x[j]:=by rw[a8 _ g5];omega
       have g7:x[j]<(xs.length:Int):=by omega
       simp[g4,g7,g6];have H:(x.take (j+1)).map int=(x.take j).map int++[int x[j]]:=by rw[zA g3,ZO];rfl
       refine aK lay rfl rfl rfl dM rfl dM rfl rS (by decide) (by simp only[ZT,aaB,aaa,aaz];omega) (σ0:=σ') (es:=(x.take j).map int) (xs:=[int x[j]]) (by simpa using w) (.inr ⟨_,rfl⟩) λa' p Q=>?_
       rw[<-H]at Q;apply rn;simp[F];refine⟨by omega,ax _ (by omega) ⟨_,_,a',rfl,by simp[o,r,g,lU,yG,m9,vD,u,A,O,P],Q⟩⟩
     . have ej:j=x.length:=by omega
       subst ej;rw[ZL]at w;have R:=Z.up w.1;have E:=R.1;refine bY.zh (hf x t _ C (by omega) E ?_) (.cons w.W .nil)
       have S:G x=true->ints (FY n G)=ints x:=λq=>by
        rw[Po (i:=i) (by omega) (by grind) L (by rw[<-B];exact v) (by grind)]
        grind
       cases hG:G x with
       |true=>rw[S hG]at h;apply rn;simp[e9,aG];refine .oW w.W (.less E (.done h))
       | false=>
         by_cases gl:0<x.length
         have ay:=FX gl λc hc=>(C c hc).1
         have gx:0<=(x.length:Int)-1/\(x.length:Int)-1<x.length/\1<=(x.length:Int):=by omega
         apply rn;simp[A,aG,gl,gx,ay];refine⟨by omega,by omega,?_⟩
         refine aa.iC (λe s=>(e 1=ints xs/\e 2=.cp (.agg [f]) 0/\e 17=int ((n:Int)+1)/\e 18=int k/\e 20=.sl 1 (mM M) .any/\e 21=int M.length/\e 22=int i/\e 6=a/\e 8=ints x/\e 13=int (cT x))/\s=t) ⟨by simp[o,r,g,lU,yG,m9,vD,u,A],rfl⟩ ?_
         rotate_left
         have aC:cT x=0:=by
          have:x=[]:=abC.1 (by omega)
          subst this;rfl
         apply rn;simp[A,aG,gl];refine aa.iC (λe s=>(e 1=ints xs/\e 2=.cp (.agg [f]) 0/\e 17=int ((n:Int)+1)/\e 18=int k/\e 20=.sl 1 (mM M) .any/\e 21=int M.length/\e 22=int i/\e 6=a/\e 8=ints x/\e 13=int (cT x))/\s=t) ⟨by simp[o,r,g,lU,yG,m9,vD,u,A,aC],rfl⟩ ?_
         rotate_left
         all_goals
          rintro env _ ⟨⟨o,r,g,lU,yG,m9,vD,u,A,z⟩,rfl⟩
          refine aa.loop (n-cT x) (λd s=>∃env p a',s=⟨env,p,[],.no⟩/\(env 1=ints xs/\env 2=.cp (.agg [f]) 0/\env 17=int ((n:Int)+1)/\env 18=int k/\env 20=.sl 1 (mM M) .any/\env 21=int M.length/\env 22=int i/\env 6=a'/\env 8=ints x/\env 13=int ((cT x:Int)+d))/\Tok σ p a' 1 (mM ((M.take i).flatMap (nxt n)++(List.range' (cT x) d).map λ(j:Nat)=>x++[(j:Int)]))) ⟨_,_,a,rfl,by simp[o,r,g,lU,yG,m9,vD,u,A,z],by simpa using R⟩ ?_
          rintro c3 d _ hd ⟨env,p,a',rfl,⟨o,r,g,lU,yG,m9,vD,u,A,z⟩,T⟩ aE
          apply rn;simp[o,z];apply aG.intro<;>intro g6<;>simp at g6<;>simp[vD,u,A,g6]
          . refine uM lay rfl dM rfl rS (es:=x.map int) (sp:=.any) (l:=0) (h:=x.length) (by simp) (λcap U=>⟨⟨⟨.i64,by simp⟩,by simpa using U⟩,⟨⟨.i64,by simp⟩,ZI _⟩,rfl⟩) (by simp) λb2 V=>?_
            have X:Tok p p b2 1 (x.map int):=by
             rw[List.drop_zero,aan (by simp)]at V
             rcases V with rfl|⟨e,rfl⟩
             . exact .exact _ _ _
             . rw[e];exact .nil _ _
            apply rn;simp[z];refine aK lay rfl rfl rfl dM rfl dM rfl rS (by decide) (by simp only[ZT,aaa,aaz];omega) (σ0:=p) (es:=x.map int) (xs:=[int ((cT x:Int)+d)]) (by simpa using X) (.inr ⟨_,rfl⟩) λa2 b3 I=>?_
            have H:x.map int++[int ((cT x:Int)+d)]=(x++[((cT x+d:Nat):Int)]).map int:=by rw[ZO,Int.natCast_add];rfl
            rw[H]at I;refine aa.Ii 71 (a':=ints (x++[((cT x+d:Nat):Int)])) (show AV.W a2 _ from I.W) ?_
            apply rn;simp
            have aL:mM ((M.take i).flatMap (nxt n)++(List.range' (cT x) (d+1)).map λ(j:Nat)=>x++[(j:Int)])=mM ((M.take i).flatMap (nxt n)++(List.range' (cT x) d).map λ(j:Nat)=>x++[(j:Int)])++[ints (x++[((cT x+d:Nat):Int)])]:=by rw[List.range'_1_concat,ZO,<-List.append_assoc,mM,ZO];rfl
            refine aK lay rfl rfl rfl oy rfl oy rfl dM (by decide) (by simp only[ZT,ZN,List.length_range',aaa,aaz];omega) (σ0:=σ) (es:=mM ((M.take i).flatMap (nxt n)++(List.range' (cT x) d).map λ(j:Nat)=>x++[(j:Int)])) (xs:=[ints (x++[((cT x+d:Nat):Int)])]) (by simpa using T.up I.1) (.inr ⟨_,rfl⟩) λa3 b4 Y=>?_
            rw[<-aL]at Y;apply rn;simp[z];refine⟨by omega,aE _ (by omega) ⟨_,_,a3,rfl,by simp[o,r,g,lU,yG,m9,vD,A,Int.add_assoc],Y⟩⟩
          . have ed:d=n-cT x:=by omega
            subst ed;refine⟨by omega,a9 _ (by omega) ⟨_,_,a',rfl,by simp[o,r,g,lU,yG,m9,u],?_,λy hy=>?_⟩⟩
            . rw[zA N,aaU,List.flatMap_singleton,<-D]
              exact T
            . rw[zA N,<-D]at hy
              rcases ZA.1 hy with hy|hy
              . exact v y hy
              . rw[lb.1 hy];exact hG
   . have ei:i=M.length:=by omega
     subst ei;rw[ZL]at Z v;refine⟨by omega,?_⟩
     refine aa.Ii 5 (a':=.sl 1 (mM (vz n (k+1))) .any) ?_ (ih _ (by omega) ⟨_,_,rfl,by simp[o,r,g],Z.1,λk' q x hx=>?_⟩)
     . change AV.W a _
       have:=Z.W;rw[B]at this;exact this
     grind
 . have ek:k=n+1:=by omega
   subst ek;have e:xs=rO n:=List.ext_getElem (by grind) λj q1 q2=>by grind
   rw[Pp L,<-e]at h;exact .less J (.done h)
def Hk(w:gn):acm:=FY w.aD.length λl=>decide (js (w.only l) 72=js w 72)
theorem Ju{w:gn}(a:w.Valid){l}(b:l.length<=w.aD.length):ye (w.only l):=by
 refine⟨ZH (List.length_filterMap_le _ _) (ZH b a.Nd.1),λc d=>a.Nd.2 c ?_⟩;obtain⟨i,_,h⟩:=List.mem_filterMap.1 d
 grind
theorem FZ(g:m.solo=true){w}(h:w.pY)(o:w.Open)(hSub:∀l ,(∀c∈l,0<=c/\c<(w.aD.length:Int))->l.length<=w.aD.length->(w.only l).Open)(p:eH w [] [] []=0)(v:KF (.val (.ck [ints (Hk w),int 0])) σ):az prog m 12 [dv w] σ KF:=by
 have y:Wl [dv w,m7,m7,m7] [dv w,ints [],ints [],ints []]:=Rv (.refl _) (fq 1) (fq 1) (fq 1);have z:=o.qH;have r:=qF w 72;refine az.start lay [1] [] 1 Tryz.func12 rfl rfl (by rfl) (by kernel_rfl) ?_;simp[Tryz.f12];refine bV.intro λwb A=>?_
 simp;refine cd Tryz.func41 rfl rfl y (lQ g h (by simp) (λq=>absurd p q) λq B fb mb s=>?_);refine aa.run lay [1] ?_;simp;refine cf Tryz.func42 rfl (tu g o s.yj λi I C=>?_);have a:=s.less C;refine aa.runN lay [1] 3 ?_;simp;refine bV.intro λD k=>?_
 simp;change aa _ _ _ _ _ _ _ _ _;refine aa.bD 6 (b:=D) (ints (js w 72)) (ab.ai _ _ _) (by simp) rfl ?_;rw[eY k];have d:i wb=some (.cells (DG w)):=a _ _ (ab.ai _ _ _);refine aa.run lay [1] ?_;simp[d];refine cf Tryz.func49 rfl (uB (by omega) ?_);refine aa.run lay [1] ?_;simp;have n:w.Valid:=gn.valid h (by unfold eH at p;omega);refine cf Tryz.func43 rfl (Jt z.2 rfl (by simp) (G:=λl=>decide (js (w.only l) 72=js w 72)) (λl E K t u f F=>dY Tryz.func44 rfl rfl rfl (Eb g (hSub l t u) ⟨h.ways,n.cW,n.ba⟩ (Ju n u) (by omega) t (by omega) (f _ _ d) F)) (BP _) (λj q=>by grind) ?_);refine aa.run lay [1] ?_;simp;exact .less (λc x H=>a _ _ ((ab.ah _ _ λe=>by simp_all).trans H)) (.done v)
end
section
open Go.cz Go.Conc
theorem yo  p :∀n ,n<=6->(0<=aX ((rO n).filter p)/\aX ((rO n).filter p)<64)/\aA (aX ((rO n).filter p))=(rO n).filter p
 | 0,_=>by
   show(0<=aX []/\aX []<64)/\aA (aX [])=[];decide
 | n + 1,h=>by
   obtain⟨a,b⟩:=yo p n (by omega);rw[yf];split
   . rw[m5]
     exact⟨(FF a (by omega)).1,by rw[Ac a (by omega) λe c=>by grind,b]⟩
   simp_all
section
variable{w:gn}
abbrev Ql(w:gn)(es cs:acm):acm:=es++cs.map λ(c:Int)=>c+(w.fair.aB.length:Int)
theorem Nu{i:Int}(h:0<=i/\i<w.fair.aB.length):aR (iS w) i=aR w.fair i:=by
 have:i.toNat<w.fair.aB.length:=by omega
 unfold aR iS
 grind
theorem Nv{c:Int}(h:0<=c/\c<w.aD.length):aR (iS w) (c+w.fair.aB.length)=(BO w c).lost:=by
 have a:c.toNat<w.aD.length:=by omega
 have e:(c+w.fair.aB.length).toNat=w.fair.aB.length+c.toNat:=by omega
 unfold aR iS BO
 simp_all
theorem UU:(iS w).aB.length=w.fair.aB.length+w.aD.length:=by simp_all
theorem Ec{es cs:acm}(b:∀i∈es,0<=i/\i<w.fair.aB.length)(d:∀i∈cs,0<=i/\i<w.aD.length):uz (iS w) (du w es cs) (Ql w es cs):=
 ⟨rfl,rfl,rfl,rfl,Int.le_refl _,λi a=>by
   grind,by
   show _=(es++cs.map λ(c:Int)=>c+(w.fair.aB.length:Int)).map (aR (iS w));rw[ZO,List.map_map];show es.map (aR w.fair)++_=_;rw[abq (g:=aR (iS w)) λi a=>(Nu (b i a)).symm];congr 1
   . exact abq λi a=>(Nv (d i a)).symm⟩
theorem Jv(b:w.Valid){es cs:acm}(f:∀i∈es,0<=i/\i<w.fair.aB.length)(g:∀i∈cs,0<=i/\i<w.aD.length)(j:es.length+cs.length<=6):(du w es cs).Good:=by
 have a:=lP b.Jn b.qH;have c:=Ec f g
 have d:∀e∈(du w es cs).aB,e∈(iS w).aB:=λe q=>by rw[c.tz]at q;obtain⟨i,h,rfl⟩:=ZU.1 q;exact gK (c.FL i h)
 have hlen:(du w es cs).aB.length=es.length+cs.length:=by grind
 exact⟨⟨by omega,a.fits.roads,a.fits.row,λe q=>a.fits.marks e (d e q)⟩,a.fr,a.to,a.le,a.cM,a.aW,by omega,λe q=>a.tz e (d e q),a.JB⟩
theorem uD{h i}(hi:i∈lR w h):0<=i/\i<w.fair.aB.length:=Hf (aaA.1 hi).1
theorem uE{h i}(hi:i∈mZ w h):0<=i/\i<w.aD.length:=Hf (aaA.1 hi).1
theorem F0  w   h :(lR w h).length<=w.fair.aB.length:=by
 have:=aaH (pE w h) (rO w.fair.aB.length)
 rwa [BP]at this
theorem F1  w   h :(mZ w h).length<=w.aD.length:=by
 have:=aaH (pC w h) (rO w.aD.length)
 rwa [BP]at this
theorem gn.Valid.kE(a:w.Valid)(h:Int):aA (kE w h)=lR w h:=(yo _ _ (by have:=a.qH;omega)).2
theorem gn.Valid.kC(a:w.Valid)(h:Int):aA (kC w h)=mZ w h:=(yo _ _ (by have:=a.qH;omega)).2
abbrev Qm(w:gn)(h:Int):Fr:=du w (lR w h) (mZ w h)
abbrev UW(w:gn)(h:Int):acm:=Ql w (lR w h) (mZ w h)
theorem Jw  w   h :uz (iS w) (Qm w h) (UW w h):=Ec (λ_=>uD) λ_=>uE
theorem F3(a:w.Valid)  h :(Qm w h).Good:=Jv a (λ_=>uD) (λ_=>uE) (by have:=F0 w h;have:=F1 w h;have:=a.qH;omega)
theorem gn.Valid.open(a:w.Valid):w.Open:=by
 have c:=a.qH;refine⟨⟨by omega,a.Nd.1⟩,λh=>?_⟩;have hb:=F3 a h;obtain⟨v,b⟩:=aaS _ a.some;obtain⟨u,d,_⟩:=(Jw w h).cW (lP a.Jn c) hb b;refine⟨?_,?_,?_,?_⟩<;>simp only[a.kE,a.kC]
 . exact λ_=>uD
 . exact λ_=>uE
 . exact hb
 grind
end
end
open Go Go.cz Go.Conc
variable{m:Mo}{σ:ab}{KF:abW}
theorem Pq{P Q:Prop}(f:P->Q)(p:P):Q:=f p
