import Derived.Test.YtebcbkhnlnkolaaGreatDoorC18
set_option linter.all false
set_option maxHeartbeats 1000000
set_option maxRecDepth 4000
namespace Go.Proofs.YtebcbkhnlnkolaaGreatDoor
open Go.Proofs.Tryz (prog)
section
open Go.cE Go.Conc
variable{m:Mo}{σ:af}{KF:acJ}
theorem N1:mC prog nn:=⟨⟨_,_,Tryz.func104,rfl,rfl,rfl⟩,⟨_,_,Tryz.func105,rfl,rfl,rfl⟩⟩
def yI(w:fP):Prop:=w.aF.length<=3/\∀c∈w.aF,(0<=c.town/\c.town<w.bf)/\0<=c.hour/\c.hour<=72
def Rd(w:fP)(c:OR):Int:=(qY w.ways w.bf.toNat c.town c.hour).getD 0 0
def dB(w:fP)(j:Nat):Int:=match w.aF[j]? with|some c=>Rd w c|none=>0
abbrev uj(fb mb:Nat)(w:fP)(o:Nat):AV:=Qj fb mb w (int (dB w 0)) (int (dB w 1)) (int (dB w 2)) [9,10] o
structure J6(σ:af)  fb mb  (w:fP)  σ' :Prop where
 f0:σ fb=none
 m0:σ mb=none
 ne:fb≠mb
 eq:σ'=(σ.set mb (m8 (pT .u8) [])).set fb (.part (bH 9))
def vP(n:Nat):acY:=[9,10]++(List.range n).map (11+·)
abbrev Xs(mb:Nat)(w:fP):ade:=[jC w.fair.aD,rows w.fair.roads,int w.fair.aU,int w.fair.eT,int w.fair.cP,int w.fair.aR,int w.bf,ve w.ways,kS w.aF,.lit (.int .i32 0),.lit (.int .u32 0),int 0,int 0,int 0,.map mb]
abbrev Ss(fb mb:Nat)(w:fP)(o:Nat):AV:=Qj fb mb w (int 0) (int 0) (int 0) (vP w.aF.length) o
def TA(n:Nat):Nat->acK:=λi=>if i=9 then some (.int .i32 0)else if i=10 then some (.int .u32 0)else if 11<=i/\i<11+n then some (.int .i64 0)else none
theorem nY{n i}:i∈vP n↔i=9\/i=10\/11<=i/\i<11+n:=by
 unfold vP;rw[aaq,aaA];constructor
 . grind
 . rintro(h|h|h)
   . simp_all
   . simp_all
   . exact .inr ⟨i-11,aai.2 (by omega),by omega⟩
theorem N2{n i}(h:i∈vP n):9<=i:=by have:=nY.1 h;omega
theorem Su{n mb w}(h:n<=3)  i   v  (a:TA n i=some v):(Xs mb w)[i]?=some (.lit v):=by
 unfold TA at a;split at a
 . simp_all
 split at a
 . simp_all
 split at a
 . next e=>
   cases a;have:i=11\/i=12\/i=13:=by omega
   rcases this with rfl|rfl|rfl<;>rfl
 . cases a
theorem N3  n i :TA n i=none↔i∉vP n:=by
 rw[nY];unfold TA
 grind
theorem tW{w}(hs:m.solo=true)(hl:w.ways.length<1152921504606846976)(hw:∀x∈w.ways,tT w.bf x)(hn:1<=w.bf/\w.bf<=4)(hc:yI w)(hK:∀σ' fb mb,J6 σ fb mb w σ'->KF (.val (uj fb mb w 0)) σ'):aA prog m 73 [dA w] σ KF:=by
 have h3:=hc.1;refine aA.start lay [10] [] 1 Tryz.func73 rfl rfl (by rfl) (by kernel_rfl) ?_;simp[Tryz.f73];refine vw (pT .u8) rfl λmb Cy=>?_
 refine aa.run lay [10] ?_;simp[aK];refine bM.intro λfb S=>?_
 simp;obtain⟨fm,mf,I⟩:=af.aP S;refine bM.intro λbw B=>?_
 obtain⟨wf,T,B⟩:=af.aP B;obtain⟨wm,mw,B⟩:=af.aP B;simp;refine bM.intro λgb o=>?_
 obtain⟨gw,wg,o⟩:=af.aP o;obtain⟨gf,U,o⟩:=af.aP o;obtain⟨gm,mg,o⟩:=af.aP o;simp[wf,T,wm,mw,gw,wg,gf,U,gm,mg,fm,mf,af.ai];refine aa.part fb (Xs mb w) (vP w.aF.length) (TA w.aF.length) (bw:=bw) (l1:=[.ref fb 0]) (l2:=[Ss fb mb w 0]) (by simp[af.ai,T,U]) (Su h3) (N3 w.aF.length) (λt=>.inl rfl) wf (by simp[af.ai,wg]) rfl (λi a a' W h2=>?_) ?_
 . match i with
   |0=>simp at W h2;subst W;subst h2;exact .inr ⟨0,rfl,rfl⟩
   |i+1=>simp at W
 refine aa.bt 3 (b:=bw) (Ss fb mb w 0) (af.aj _ _ _) (by simp) rfl ?_;refine aa.jd (λe σ'=>(e 3=.cp (Ss fb mb w 0) 0/\e 4=.ref gb 0/\e 15=kS w.aF/\e 16=int w.aF.length/\e 17=int 0)/\σ' fb=some (.part (TA w.aF.length))/\σ' gb=some (.cells [.lit (.int .u64 0),.lit (.int .u32 0)])/\σ' mb=some (m8 (pT .u8) [])/\∀c x,σ c=some x->c≠fb/\c≠mb/\c≠gb/\σ' c=some x) ⟨by simp,by simp[af.del,af.set,T],by simp[af.del,af.set,gw,gf],by simp[af.del,af.set,mw,mf,mg],λc x C=>?_⟩ ?_
 . have D:c≠fb:=λe=>by simp_all
   have E:c≠mb:=λe=>by simp_all
   have P:c≠gb:=λe=>by simp_all
   have X:c≠bw:=λe=>by simp_all
   exact⟨D,E,P,by simp[af.del,af.set,D,E,P,X,C]⟩
 rintro env ad ⟨⟨g,h,Bz,xC,d⟩,F,s2,s3,H⟩;refine aa.U5 hs (n:=w.aF.length) (fo:=9) (GI:=λx=>x=.map []) (λj=>.int .i64 (dB w j)) Ra Rb Ax Ay N1 (by omega) U fm gm s2 F rfl rfl (λj Q q=>(N3 _ _).1 q (nY.2 (.inr (.inr (by omega))))) s3 rfl rfl rfl ?_;rintro A ⟨J,rfl,Y,rfl,rfl,K,p,y,L,G⟩ Fin kd Z k0 M;refine aa.jd (λe σ'=>(e 3=.cp (Ss A.fb A.mb w 0) 0/\e 4=.ref A.gb 0/\e 15=kS w.aF/\e 16=int w.aF.length/\e 17=int 0)/\σ' A.fb=some .gT/\∀c x,σ c=some x->c≠A.fb/\c≠A.mb/\σ' c=some x) ⟨⟨g,h,Bz,xC,d⟩,af.aj _ _ _,λc x C=>?_⟩ ?_
 . obtain⟨D,E,P,X⟩:=H c x C
   exact⟨D,E,by simp[af.del,af.set,D,E,P,X]⟩
 rintro env al ⟨⟨g,h,Bz,xC,d⟩,F,H⟩;refine aa.U4 (λk s=>∃e σ',s=⟨e,σ',[],.told kd Z k0⟩/\(e 3=.cp (Ss A.fb A.mb w 0) 0/\e 4=.ref A.gb 0/\e 15=kS w.aF/\e 16=int w.aF.length/\e 17=int k)/\σ' A.fb=some .gT/\∀c x,σ c=some x->c≠A.fb/\c≠A.mb/\σ' c=some x) ⟨_,_,rfl,⟨g,h,Bz,xC,d⟩,F,H⟩ ?_ ?_
 . rintro r k _ hk ⟨env,σ',rfl,⟨g,h,Bz,xC,d⟩,F,H⟩ ih
   rw[J]at hk;have z:k<w.aF.length:=by omega
   have f:(k:Int)<w.aF.length:=by omega
   refine aa.runN lay [] 17 ?_;simp[g,h,Bz,xC,d,z,f];refine bM.intro λD av=>?_
   simp[g,h,Bz,xC,d,z,f];refine bM.intro λE N=>?_
   obtain⟨n1,n2,N⟩:=af.aP N;simp[g,h,Bz,xC,d,z,f,n1,n2,af.ai];change aa _ _ _ _ _ _ _ _ _;refine aa.runN lay [] 4 ?_;simp[g,h,Bz,xC,d,z,f,n1,n2,af.ai];change aa _ _ _ _ _ _ _ _ _;refine aa.bt 6 (b:=E) (ij w.aF[k]) (af.aj _ _ _) (by simp) rfl ?_;refine aa.bt 5 (b:=D) (int k) (by simp[af.del,af.set,n1,n2]) (by simp) rfl ?_;refine aa.Mc rfl (by rw[p];rfl) rfl (by simp) (by rw[p];exact Tryz.func100) rfl rfl (by simp[g,h,Bz,xC,d,z,f]) ?_;refine aa.runN lay [] 4 ?_;simp[g,h,Bz,xC,d,z,f];change aa _ _ _ _ _ _ _ _ _;have Q:A.n-(r+1)=k:=by omega
   have b1:A.fb≠D:=λe=>by simp_all
   have b2:A.fb≠E:=λe=>by simp_all
   have O:=hc.2 _ (zD z);refine aa.QF y (hold':=Q7) (first:=[]) (cap:=[.ref A.gb 0,.cp (Ss A.fb A.mb w 0) 0,.cp (ij w.aF[k]) 0,.cp (int k) 0]) rfl rfl rfl (by simp) (by simp[g,h,Bz,xC,d,z,f]) Tryz.func101 rfl rfl (by show(4:Nat)<=25;decide) (by simp[af.del,af.set,b1,b2,F]) (by kernel_rfl) (by rw[p];exact Tryz.func102) rfl rfl (by rw[K];exact Tryz.func105) rfl rfl (λk1=>?_) ?_
   . rw[Q]
     exact yH (λi hi=>N2 hi) ⟨rfl,rfl,Y,K,p,y⟩ (by omega) (λx=>by rw[L]) hl hw hn O.1 O.2 (by rw[G];simp[dB,z,Rd]) rfl
   have f1:-9223372036854775808<=(k:Int)+1/\(k:Int)+1<=9223372036854775807:=by omega
   refine aa.run lay [10] ?_;simp[g,h,Bz,xC,d,z,f,f1.1,f1.2];refine ih _ ⟨_,_,rfl,by simp[g,h,Bz,xC,d,z,f],by simp[af.del,af.set,b1,b2,F],λc x C=>?_⟩;obtain⟨x1,x2,x3⟩:=H c x C;have y1:c≠D:=λe=>by grind
   have y2:c≠E:=λe=>by grind
   exact⟨x1,x2,by simp[af.del,af.set,y1,y2,x3]⟩
 . rintro _ ⟨env,σ',rfl,⟨g,h,Bz,xC,d⟩,F,H⟩
   rw[J]at d;refine aa.runN lay [] 9 ?_;simp[g,h,Bz,xC,d];change aa _ _ _ _ _ _ _ _ _;refine aa.Mj y ((cE.bg (env.upd 18 (bool false)) (some 25) (.cq [])).upd 3 (.cp (uj A.fb A.mb w 0) 0)) rfl (by rw[p];rfl) rfl (by simp) (by rw[p];exact Tryz.func106) rfl rfl (by simp_all) F rfl M (λkk a7 t v R=>?_) λa ha=>?_
   . change V kk v (cE.bg (env.upd 18 (bool false)) (some 25) (.cq []) t)at R
     by_cases e:t=3
     . subst e
       rw[show(cE.bg (env.upd 18 (bool false)) (some 25) (.cq [])) 3=.cp (Ss A.fb A.mb w 0) 0 by simp[g]]at R;rw[show((cE.bg (env.upd 18 (bool false)) (some 25) (.cq [])).upd 3 (.cp (uj A.fb A.mb w 0) 0)) 3=.cp (uj A.fb A.mb w 0) 0 by simp];refine V.ZG rfl rfl (λu=>PR (l:=Xs A.mb w) (hole:=vP w.aF.length) rfl λj Q ax=>?_) R;by_cases hm:j∈vP w.aF.length
       . have ay:11<=j/\j<11+w.aF.length:=by
          have:=nY.1 hm
          simp_all
         refine .inr ⟨.int .i64 (dB w (j-11)),?_,rfl,?_⟩
         . have:=a7 (j-11) (by omega)
           rwa [G,show A.cell (j-11)=j by unfold bN.cell;omega]at this
         . have:j=11\/j=12\/j=13:=by omega
           rcases this with rfl|rfl|rfl<;>rfl
       . refine .inl ⟨hm,?_⟩
         have aC:j<15:=Q;have hz:∀i,w.aF.length<=i->int (dB w i)=int 0:=λi hi=>by rw[dB,abg hi]
         have aE:¬(11<=j/\j<11+w.aF.length):=λq=>hm (nY.2 (.inr (.inr q)))
         by_cases a8:j=11
         . subst a8;simp[hz 0 (by omega)]
         by_cases a9:j=12
         . subst a9;simp[hz 1 (by omega)]
         by_cases ab:j=13
         . subst ab;simp[hz 2 (by omega)]
         have:j=0\/j=1\/j=2\/j=3\/j=4\/j=5\/j=6\/j=7\/j=8\/j=9\/j=10\/j=14:=by omega
         rcases this with rfl|rfl|rfl|rfl|rfl|rfl|rfl|rfl|rfl|rfl|rfl|rfl<;>rfl
     . simpa[Env.upd,e]using R
   . rw[L]at ha
     subst ha;refine aa.run lay [10] ?_;simp[g,h,Bz,xC,d];refine .less (σ':=(σ.set A.mb (m8 (pT .u8) [])).set A.fb (.part (bH 9))) ?_ (.done (hK _ _ _ ⟨I,Cy,fm,rfl⟩));intro c x C;by_cases c1:c=A.fb
     . simp_all
     by_cases c2:c=A.mb
     . subst c2
       rw[af.ai _ _ c1,af.aj]at C;rw[af.ai _ _ c1,af.aj];exact C
     rw[af.ai _ _ c1,af.ai _ _ c2]at C ⊢
     simp_all
def eY(w:fP)(cz a aF:acX):Int:=if ns w=0 then(if cz.all (bz · 0 72)=false then 1 else if a.all (bz · 0 (w.fair.aD.length-1))=false then 3 else if aF.all (bz · 0 (w.aF.length-1))=false then 3 else 0)else ns w
theorem qz{α}  g :∀{l:List α},fQ g l=0->∀x∈l,g x=0
 |[],_,x,hx=>by simp at hx
 | a ::l,h,x,hx=>by
   unfold fQ at h;split at h
   . next e=>
     rcases aaD.1 hx with rfl|hx
     . exact e
     . exact qz g h x hx
   omega
theorem J7{t x}(h:qx t x=0):tT t x:=by
 unfold qx at h;split at h
 . cases h
 next a=>
 split at h
 . cases h
 next b=>
 split at h
 . cases h
 split at h
 . cases h
 next c=>
 split at h
 . cases h
 next d=>
 split at h
 . cases h
 next e=>
 have f:=dE (by simpa using a);have g:=dE (by simpa using b);have i:=dE (by simpa using c);have j:=dE (by simpa using d);have k:=dE (by simpa using e);unfold tT;omega
structure fP.Valid(w:fP):Prop where
 zF:w.qy
 bf:1<=w.bf/\w.bf<=4
 way:∀x∈w.ways,tT w.bf x
 few:w.ways.length<=6
 GD:yI w
 late:∀c∈w.aF,c.lost.hour<=c.hour
 px:w.fair.aD.length+w.aF.length<=6
 some:aI (jf w) []≠[]
theorem fP.valid{w}(d:w.qy)(h:ns w=0):w.Valid:=by
 unfold ns at h;split at h
 . cases h
 next f=>
 split at h
 . cases h
 next o=>
 split at h
 . omega
 next p=>
 split at h
 . cases h
 next q=>
 split at h
 . omega
 next g=>
 split at h
 . cases h
 next r=>
 split at h
 . cases h
 next i=>
 have j:=dE (a:=w.bf) (by simpa using f)
 have e:w.fair.aD.length+w.aF.length<=6:=by omega
 have b:∀c∈w.aF,((0<=c.town/\c.town<w.bf)/\0<=c.hour/\c.hour<=72)/\c.lost.hour<=c.hour:=λc b=>by
  have:=qz _ (by simpa using g) c b
  unfold zE at this;split at this
  . cases this
  next k=>
  split at this
  . cases this
  next l=>
  split at this
  . cases this
  next s=>
  have t:=dE (by simpa using k)
  have u:=dE (by simpa using l)
  omega
 have m:=jT d e;have v:ib (jf w)≠0:=i;refine⟨d,j,λx n=>J7 (qz _ (by omega) x n),by omega,⟨by omega,λc h=>(b c h).1⟩,λc h=>(b c h).2,e,(AF m).1 ?_⟩
 have:0<=ib (jf w):=by unfold ib;omega
 omega
theorem GF  p  (l:acX){i}  h :(l.drop i).all p=(p l[i] && (l.drop (i+1)).all p):=by rw[aaM h,aaX]
theorem kz{w}(A:m.solo=true)(y:w.qy){cz a aF}(D:cz.length<1000000/\a.length<1000000/\aF.length<1000000)
 (f:eY w cz a aF≠0->KF (.val (.cq [.lit (.pointer none),int (eY w cz a aF)])) σ)
 (r:eY w cz a aF=0->∀σ' fb mb,J6 σ fb mb w σ'->KF (.val (.cq [uj fb mb w 0,int 0])) σ'):aA prog m 41 [dA w,ints cz,ints a,ints aF] σ KF:=by
 unfold eY at f r;refine fs [] Tryz.func41 rfl (by kernel_rfl) ?_;simp[Tryz.f41];refine cf Tryz.func75 rfl (GC A y ?_);apply rn;simp;apply aH.intro<;>intro t<;>simp at t<;>simp[t]
 . simp[t]at f
   exact .done f
 have v:=fP.valid y t;have z:=y.ways;have E:=v.px;simp only[t,aan]at f r;refine aa.loop cz.length (λk s=>∃env,s=⟨env,σ,[],.no⟩/\env 2=ints a/\env 3=ints aF/\env 4=.cp (dA w) 0/\env 22=ints cz/\env 23=int cz.length/\env 24=int k/\cz.all (bz · 0 72)=(cz.drop k).all (bz · 0 72)) ⟨_,rfl,by simp⟩ ?_;rintro F k _ x ⟨env,rfl,B,C,q,wy,Ku,wA,b⟩ u;apply rn;simp[Ku,wA];apply aH.intro<;>intro h<;>simp at h<;>simp[B,C,wy,wA,h]
 . rw[GF _ _ h]at b
   refine cf Tryz.func76 rfl (eo ?_);apply rn;simp;refine aH.intro (λd=>?_) (λd=>?_)<;>(try simp at d)<;>(try simp[wA,d])
   . rw[d,Bool.true_and]at b
     refine⟨by omega,u _ (by omega) ⟨_,rfl,?_,?_,?_,?_,?_,?_,b⟩⟩<;>simp[B,C,q,wy,Ku]
   . simp[b,d]at f
     exact .done f
 have ek:k=cz.length:=by omega
 subst ek;rw[abV,List.all_nil]at b;simp only[b,abI,Rp]at f r;refine aa.uT ?_;apply rn;simp;refine aa.loop a.length (λk s=>∃env,s=⟨env,σ,[],.no⟩/\env 4=.cp (dA w) 0/\env 34=.sl 1 [ints a,ints aF] .exact/\env 35=int 2/\env 36=int 0/\env 13=int 0/\env 41=ints a/\env 42=int a.length/\env 43=int k/\a.all (bz · 0 (w.fair.aD.length-1))=(a.drop k).all (bz · 0 (w.fair.aD.length-1))) ⟨_,rfl,by simp[q]⟩ ?_;rintro G k _ x ⟨env,rfl,q,i,g,j,n,o,p,e,b⟩ u;refine aa.runN lay [] 25 ?_;simp[p,e];apply aH.intro<;>intro h<;>simp at h<;>simp[q,j,o,e,h]
 . rw[GF _ _ h]at b
   refine aa.op rfl (bZ rfl) (by simp) (λc=>by simp) (qf lay rfl Q5 rfl rp (l:=[int w.fair.aD.length,int w.aF.length]) (by simp) (by simp[kN,aK]) ?_);apply rn;simp[n];refine⟨by omega,?_⟩;refine cf Tryz.func76 rfl (eo ?_);apply rn;simp;refine aH.intro (λd=>?_) (λd=>?_)<;>(try simp at d)<;>(try simp[e,d])
   . rw[d,Bool.true_and]at b
     refine⟨by omega,u _ (by omega) ⟨_,rfl,?_,?_,?_,?_,?_,?_,?_,?_,b⟩⟩<;>simp[q,i,g,j,n,o,p]
   . rw[d,Bool.false_and]at b
     simp only[b,aan]at f;exact .done (f (by decide))
 have ek:k=a.length:=by omega
 subst ek;rw[abV,List.all_nil]at b;simp only[b,abI,Rp]at f r;refine aa.again (by kernel_rfl) ?_;apply rn;simp[i,g];refine aa.loop aF.length (λk s=>∃env,s=⟨env,σ,[],.no⟩/\env 4=.cp (dA w) 0/\env 34=.sl 1 [ints a,ints aF] .exact/\env 35=int 2/\env 36=int 1/\env 13=int 1/\env 41=ints aF/\env 42=int aF.length/\env 43=int k/\aF.all (bz · 0 (w.aF.length-1))=(aF.drop k).all (bz · 0 (w.aF.length-1))) ⟨_,rfl,by simp[q,i,g]⟩ ?_;rintro H k _ x ⟨env,rfl,q,i,g,j,n,o,p,e,b⟩ u;refine aa.runN lay [] 25 ?_;simp[p,e];apply aH.intro<;>intro h<;>simp at h<;>simp[q,j,o,e,h]
 . rw[GF _ _ h]at b
   refine aa.op rfl (bZ rfl) (by simp) (λc=>by simp) (qf lay rfl Q5 rfl rp (l:=[int w.fair.aD.length,int w.aF.length]) (by simp) (by simp[kN,aK]) ?_);apply rn;simp[n];refine⟨by omega,?_⟩;refine cf Tryz.func76 rfl (eo ?_);apply rn;simp;refine aH.intro (λd=>?_) (λd=>?_)<;>(try simp at d)<;>(try simp[e,d])
   . rw[d,Bool.true_and]at b
     refine⟨by omega,u _ (by omega) ⟨_,rfl,?_,?_,?_,?_,?_,?_,?_,?_,b⟩⟩<;>simp[q,i,g,j,n,o,p]
   . rw[d,Bool.false_and]at b
     simp only[b,aan]at f;exact .done (f (by decide))
 have ek:k=aF.length:=by omega
 subst ek;rw[abV,List.all_nil]at b;simp only[b,abI,Rp]at f r;refine aa.again (by kernel_rfl) ?_;apply rn;simp[q,g];refine cf Tryz.func73 rfl (tW A z v.way v.bf v.GD λσ' fb mb x=>?_);apply rn;simp;exact .done (r trivial σ' fb mb x)
end
section
open Go Go.cE Go.Conc
open Go.Extern
variable{m:Mo}{σ:af}{KF:acJ}
abbrev VO(t:Nat):Value:=.pointer (some ⟨1,t,none⟩)
abbrev VP(t:Nat):AV:=.lE 197 (.agg [.lit (VO t)])
theorem vQ{P}{t f:Nat}{name a a'}(h:∀k v,V k v a->∃r,eS P (Go.method (P.types.size+Made.depth) t v name)=some (f,r)/\V k r a'):oy P t name f a a':=λk O v K g b c=>by obtain⟨r,d,e⟩:=h k v b;exact oU _ d (c r e)
theorem J8{t f:Nat}{name}(h:∀h,eS prog (Go.method (prog.types.size+Made.depth) 197 (.agg #[h]) name)=some (f,.agg #[h])):oy prog 197 name f (.agg [.lit (VO t)]) (.agg [.lit (VO t)]):=vQ λk v a=>by
 obtain⟨x,rfl,_⟩:=F3.1 a
 simp_all
theorem Sv  k   t :V k (.iface 197 (.agg #[VO t])) (VP t):=Q4.2 ⟨_,rfl,F3.2 ⟨_,rfl,.lit _⟩⟩
abbrev AM:AV:=.lE 93 (.agg [])
theorem N4(h:KF (.val (bool false)) σ):aA prog m 43 [.lit .nilIface,AM] σ KF:=by
 refine fs [] Tryz.func43 rfl (by kernel_rfl) ?_;simp[Tryz.f43];refine dT lay rfl I7 rfl (.inl ⟨rfl,rfl⟩) (.inl ⟨rfl,rfl⟩) ?_;apply rn;simp;refine oV (vx:=.nilIface) (vy:=.iface 93 (.agg #[])) (r:=.bool false) rfl (λk v a=>by simpa using Aq.1 a) (λk v a=>V.PU (by simpa using a)) (by kernel_rfl) ?_;apply rn;simp;exact .done h
theorem N5  h :eS prog (Go.method (prog.types.size+Made.depth) 197 (.agg #[h])  "Comparable")=some (229,.agg #[h]):=by kernel_rfl
theorem Qk(h:KF (.val (bool true)) σ):aA prog m 78 [AM,AM,bool true] σ KF:=by
 refine fs [] Tryz.func78 rfl (by kernel_rfl) ?_;simp[Tryz.f78];refine aa.uT ?_;apply rn;simp;refine oV (vx:=.iface 93 (.agg #[])) (vy:=.iface 93 (.agg #[])) (r:=.bool true) rfl (λk v a=>V.PU (by simpa using a)) (λk v a=>V.PU (by simpa using a)) (by kernel_rfl) ?_;apply rn;simp;exact .done h
theorem HZ(h:KF (.val (bool true)) σ):aA prog m 43 [AM,AM] σ KF:=by
 refine fs [] Tryz.func43 rfl (by kernel_rfl) ?_;simp[Tryz.f43];refine dT lay rfl I7 rfl (.inr ⟨⟨_,_,rfl⟩,rfl⟩) (.inl ⟨rfl,rfl⟩) ?_;apply rn;simp;refine dT lay rfl I7 rfl (.inr ⟨⟨_,_,rfl⟩,rfl⟩) (.inl ⟨rfl,rfl⟩) ?_;apply rn;simp;refine bK.ext Tryz.func77 rfl rfl (by kernel_rfl) (e:=ReflectliteType.typeOf) (by kernel_rfl) (vJ.pure (v:=.iface 197 (.agg #[VO 93])) (a:=VP 93) (λk f d=>?_) (λk=>Sv k _) ?_)
 . obtain⟨v,b,c⟩:=d.one
   subst b;rw[V.PU c]
   kernel_rfl
 apply rn;simp;refine aa.PT rfl rfl (bZ rfl) (by simp) rfl (J8 N5) Tryz.func229 rfl rfl (by kernel_rfl) (e:=ReflectliteType.method λt=>do Rtype.noPackHeld  "Comparable" t;pure (.bool (<-typeInfo t).comparable)) (by kernel_rfl) (vJ.pure (v:=.bool true) (a:=bool true) (λk f d=>?_) (λk=>.lit _) ?_)
 . obtain⟨v,b,c⟩:=d.one
   subst b;obtain⟨u,rfl,g⟩:=F3.1 c;rw[Aq.1 g]
   kernel_rfl
 apply rn;simp;refine cf Tryz.func78 rfl (Qk ?_);apply rn;simp;exact .done h
theorem qA{w fb mb c}(b:c<3)(h:if 72<dB w c then KF (.val (.cq [int 0,AM])) σ else KF (.val (.cq [int (dB w c),.lit .nilIface])) σ):aA prog m 42 [uj fb mb w 0,int c] σ KF:=by
 have:c=0\/c=1\/c=2:=by omega
 rcases this with rfl|rfl|rfl
 all_goals
  refine fs [] Tryz.func42 rfl (by kernel_rfl) ?_;simp[Tryz.f42];refine aH.intro (λa=>?_) (λa=>?_)<;>(try simp[-Int.not_lt,-Int.not_le]at a)<;>(try simp[a]at h)<;>(try simp[a])<;>(try exact .done h)
 all_goals exact .done h
def pE(w:fP)(h:Int)(i:Int):Bool:=decide ((aS w.fair i).hour<=h)
def pC(w:fP)(h:Int)(i:Int):Bool:=decide (dB w i.toNat<=72) && decide (dB w i.toNat<=h)
def dR(w:fP)(h:Int):acX:=(pI w.fair.aD.length).filter (pE w h)
def de(w:fP)(h:Int):acX:=(pI w.aF.length).filter (pC w h)
abbrev GG(w:fP)(h:Int):AV:=.agg [u8 (aT (dR w h)),u8 (aT (de w h))]
theorem tX  k   p :(pI (k+1)).filter p=(pI k).filter p++if p k then[(k:Int)]else[]:=by
 unfold pI;rw[aaz,aax,abt]
 grind
theorem nu  l   n :aT (l++[n])=bV (aT l) n:=by
 unfold aT
 simp_all
namespace CK
abbrev Xt:acO:=[⟨6,.take [0,1,2,3,4,5] true (.one 6 (.done))⟩,⟨13,.take [0,3,6] false (.both 1 (.one 2 (.take [4,5] true (.one 7 (.done)))) (.one 2 (.take [1,4,5] true (.one 7 (.done)))))⟩]
theorem AN{w fb mb h}(H:w.fair.aD.length<=6)(I:w.aF.length<=3)(z:KF (.val (GG w h)) σ):aA prog m 49 [uj fb mb w 0,int h] σ KF:=by
 refine fs Xt Tryz.func49 rfl (by kernel_rfl) ?_
 simp[Tryz.f49];refine bM.intro λb hb=>?_
 simp;refine bM.intro λd hd=>?_
 obtain⟨J,A,hd⟩:=af.aP hd;simp;refine aa.loop w.fair.aD.length (λk s=>∃env,s=⟨env,(σ.set b (.cells [u8 0,u8 0])).set d (.cells [u8 (aT ((pI k).filter (pE w h))),u8 0]),[],.no⟩/\env 0=uj fb mb w 0/\env 1=int h/\env 4=.ref b 0/\env 5=.ref d 0/\env 16=jC w.fair.aD/\env 17=int w.fair.aD.length/\env 18=int k) ⟨_,rfl,by simp⟩ ?_
 rintro K k _ B ⟨env,rfl,i,j,n,g,xC,o,ui⟩ p
 refine aa.runN lay [] 17 ?_;simp[o,ui];apply aH.intro<;>intro r<;>simp at r<;>simp[i,xC,ui,r]
 . have C:aS w.fair k=w.fair.aD[k]:=by simp[aS,r]
   refine bM.intro λq D=>?_
   obtain⟨L,M,E⟩:=af.aP D;obtain⟨N,O,P⟩:=af.aP E;simp
   change aa _ _ _ _ _ _ _ _ _
   refine aa.runN lay [] 2 ?_;simp
   change aa _ _ _ _ _ _ _ _ _
   refine aa.bt 7 (b:=q) (bx w.fair.aD[k]) (af.aj _ _ _) (by simp) rfl ?_
   rw[ew (by omega)]
   apply rn;simp[j];have a:=tX k (pE w h);have t:pE w h k=decide (w.fair.aD[k].hour<=h):=by unfold pE;rw[C]
   apply aH.intro<;>intro u<;>simp at u<;>simp[g,ui,u,tE]
   . rw[t,show decide (w.fair.aD[k].hour<=h)=true by grind,aal rfl]at a
     apply rn;simp[ui];refine⟨by omega,p _ (by omega) ⟨_,by rw[a,nu];rfl,by simp[i,j,n,g,xC,o]⟩⟩
   . rw[t,show decide (w.fair.aD[k].hour<=h)=false by grind,aaj (by simp),aaV]at a
     refine⟨by omega,p _ (by omega) ⟨_,by rw[a],by simp[i,j,n,g,xC,o]⟩⟩
 have ek:k=w.fair.aD.length:=by omega
 subst ek;rw[show(pI w.fair.aD.length).filter (pE w h)=dR w h from rfl]
 apply rn;simp;refine aa.loop w.aF.length (λk s=>∃env,s=⟨env,(σ.set b (.cells [u8 0,u8 0])).set d (.cells [u8 (aT (dR w h)),u8 (aT ((pI k).filter (pC w h)))]),[],.no⟩/\env 0=uj fb mb w 0/\env 1=int h/\env 4=.ref b 0/\env 5=.ref d 0/\env 39=int w.aF.length/\env 40=int k) ⟨_,rfl,by simp[i,j,n,g]⟩ ?_
 rintro v k _ B ⟨env,rfl,i,j,n,g,l,f⟩ p
 apply rn;simp[l,f];apply aH.intro<;>intro r<;>simp at r<;>simp[i,n,g,f,r,A,af.ai]
 . have a:=tX k (pC w h)
   have t:pC w h k=(decide (dB w k<=72) && decide (dB w k<=h)):=rfl;refine cf Tryz.func42 rfl (qA (by omega) ?_)
   split
   . next u=>
     apply rn;simp;refine cf Tryz.func43 rfl (HZ ?_);apply rn;simp[f];rw[t,show decide (dB w k<=72)=false by simp;omega,Bool.false_and,aaj (by simp),aaV]at a
     refine⟨by omega,p _ (by omega) ⟨_,by rw[a],by simp[i,j,n,g,l]⟩⟩
   . next u=>
     apply rn;simp;refine cf Tryz.func43 rfl (N4 ?_);apply rn;simp[j];rw[t,show decide (dB w k<=72)=true by simp;omega,Bool.true_and]at a
     apply aH.intro<;>intro y<;>simp at y<;>simp[g,f,y]
     . rw[show decide (dB w k<=h)=true by grind,aal rfl]at a
       have:k=0\/k=1\/k=2:=by omega
       refine⟨?_,?_⟩
       all_goals
        refine cf Tryz.func87 rfl (NY ?_)
        rcases this with rfl|rfl|rfl
       all_goals
        apply pg;simp[tE];apply rn;simp[f]
       all_goals exact p _ (by omega) ⟨_,by rw[a,nu];rfl,by simp[i,j,n,g,l]⟩
     . rw[show decide (dB w k<=h)=false by grind,aaj (by simp),aaV]at a
       refine⟨by omega,p _ (by omega) ⟨_,by rw[a],by simp[i,j,n,g,l]⟩⟩
 . have ek:k=w.aF.length:=by omega
   subst ek;rw[show(pI w.aF.length).filter (pC w h)=de w h from rfl]
   refine .less (λc x F=>?_) (.done z)
   have v:c≠b:=λe=>by grind
   have G:c≠d:=λe=>by grind
   rw[af.ai _ _ v,af.ai _ _ G,af.ai _ _ v];exact F
end CK
theorem qB{b o l n}(a:σ b=some (.cells l))(c:l[o]?=some (.lit (.int .u32 n)))(h:KF (.val (bool (n !=0))) σ):aA prog m 151 [.ref b o] σ KF:=by
 refine fs [] Tryz.func151 rfl (by kernel_rfl) ?_;simp[Tryz.f151];refine bK.ext Tryz.func184 rfl rfl (by kernel_rfl) (e:=Atomic.loadT (.int .u32)) (by kernel_rfl) (F4 (oT b o) a c ?_);apply rn;simp;exact .done h
theorem Sw(h:KF (.val (.lit (.int .u32 1))) σ):aA prog m 200 [bool true] σ KF:=by
 refine fs [] Tryz.func200 rfl (by kernel_rfl) ?_;simp[Tryz.f200];exact .done h
theorem Ci{b o l}(a:σ b=some (.cells l))(c:o<l.length)(h:KF (.val (.cq [])) (σ.set b (.cells (l.set o (.lit (.int .u32 1)))))):aA prog m 185 [.ref b o,bool true] σ KF:=by
 refine fs Vy Tryz.func185 rfl (by kernel_rfl) ?_;simp[Tryz.f185];refine cf Tryz.func200 rfl (Sw ?_);apply pg;simp;refine bK.ext Tryz.func199 rfl rfl (by kernel_rfl) (e:=Atomic.storeT) (by kernel_rfl) (DW (oT b o) a c ?_);apply pg;simp;apply rn;simp;exact .done h
theorem ED{b l f}(a:σ b=some (.cells l))(c:l[0]?=some (.lit (.int .u32 1)))(h:KF (.val (.cq [])) σ):aA prog m 113 [.ref b 0,f] σ KF:=by
 refine fs [] Tryz.func113 rfl (by kernel_rfl) ?_;simp[Tryz.f113];refine cf Tryz.func151 rfl (qB a c ?_);apply rn;simp;exact .done h
theorem EE(d:m.solo=true){b l f}(c:σ b=some (.cells l))(p:l[0]?=some (.lit (.int .u32 0)))(e:l[1]?=some (.lit (.int .i32 0)))(g:l[2]?=some (.lit (.int .u32 0)))
 (h:∀K ,(∀σ' a,σ' b=some (.cells a)->a[0]?=some (.lit (.int .u32 0))->a[1]?=some (.lit (.int .i32 1))->a[2]?=some (.lit (.int .u32 0))->KF (.val (.cq [])) (σ'.set b (.cells ((a.set 0 (.lit (.int .u32 1))).set 1 (.lit (.int .i32 0)))))->K (.val (.cq [])) σ')->bK prog m f [] (σ.set b (.cells (l.set 1 (.lit (.int .i32 1))))) K):
 aA prog m 152 [.ref b 0,f] σ KF:=by
 refine fs [] Tryz.func152 rfl (by kernel_rfl) ?_;simp[Tryz.f152];refine cf Tryz.func104 rfl (FT Ax Ay N1 d (oT b 1) c e g ?_);apply rn;simp;refine aa.defer rfl rfl rfl rfl (by simp) rfl ?_;apply rn;simp;have i:(σ.set b (.cells (l.set 1 (.lit (.int .i32 1))))) b=some (.cells (l.set 1 (.lit (.int .i32 1)))):=af.aj _ _ _;have j:(l.set 1 (.lit (.int .i32 1)))[0]?=some (.lit (.int .u32 0)):=by simp_all
 refine cf Tryz.func151 rfl (qB i j ?_);apply rn;simp;refine aa.defer rfl rfl rfl rfl (by simp) rfl ?_;apply rn;simp;refine h _ λσ' a k n q r o=>?_
 apply rn;simp;refine rv.func Tryz.func185 rfl rfl (Ci k (aau.1 n).1 ?_);refine rv.func Tryz.func105 rfl rfl (BX Ax Ay N1 d (oT b 1) (af.aj _ _ _) (by simp_all) (by simp_all) ?_);rw[af.set_set];exact⟨[],rfl,.done o⟩
theorem Cj(e:m.solo=true){b l f}(c:σ b=some (.cells l))(d:l[0]?=some (.lit (.int .u32 0)))(g:l[1]?=some (.lit (.int .i32 0)))(h:l[2]?=some (.lit (.int .u32 0)))
 (i:∀K ,(∀σ' a,σ' b=some (.cells a)->a[0]?=some (.lit (.int .u32 0))->a[1]?=some (.lit (.int .i32 1))->a[2]?=some (.lit (.int .u32 0))->KF (.val (.cq [])) (σ'.set b (.cells ((a.set 0 (.lit (.int .u32 1))).set 1 (.lit (.int .i32 0)))))->K (.val (.cq [])) σ')->bK prog m f [] (σ.set b (.cells (l.set 1 (.lit (.int .i32 1))))) K):
 aA prog m 113 [.ref b 0,f] σ KF:=by
 refine aA.thaw ?_;refine fs [] Tryz.func113 rfl (by kernel_rfl) ?_;simp[Tryz.f113];refine cf Tryz.func151 rfl (qB c d ?_);apply rn;simp;refine cf Tryz.func152 rfl (EE e c d g h λK j=>i K λσ' a k n o p q=>j σ' a k n o p ?_);apply rn;simp;exact .done (.done q)
end
section
open Go Go.cE Go.Conc
variable{m:Mo}{σ:af}{KF:acJ}
def Ck(w:fP)(c:Int):OR:=w.aF.getD c.toNat ⟨⟨0,0,0,[],0,0⟩,0,0⟩
abbrev dg(w:fP)(es cs:acX):Fr:={w.fair with aD:=es.map (aS w.fair)++cs.map λc=>(Ck w c).lost}
abbrev H2(f:Fr):ade:=[rows f.roads,int f.aU,int f.eT,int f.cP,int f.aR]
abbrev GH:ade:=[.lit (.slice none 0 0),.lit (.slice none 0 0),int 0,int 0,int 0,int 0]
theorem N6{a a' l}(h:a.W a'):(AV.agg (a::l)).W (.agg (a'::l)):=qm rfl λi x y c b=>by
 cases i with
 |zero=>simp_all
 |succ i=>simp at c b;rw[c]at b;cases b;exact .refl _
namespace CF
abbrev Xu:acO:=[⟨6,.take [0,2,3,4,5,6,7,8,9,10,13] false (.both 1 (.one 11 (.one 12 (.one 14 (.done)))) (.one 11 (.take [1] true (.one 12 (.one 14 (.done))))))⟩,⟨11,.take [1,2,3,4,5,6,7,8,9] false (.both 0 (.one 10 (.one 11 (.one 12 (.done)))) (.one 10 (.take [0] true (.one 11 (.one 12 (.done))))))⟩]
theorem EF{w fb mb x y}(U:∀i∈aB x,0<=i/\i<w.fair.aD.length)(V:∀i∈aB y,0<=i/\i<w.aF.length)(h:KF (.val (cy (dg w (aB x) (aB y)))) σ):aA prog m 59 [uj fb mb w 0,.agg [u8 x,u8 y]] σ KF:=by
 have X:=l8 x;have Y:=l8 y;refine fs Xu Tryz.func59 rfl (by kernel_rfl) ?_
 simp[Tryz.f59];refine bM.intro λb hb=>?_
 simp;refine bM.intro λd l=>?_
 obtain⟨n1,n2,hd⟩:=af.aP l;simp;refine cf Tryz.func50 rfl (mX ?_);apply rn;simp
 refine aa.loop (aB x).length (λk s=>∃env f a,s=⟨env,f,[],.no⟩/\env 0=uj fb mb w 0/\env 3=.cp (.agg [u8 x,u8 y]) 0/\env 4=.ref b 0/\env 5=.ref d 0/\env 18=ints (aB x)/\env 19=int (aB x).length/\env 20=int k/\f d=some (.cells (a::H2 w.fair))/\Tok (σ.set b (.cells GH)) f a 6 (((aB x).take k).map λi=>bx (aS w.fair i))) ⟨_,_,_,rfl,by simp,by simp,by simp,by simp,by simp,by simp,by simp,af.aj _ _ _,(Tok.nil _ _).beside l (by simp[br])⟩ ?_
 rintro c0 k _ Z ⟨env,f,a,rfl,E,S,F,n,ui,Pd,zk,p,g⟩ K
 have L:=g.cells;apply rn;simp[Pd,zk];apply aH.intro<;>intro o<;>simp at o<;>simp[E,S,n,ui,zk,o]
 . obtain⟨i,r⟩:∃i,(aB x)[k]=i:=⟨_,rfl⟩
   have t:=U i (r ▸ zD o);have j:i.toNat<w.fair.aD.length:=by omega
   have M:aS w.fair i=w.fair.aD[i.toNat]:=by simp[aS,j]
   simp only[r];have u:w.fair.aD[i.toNat]?=some w.fair.aD[i.toNat]:=zR j;refine⟨t.1,?_⟩;simp[n,p,u]
   have N:((aB x).take (k+1)).map (λi=>bx (aS w.fair i))=((aB x).take k).map (λi=>bx (aS w.fair i))++[bx w.fair.aD[i.toNat]]:=by rw[zG o,aax,r,<-M];rfl
   have O:br a≠some d:=λe=>by obtain⟨_,_,q⟩:=g.aY e;simp_all
   refine⟨?_,?_⟩
   all_goals
    refine aN lay rfl rfl rfl nk rfl nk rfl zw (by decide) (by simp only[aaC,abk,aaI,abi];omega) (σ0:=f.off a) (es:=((aB x).take k).map λi=>bx (aS w.fair i)) (xs:=[bx w.fair.aD[i.toNat]]) (by simpa using g.here.1) (.inr ⟨_,by simp;rfl⟩) λa' P A=>?_
    have G:=A.cells;have T:P d=some (.cells (a::H2 w.fair)):=A.1 _ _ (by rw[af.dP O];exact p)
    have B:=A.base g.here.2;rw[<-N]at B;apply pg;simp[T,G.1,G.2,aK];apply rn;simp[zk];refine⟨by omega,K _ (by omega) ⟨_,_,a',rfl,by simp[E],by simp[S],by simp[F],by simp[n],by simp[ui],by simp[Pd],by simp,af.aj _ _ _,B.beside l (λe=>by obtain⟨_,_,q⟩:=B.aY e;rw[T]at q;cases q)⟩⟩
 . have ek:k=(aB x).length:=by omega
   subst ek;rw[aav]at g;refine cf Tryz.func50 rfl (mX ?_);apply rn;simp
   have H:a.W (jC ((aB x).map (aS w.fair)++(((aB y).take 0).map λc=>(Ck w c).lost))):=by simp only[List.take_zero,List.map_nil,aaV];have:=g.W;show a.W (.sl 6 (((aB x).map (aS w.fair)).map bx) .any);rw[List.map_map];exact this
   refine aa.loop (aB y).length (λk s=>∃env f z,s=⟨env,f,[],.no⟩/\env 0=uj fb mb w 0/\env 4=.ref b 0/\env 5=.ref d 0/\env 41=ints (aB y)/\env 42=int (aB y).length/\env 43=int k/\f d=some (.cells (z::H2 w.fair))/\(z.cells=[z]/\z.flat=true)/\z.W (jC ((aB x).map (aS w.fair)++(((aB y).take k).map λc=>(Ck w c).lost)))/\(σ.set b (.cells GH)).Le f) ⟨_,_,a,rfl,by simp[E],by simp[F],by simp[n],by simp,by simp,by simp,p,L,H,g.1⟩ ?_
   rintro Q k _ Z ⟨env,f,z,rfl,E,F,n,I,J,C,p,R,H,D⟩ K
   have qb:f b=some (.cells GH):=D _ _ (af.aj _ _ _);apply rn;simp[J,C];apply aH.intro<;>intro o<;>simp at o<;>simp[E,F,n,I,C,p,qb,R.2,o,aK]
   . obtain⟨i,r⟩:∃i,(aB y)[k]=i:=⟨_,rfl⟩
     have t:=V i (r ▸ zD o);have j:i.toNat<w.aF.length:=by omega
     have M:Ck w i=w.aF[i.toNat]:=by simp[Ck,j]
     simp only[r];have u:w.aF[i.toNat]?=some w.aF[i.toNat]:=zR j;refine⟨t.1,?_⟩;simp[n,p,u]
     have N:((aB y).take (k+1)).map (λc=>(Ck w c).lost)=((aB y).take k).map (λc=>(Ck w c).lost)++[w.aF[i.toNat].lost]:=by rw[zG o,aax,r,<-M];rfl
     have hW:Wl [AV.agg (z::H2 w.fair),.sl 6 [bx w.aF[i.toNat].lost] .exact] [cy (dg w (aB x) ((aB y).take k)),jC [w.aF[i.toNat].lost]]:=.cons (N6 H) (.cons (fS _ _ _) .nil);refine⟨?_,?_⟩
     all_goals
      refine bS Tryz.func97 rfl rfl hW (EC (by simp only[aas,aaC,abk,aaI,abi];omega) ?_)
      rw[abv,<-N];apply pg;simp[n,p];apply rn;simp[C];refine⟨by omega,K _ (by omega) ⟨_,_,_,rfl,by simp[E],by simp[F],by simp[n],by simp[I],by simp[J],by simp,af.aj _ _ _,⟨rfl,rfl⟩,by simp only[List.map_take];exact .refl _,af.fj D l⟩⟩
   . have ek:k=(aB y).length:=by omega
     subst ek;rw[aav]at H;refine .pD (N6 H) (.less (λc v hv=>?_) (.done h))
     have Q:c≠b:=λe=>by grind
     rw[af.ai _ _ Q];exact D _ _ (by rw[af.ai _ _ Q];exact hv)
end CF
def nZ(f:Fr)(x y:Int):Int:=ia (((aI f []).filter (il x y)).length:Int) (aI f []).length
def AO(n:Int):Nat:=if n=1 then 98 else if n=3 then 241 else 167
abbrev yJ(n:Int):AV:=.lE (AO n) (.agg [])
def tY(n:Int):AV:=if n=0 then .lit .nilIface else yJ n
def wj(f:Fr)(es cs:acX)(x:Nat)(N:acX):acX:=(List.range cs.length).foldl (λN y=>N.set (3*(es.getD x 0).toNat+(cs.getD y 0).toNat) (nZ f x ((es.length:Int)+y))) N
def AP(f:Fr)(es cs:acX):acX:=(List.range es.length).foldl (λN x=>wj f es cs x N) (List.replicate 18 0)
abbrev vR(a b:Int)(N:acX):ade:=[.lit (.int .u32 a),.lit (.int .i32 b),.lit (.int .u32 0)]++N.map tY
theorem N7  f   x y :nZ f x y≠0:=by unfold nZ ia;omega
theorem jz{σ:af}{b x}(h:σ b=some x):σ.set b x=σ:=by
 funext c;by_cases e:c=b
 . simp_all
 . simp[af.set,e]
theorem N8  f   es cs   x   N :(wj f es cs x N).length=N.length:=by
 have key:∀(l:acY) (N:acX),(l.foldl (λN y=>N.set (3*(es.getD x 0).toNat+(cs.getD y 0).toNat) (nZ f x ((es.length:Int)+y))) N).length=N.length:=λl=>by
  induction l with
  |nil=>simp_all
  |cons a l b=>simp_all
 exact key _ N
theorem EG{a b c}{N:acX}{i j n}(d:3*i+j<N.length)(f:n≠0):aK (a::b::c::N.map tY) (3+i*3+j) [yJ n]=a::b::c::(N.set (3*i+j) n).map tY:=by
 have e:3+i*3+j=3*i+j+1+1+1:=by omega
 rw[e];generalize 3*i+j=p at d ⊢;unfold aK;simp only[List.take_succ_cons,aaI,abi,abx,List.drop_succ_cons,List.cons_append];rw[ace,List.set_eq_take_append_cons_drop,aal (by simp_all)];simp[tY,f]
theorem N9(Q:m.solo=true){w fb mb bk x y}(K:∀i∈aB x,0<=i/\i<w.fair.aD.length)(L:∀i∈aB y,0<=i/\i<w.aF.length)(D:(dg w (aB x) (aB y)).Good)(R:aI (dg w (aB x) (aB y)) []≠[])(h6:w.fair.aD.length<=6/\w.aF.length<=3)
 (hb:σ bk=some (.cells (vR 0 1 (List.replicate 18 0)))) (h:KF (.val (.cq [])) (σ.set bk (.cells (vR 0 1 (AP (dg w (aB x) (aB y)) (aB x) (aB y)))))):
 aA prog m 114 [.cp (uj fb mb w 0) 0,.cp (.agg [u8 x,u8 y]) 0,.cp (.ref bk 0) 0] σ KF:=by
 have S:=l8 x;have T:=l8 y;refine fs Vp Tryz.func114 rfl (by kernel_rfl) ?_;simp[Tryz.f114]
 repeat' first
  |refine⟨?_,?_⟩
  | (refine cf Tryz.func59 rfl (CF.EF K L ?_)
     apply pg;simp)
  | (refine cf Tryz.func50 rfl (mX ?_)
     apply pg;simp)
  | (refine uz.intro λd hd=>?_
     simp)
 all_goals
  refine aa.bt 3 (b:=d) (cy (dg w (aB x) (aB y))) (af.aj _ _ _) (by simp) rfl ?_;rw[ew hd];apply rn;simp;refine aa.loop (aB x).length (λk s=>∃env N,s=⟨env,σ.set bk (.cells (vR 0 1 N)),[],.no⟩/\N.length=18/\N=(List.range k).foldl (λN i=>wj (dg w (aB x) (aB y)) (aB x) (aB y) i N) (List.replicate 18 0)/\env 2=.cp (.ref bk 0) 0/\env 3=.cp (cy (dg w (aB x) (aB y))) 0/\env 4=ints (aB x)/\env 5=ints (aB y)/\env 21=ints (aB x)/\env 22=int (aB x).length/\env 23=int k) ⟨_,List.replicate 18 0,by rw[jz hb],rfl,rfl,by simp⟩ ?_;rintro c0 k _ hk ⟨env,N,rfl,U,p,q,r,u,v,wx,wy,Ku⟩ V;apply rn;simp[wy,Ku];apply aH.intro<;>intro B<;>simp at B<;>simp[v,wx,Ku,B]
  . obtain⟨i,E⟩:∃i,(aB x)[k]=i:=⟨_,rfl⟩
    have W:=K i (E ▸ zD B);have F:(aB x).getD k 0=i:=by simp[zs,B,E]
    refine aa.loop (aB y).length (λj s=>∃env g,s=⟨env,σ.set bk (.cells (vR 0 1 g)),[],.no⟩/\g.length=18/\g=(List.range j).foldl (λN M=>N.set (3*i.toNat+((aB y).getD M 0).toNat) (nZ (dg w (aB x) (aB y)) k (((aB x).length:Int)+M))) N/\env 2=.cp (.ref bk 0) 0/\env 3=.cp (cy (dg w (aB x) (aB y))) 0/\env 4=ints (aB x)/\env 5=ints (aB y)/\env 21=ints (aB x)/\env 22=int (aB x).length/\env 23=int k/\env 6=int k/\env 7=int i/\env 28=ints (aB y)/\env 29=int (aB y).length/\env 30=int j) ⟨_,N,rfl,U,rfl,by simp[q,r,u,v,wx,wy,Ku,E]⟩ ?_;rintro c1 j _ hj ⟨env,g,rfl,l,e,q,r,u,v,wx,wy,Ku,O,P,z,A,n⟩ G;apply rn;simp[A,n];apply aH.intro<;>intro C<;>simp at C<;>simp[r,u,Ku,O,z,n,C]
    . obtain⟨c,o⟩:∃c,(aB y)[j]=c:=⟨_,rfl⟩
      have X:=L c (o ▸ zD C);have H:(aB y).getD j 0=c:=by simp[zs,C,o]
      have Y:(dg w (aB x) (aB y)).aD.length=(aB x).length+(aB y).length:=by simp
      simp only[o];refine⟨by omega,?_⟩;refine cf Tryz.func22 rfl (Qb (f:=dg w (aB x) (aB y)) Q D.fits D.CX ⟨by omega,by omega⟩ ⟨by omega,by omega⟩ R (Nat.lt_of_le_of_lt (Cd D _) (by decide)) ?_);apply rn;simp[q,P];refine⟨by omega,by omega,?_⟩;refine cf Tryz.func115 rfl (GB (t:=AO (nZ (dg w (aB x) (aB y)) k (((aB x).length:Int)+j))) rfl ?_);have I:3+i.toNat*3+c.toNat<=20:=by omega
      have J:=λa b d=>EG (a:=a) (b:=b) (c:=d) (N:=g) (i:=i.toNat) (j:=c.toNat) (by omega) (N7 (dg w (aB x) (aB y)) k (((aB x).length:Int)+j))
      apply pg;simp[l,I,J];apply rn;simp[n];simp only[<-List.map_set];refine⟨by omega,G _ (by omega) ⟨_,g.set (3*i.toNat+c.toNat) (nZ (dg w (aB x) (aB y)) k (((aB x).length:Int)+j)),rfl,by rw[abH];exact l,?_,by simp[q,r,u,v,wx,wy,Ku,O,P,z,A]⟩⟩;rw[aaz,aaS,<-e];simp only[abd,List.foldl_nil,H]
    . have Z:j=(aB y).length:=by omega
      subst Z;refine⟨by omega,V _ (by omega) ⟨_,g,rfl,l,?_,by simp[q,r,u,v,wx,wy]⟩⟩;rw[aaz,aaS,<-p];simp only[abd,List.foldl_nil];unfold wj;rw[F];exact e
  . have ek:k=(aB x).length:=by omega
    subst ek;refine .done ?_;rw[p];exact h
theorem Re:CY prog 145 104 165 102 .u8:=.of (by kernel_rfl) (by kernel_rfl) (by kernel_rfl) (by kernel_rfl)
abbrev yK(w:fP)(p:Int × Int):acX:=AP (dg w (aB p.1) (aB p.2)) (aB p.1) (aB p.2)
def eZ(w:fP)(mb:Nat)(σ:af):Prop:=∃l,σ mb=some (m8 (pT .u8) l)/\∀p a,dq l p=some a->∃bk,a=.ref bk 0/\bk≠mb/\σ bk=some (.cells (vR 1 0 (yK w p)))
def fF(mb:Nat)(σ σ':af):Prop:=∀c x,σ c=some x->c≠mb->σ' c=some x
theorem fF.refl  mb   σ :fF mb σ σ:=λ_ _ h _=>h
theorem fF.trans{mb a b c}(h:fF mb a b)(e:fF mb b c):fF mb a c:=λd x q n=>e d x (h d x q n) n
structure fP.Bk(w:fP)  x y :Prop where
 hx:∀i∈aB x,0<=i/\i<w.fair.aD.length
 hy:∀i∈aB y,0<=i/\i<w.aF.length
 nQ:(dg w (aB x) (aB y)).Good
 some:aI (dg w (aB x) (aB y)) []≠[]
theorem GJ{l}{p q:Int × Int}{a b}(h:dq (l++[(q,b)]) p=some a):dq l p=some a\/p=q/\a=b:=by
 unfold dq at h ⊢;rw[List.find?_append]at h;cases e:l.find? (λr=>p==r.1)with
 |some r=>simp_all
 |none=>grind
theorem Oa(J:m.solo=true){w fb mb x y}(hb:w.Bk x y)(P:w.fair.aD.length<=6/\w.aF.length<=3)(Q:eZ w mb σ)
 (h:∀bk σ',eZ w mb σ'->fF mb σ σ'->σ' bk=some (.cells (vR 1 0 (yK w (x,y))))->KF (.val (.ref bk 0)) σ'):aA prog m 81 [uj fb mb w 0,.agg [u8 x,u8 y]] σ KF:=by
 obtain⟨l,s,A⟩:=Q;refine aA.start lay [15] Xn 2 Tryz.func81 rfl rfl (by rfl) (by kernel_rfl) ?_
 simp[Tryz.f81]
 have f:∀{o:Oper}{env:Env}{σ:af}{K R:acI},o.op=.lookup 145 (.tmp 9) (.tmp 10) false->env 9=.map mb->env 10=pT .u8 (x,y)->σ mb=some (m8 (pT .u8) l)->K ((dq l (x,y)).getD (.lit (.pointer none))) σ->aJ prog o env σ K R:=λS T E U F=>xu lay (Re.key lay Mn rfl) S Vg T E U F
 have t:dq l (x,y)=none\/∃bk,dq l (x,y)=some (.ref bk 0)/\bk≠mb/\σ bk=some (.cells (vR 1 0 (yK w (x,y)))):=by
  cases e:dq l (x,y)with
  |none=>simp_all
  |some a=>simp_all
 rcases t with j|⟨bk,j,V,B⟩
 . refine⟨f rfl (by simp) (by simp[pT]) s ?_,?_⟩
   rotate_left
   refine uz.intro λd hd=>?_
   have u:mb≠d:=λe=>by simp_all
   simp;refine f rfl (by simp) (by simp[pT]) (by simp[af.ai,u,s]) ?_
   rw[j];refine aM.go lay [15] ?_;simp
   rotate_left
   rw[j];refine aM.go lay [15] ?_;simp;refine uz.intro λd hd=>?_
   have u:mb≠d:=λe=>by simp_all
   simp
   all_goals
    refine aa.run lay [15] ?_;simp;refine oV (vx:=.pointer none) (vy:=.pointer none) (r:=.bool true) rfl (λk v g=>by simpa using Aq.1 g) (λk v g=>by simpa using Aq.1 g) (by kernel_rfl) ?_
    refine aa.run lay [15] ?_;simp;refine bM.intro λbk C=>?_
    obtain⟨W,X,i⟩:=af.aP C;have D:mb≠bk:=λe=>by rw[<-e,s]at i;cases i
    simp[X,af.ai];refine rA (Re.key lay Mn rfl) rfl (b:=mb) (l:=l) (n:=(x,y)) (a:=.ref bk 0) (by simp) (by simp[pT]) (by simp) (by simp[af.set,u,D,s]) j ?_
    refine aM.go lay [15] ?_;simp;refine aa.bt 5 (b:=d) (.ref bk 0) (by simp[af.set,za u]) (by simp) rfl ?_
    refine aa.jd (λe q=>(e 2=.cp (uj fb mb w 0) 0/\e 3=.cp (.agg [u8 x,u8 y]) 0/\e 5=.cp (.ref bk 0) 0)/\q mb=some (m8 (pT .u8) (l++[((x,y),.ref bk 0)]))/\q bk=some (.cells (vR 0 0 (List.replicate 18 0)))/\fF mb σ q) ⟨by simp,by simp[af.set,af.del,u],by simp[af.set,af.del,W,za D,List.replicate,tY],λc v g z=>?_⟩ ?_
    . have Y:c≠d:=λe=>by rw[e,hd]at g;cases g
      have G:c≠bk:=λe=>by rw[e,i]at g;cases g
      simp[af.set,af.del,Y,G,z,g]
    rintro env q ⟨⟨Z,e3,L⟩,q1,q2,M⟩
    refine aa.run lay [15] ?_;simp[Z,e3,L];refine cf Tryz.func113 rfl (Cj J q2 rfl rfl rfl λK F=>dh Tryz.func114 rfl rfl rfl (N9 J hb.hx hb.hy hb.nQ hb.some P (af.aj _ _ _) (F _ _ (af.aj _ _ _) rfl rfl rfl ?_)))
    simp only[af.set_set];refine aa.run lay [15] ?_;simp[L];refine .done (h bk _ ⟨_,(af.ai _ _ D).trans q1,λp a H=>?_⟩ (λc v g z=>?_) (af.aj _ _ _))
    . rcases GJ H with H|⟨rfl,rfl⟩
      . obtain⟨N,rfl,O,I⟩:=A _ _ H
        have h3:N≠bk:=λe=>by rw[e,i]at I;cases I
        exact⟨N,rfl,O,(af.ai _ _ h3).trans (M _ _ I O)⟩
      . exact⟨bk,rfl,za D,af.aj _ _ _⟩
    . have G:c≠bk:=λe=>by rw[e,i]at g;cases g
      exact(af.ai _ _ G).trans (M _ _ g z)
 . refine⟨f rfl (by simp) (by simp[pT]) s ?_,?_⟩
   rotate_left
   refine uz.intro λd hd=>?_
   have u:mb≠d:=λe=>by simp_all
   simp;refine f rfl (by simp) (by simp[pT]) (by simp[af.ai,u,s]) ?_
   rw[j];refine aM.go lay [15] ?_;simp
   rotate_left
   rw[j];refine aM.go lay [15] ?_;simp;refine uz.intro λd hd=>?_
   simp
   all_goals
    refine aa.bt 5 (b:=d) (.ref bk 0) (af.aj _ _ _) (by simp) rfl ?_
    rw[ew hd];refine aa.run lay [15] ?_;simp;refine oV (vx:=.pointer (some ⟨bk,0,none⟩)) (vy:=.pointer none) (r:=.bool false) rfl (λk v g=>by simpa using U3.1 g) (λk v g=>by simpa using Aq.1 g) (by kernel_rfl) ?_
    refine aa.run lay [15] ?_;simp;refine cf Tryz.func113 rfl (ED B rfl ?_);refine aa.run lay [15] ?_;simp;exact .done (h bk σ ⟨l,s,A⟩ (.refl mb σ) B)
abbrev kE(w:fP)(h:Int):Int:=aT (dR w h)
abbrev kC(w:fP)(h:Int):Int:=aT (de w h)
structure fP.Open(w:fP):Prop where
 px:w.fair.aD.length<=6/\w.aF.length<=3
 bk:∀h,w.Bk (kE w h) (kC w h)
def iL(w:fP)(h i c:Int):Int:=(yK w (kE w h,kC w h)).getD (3*i.toNat+c.toNat) 0
theorem J9  f   es cs :(AP f es cs).length=18:=by
 have key:∀(l:acY) (N:acX),(l.foldl (λN x=>wj f es cs x N) N).length=N.length:=λl=>by
  induction l with
  |nil=>simp_all
  |cons a l b=>exact λN=>(b _).trans (N8 ..)
 exact key _ _
theorem EH(p:m.solo=true){w fb mb h i c}(b:w.Open)(hi:0<=i/\i<6)(f:0<=c/\c<3)(q:eZ w mb σ)(d:∀σ',eZ w mb σ'->fF mb σ σ'->KF (.val (yJ (iL w h i c))) σ'):aA prog m 46 [uj fb mb w 0,int h,int i,int c] σ KF:=by
 refine fs [] Tryz.func46 rfl (by kernel_rfl) ?_
 simp[Tryz.f46];refine cf Tryz.func49 rfl (CK.AN b.px.1 b.px.2 ?_);apply rn;simp;refine cf Tryz.func81 rfl (Oa p (b.bk h) b.px q λbk σ' g j k=>?_)
 have hlen:=J9 (dg w (aB (kE w h)) (aB (kC w h))) (aB (kE w h)) (aB (kC w h));obtain⟨N,l⟩:∃N,N=yK w (kE w h,kC w h):=⟨_,rfl⟩;have r:N.length=18:=by simp_all
 have s:iL w h i c=N.getD (3*i.toNat+c.toNat) 0:=by rw[l];rfl
 rw[<-l]at k
 have a:(AV.lit (.int .u32 1)::.lit (.int .i32 0)::.lit (.int .u32 0)::N.map tY)[3+i.toNat*3+c.toNat]?=some (tY (iL w h i c)):=by
  have e:3+i.toNat*3+c.toNat=3*i.toNat+c.toNat+3:=by omega
  have t:3*i.toNat+c.toNat<N.length:=by omega
  simp_all
 generalize iL w h i c=n at d a;apply rn;simp[k,hi.1,hi.2,f.1,f.2,a]
 by_cases o:n=0
 . subst o
   refine dT lay rfl Vf rfl (.inl ⟨by simp[tY],rfl⟩) (.inr ⟨rfl,rfl⟩) ?_
   apply rn;simp;exact .done (d σ' g j)
 . have e:tY n=yJ n:=aaj o
   rw[e];refine dT lay rfl Vf rfl (.inr ⟨⟨AO n,.agg [],by simp⟩,rfl⟩) (.inr ⟨rfl,rfl⟩) ?_
   apply rn;simp;exact .done (d σ' g j)
def vf(n:Int):Bool:=n==1||n==3
theorem vg{t f:Nat}(h:eS prog (Go.method (prog.types.size+Made.depth) t (.agg #[])  "palfrey/cry.holds")=some (f,.agg #[])):oy prog t  "palfrey/cry.holds" f (.agg []) (.agg []):=vQ λk v b=>by
 cases b with
 | agg c l d e=>
   obtain⟨c⟩:=c
   match c,d with
   |[],_=>exact⟨_,h,.agg _ _ rfl λi v a h=>by simp at h⟩
theorem EI(h:KF (.val (bool true)) σ):aA prog m 225 [.agg []] σ KF:=by
 refine fs [] Tryz.func225 rfl (by kernel_rfl) ?_;simp[Tryz.f225];exact .done h
theorem EJ(h:KF (.val (bool true)) σ):aA prog m 239 [.agg []] σ KF:=by
 refine fs [] Tryz.func239 rfl (by kernel_rfl) ?_;simp[Tryz.f239];exact .done h
theorem EK(h:KF (.val (bool false)) σ):aA prog m 226 [.agg []] σ KF:=by
 refine fs [] Tryz.func226 rfl (by kernel_rfl) ?_;simp[Tryz.f226];exact .done h
theorem Ob(b:m.solo=true){w fb mb h i c}(d:w.Open)(hi:0<=i/\i<6)(f:0<=c/\c<3)(g:eZ w mb σ)(a:∀σ',eZ w mb σ'->fF mb σ σ'->KF (.val (bool (vf (iL w h i c)))) σ'):aA prog m 88 [int c,.cp (uj fb mb w 0) 0,.cp (int h) 0,.cp (int i) 0] σ KF:=by
 refine fs [] Tryz.func88 rfl (by kernel_rfl) ?_
 simp[Tryz.f88];refine cf Tryz.func46 rfl (EH b d hi f g λσ' j k=>?_)
 have a:=a σ' j k;generalize iL w h i c=n at a;unfold vf at a
 by_cases l:n=1
 . subst l
   apply rn;simp;refine aa.invoke rfl rfl rfl (by simp) rfl (vg (by kernel_rfl)) Tryz.func225 rfl rfl (EI ?_)
   apply rn;simp;exact .done a
 by_cases o:n=3
 . subst o
   apply rn;simp;refine aa.invoke rfl rfl rfl (by simp) rfl (vg (by kernel_rfl)) Tryz.func239 rfl rfl (EJ ?_)
   apply rn;simp;exact .done a
 have e:yJ n=.lE 167 (.agg []):=by unfold yJ AO;simp_all
 rw[e];apply rn;simp;refine aa.invoke rfl rfl rfl (by simp) rfl (vg (by kernel_rfl)) Tryz.func226 rfl rfl (EK ?_)
 apply rn;simp;rw[show(n==1)=false by simp_all,show(n==3)=false by simp_all]at a
 exact .done a
theorem tZ{σ0 σ σ2 a kk es}(h:Tok σ0 σ a kk es)(d:∀b e,σ b=some (.tail e)->σ2 b=some (.tail e)):Tok (σ2.off a) σ2 a kk es:=by
 rcases h.2 with⟨rfl,rfl⟩|rfl|⟨b,e,_,rfl,f⟩
 . exact⟨af.le_refl _,.inl ⟨rfl,rfl⟩⟩
 . exact⟨af.le_refl _,.inr (.inl rfl)⟩
 . refine⟨λc x g=>?_,.inr (.inr ⟨b,e,by simp[af.off,br,af.del],rfl,d b e f⟩)⟩
   simp only[af.off,br,af.del]at g
   simp_all
structure VQ(I:ada)  mb :Prop where
 le:∀{σ σ'},I σ->(∀c x,σ c=some x->(∀e,x≠.tail e)->σ' c=some x)->I σ'
 mb:∀{σ},I σ->∀e,σ mb≠some (.tail e)
theorem GK{σ0 σ a kk es}(h:Tok σ0 σ a kk es){c x}(b:σ c=some x)(d:∀e,x≠.tail e):(σ.off a) c=some x:=by
 rw[af.dP λe=>?_]
 . exact b
 . obtain⟨_,n,q⟩:=h.aY e
   grind
theorem Oc{I mb}(z:VQ I mb){f l p}(T:l.length<=1000)(A:f.flat=true)
 (P:∀x∈l,∀  σ   K ,I σ->(∀σ',I σ'->fF mb σ σ'->K (.val (bool (p x))) σ')->bK prog m f [int x] σ K)
 (Q:I σ) (h:∀σ',I σ'->fF mb σ σ'->KF (.val (ints (l.filter p))) σ'):aA prog m 79 [.agg [f],ints l] σ KF:=by
 refine fs [] Tryz.func79 rfl (by kernel_rfl) ?_
 simp[Tryz.f79];refine⟨A,?_⟩;refine aa.loop l.length (λk s=>∃env σ' a,s=⟨env,σ',[],.no⟩/\env 2=.cp (.agg [f]) 0/\env 8=ints l/\env 9=int l.length/\env 10=int k/\env 5=a/\I σ'/\Tok (σ'.off a) σ' a 1 (((l.take k).filter p).map int)/\fF mb σ (σ'.off a)) ?_ ?_
 . refine⟨_,σ,AV.nil,rfl,?_,?_,?_,?_,?_,Q,Tok.nil σ 1,fF.refl mb σ⟩<;>simp
 rintro U k _ V ⟨env,σ',a,rfl,B,C,D,aZ,v,E,d,hb⟩ L
 apply rn;simp[D,aZ];apply aH.intro<;>intro w<;>simp at w<;>simp[B,C,aZ,v,w]
 . have F:(l.take (k+1)).filter p=(l.take k).filter p++if p l[k]then[l[k]]else[]:=by
    rw[zG w,abt]
    grind
   have R:((l.take k).filter p).length<=k:=aar (aaU _ _) (by grind)
   refine P _ (zD w) _ _ E λσ2 M j=>?_
   have o:=tZ d (σ2:=σ2) (λb e r=>j b _ r λq=>z.mb E e (q ▸ r))
   have g:fF mb σ (σ2.off a):=λc x i y=>by
    have N:=hb c x i y;have G:br a≠some c:=λe=>by obtain⟨n,_⟩:=d.aY e;grind
    rw[af.dP G]at N ⊢;exact j c x N y
   apply rn;simp;cases O:p l[k]
   . rw[O,aaj (by simp),aaV]at F
     simp[aZ];refine⟨by omega,L _ (by omega) ⟨_,σ2,a,rfl,?_,?_,?_,?_,?_,M,by grind,g⟩⟩<;>simp[B,C,D,v]
   . rw[O,aal rfl]at F
     simp[v];refine aN lay rfl rfl rfl dC rfl dC rfl rp (by decide) (by grind) (σ0:=σ2.off a) (es:=((l.take k).filter p).map int) (xs:=[int l[k]]) (by simpa[v]using o) (.inr ⟨_,by simp;rfl⟩) λS H t=>?_
     apply rn;simp[aZ];have u:=t.here;refine⟨by omega,L _ (by omega) ⟨_,H,S,rfl,?_,?_,?_,?_,?_,z.le M λc x i J=>t.1 _ _ (GK o i J),by rw[F,aax];exact u.1,λc x i y=>u.2 _ _ (g c x i y)⟩⟩<;>simp[B,C,D]
 . have ek:k=l.length:=by omega
   subst ek;rw[aav]at d;refine .pD d.W (.less d.1 (.done (h _ (z.le E λc x i J=>GK d i J) hb)))
theorem sm  w   mb :VQ (eZ w mb) mb where
 le h hk:=by
  obtain⟨l,b,c⟩:=h;refine⟨l,hk _ _ b (by simp[m8]),λp a d=>?_⟩
  grind
 mb h e q:=by obtain⟨l,b,_⟩:=h;rw[b]at q;simp[m8]at q
theorem q8{n x}(h:x∈pI n):0<=x/\x<n:=by grind
theorem mY  n :(pI n).length=n:=by grind
def ua(w:fP)(h i:Int):acX:=(pI w.aF.length).filter λc=>vf (iL w h i c)
def me(w:fP)(h:Int):acX:=(pI w.fair.aD.length).filter λi=>decide (0<(ua w h i).length)
theorem Cl(c:m.solo=true){w fb mb h i}(b:w.Open)(hi:0<=i/\i<6)(d:eZ w mb σ)(a:∀σ',eZ w mb σ'->fF mb σ σ'->KF (.val (ints (ua w h i))) σ'):aA prog m 51 [uj fb mb w 0,int h,int i] σ KF:=by
 have j:=b.px.2;refine fs [] Tryz.func51 rfl (by kernel_rfl) ?_;simp[Tryz.f51];refine cf Tryz.func74 rfl (qZ (by omega) ?_);apply rn;simp;refine cf Tryz.func79 rfl (Oc (sm w mb) (by grind) rfl (λx k σ K e a=>dh Tryz.func88 rfl rfl rfl (Ob c b hi (by grind) e a)) d λσ' f g=>?_);apply rn;simp;exact .done (a σ' f g)
theorem Od(a:m.solo=true){w fb mb h i}(b:w.Open)(hi:0<=i/\i<6)(c:eZ w mb σ)(d:∀σ',eZ w mb σ'->fF mb σ σ'->KF (.val (bool (decide (0<(ua w h i).length)))) σ'):aA prog m 80 [int i,.cp (uj fb mb w 0) 0,.cp (int h) 0] σ KF:=by
 refine fs [] Tryz.func80 rfl (by kernel_rfl) ?_;simp[Tryz.f80];refine cf Tryz.func51 rfl (Cl a b hi c λσ' e f=>?_);apply rn;simp;refine .done ?_
 simp_all
theorem yL(c:m.solo=true){w fb mb h}(b:w.Open)(d:eZ w mb σ)(a:∀σ',eZ w mb σ'->fF mb σ σ'->KF (.val (ints (me w h))) σ'):aA prog m 45 [uj fb mb w 0,int h] σ KF:=by
 have i:=b.px.1;refine fs [] Tryz.func45 rfl (by kernel_rfl) ?_;simp[Tryz.f45];refine cf Tryz.func74 rfl (qZ (by omega) ?_);apply rn;simp;refine cf Tryz.func79 rfl (Oc (sm w mb) (by grind) rfl (λx j σ K e a=>dh Tryz.func80 rfl rfl rfl (Od c b (by grind) e a)) d λσ' f g=>?_);apply rn;simp;exact .done (a σ' f g)
theorem J6.yM{σ σ' fb mb w}(h:J6 σ fb mb w σ'):eZ w mb σ':=⟨[],by rw[h.eq,af.ai _ _ (za h.ne),af.aj],λp a b=>by simp[dq]at b⟩
theorem J6.less{σ σ' σ2 fb mb w}(h:J6 σ fb mb w σ')(hb:fF mb σ' σ2):σ.Le σ2:=λc x a=>by
 have d:c≠fb:=λe=>by rw[e,h.f0]at a;cases a
 have b:c≠mb:=λe=>by rw[e,h.m0]at a;cases a
 exact hb c x (by rw[h.eq,af.ai _ _ d,af.ai _ _ b];exact a) b
abbrev nv:AV:=.lit (.slice none 0 0)
theorem Rf{a b c d a' b' c' d'}(e:a.W a')(f:b.W b')(g:c.W c')(h:d.W d'):Wl [a,b,c,d] [a',b',c',d']:=.cons e (.cons f (.cons g (.cons h .nil)))
theorem qC(e:m.solo=true){w}(f:w.qy){c:Nat}(h:c<3)(i:eY w [] [] [(c:Int)]=0)(b:if 72<dB w c then KF (.val (.cq [int 0,int 11])) σ else KF (.val (.cq [int (dB w c),int 0])) σ):aA prog m 15 [dA w,int c] σ KF:=by
 have j:Wl [dA w,nv,nv,.sl 1 [int c] .exact] [dA w,ints [],ints [],ints [(c:Int)]]:=Rf (.refl _) (eU 1) (eU 1) (fS 1 _ _);refine fs [] Tryz.func15 rfl (by kernel_rfl) ?_;simp[Tryz.f15];refine bS Tryz.func41 rfl rfl j (kz e f (by simp) (λq=>absurd i q) λ_ d fb mb k=>?_);have a:=k.less (.refl mb d);apply rn;simp;refine cf Tryz.func42 rfl (qA h ?_);split at b
 . next g=>rw[aal g];apply rn;simp;refine cf Tryz.func43 rfl (HZ ?_);apply rn;simp;exact .less a (.done b)
 . next g=>rw[aaj g];apply rn;simp;refine cf Tryz.func43 rfl (N4 ?_);apply rn;simp;exact .less a (.done b)
theorem Oe(a:m.solo=true){w}(f:w.qy)(g:w.Open){h}(b:eY w [h] [] []≠0->KF (.val (.cq [nv,int (eY w [h] [] [])])) σ)(i:eY w [h] [] []=0->KF (.val (.cq [ints (me w h),int 0])) σ):aA prog m 17 [dA w,int h] σ KF:=by
 have j:Wl [dA w,.sl 1 [int h] .exact,nv,nv] [dA w,ints [h],ints [],ints []]:=Rf (.refl _) (fS 1 _ _) (eU 1) (eU 1);obtain⟨e,k⟩:∃e,e=eY w [h] [] []:=⟨_,rfl⟩;refine fs [] Tryz.func17 rfl (by kernel_rfl) ?_;simp[Tryz.f17];refine bS Tryz.func41 rfl rfl j (kz a f (by simp) (λq=>?_) λq l fb mb c=>?_)
 . rw[<-k]at q b ⊢
   have d:(e !=0)=true:=by grind
   apply rn;simp[d];exact .done (b q)
 . apply rn
   simp;refine cf Tryz.func45 rfl (yL a g c.yM λn d o=>?_);apply rn;simp;exact .less (c.less o) (.done (i q))
theorem Ql(a:m.solo=true){w}(c:w.qy)(d:w.Open){h i}(hi:0<=i/\i<6)(e:eY w [h] [i] []=0)(f:KF (.val (.cq [ints (ua w h i),int 0])) σ):aA prog m 24 [dA w,int h,int i] σ KF:=by
 have g:Wl [dA w,.sl 1 [int h] .exact,.sl 1 [int i] .exact,nv] [dA w,ints [h],ints [i],ints []]:=Rf (.refl _) (fS 1 _ _) (fS 1 _ _) (eU 1);refine fs [] Tryz.func24 rfl (by kernel_rfl) ?_;simp[Tryz.f24];refine bS Tryz.func41 rfl rfl g (kz a c (by simp) (λq=>absurd e q) λq j fb mb b=>?_);apply rn;simp;refine cf Tryz.func51 rfl (Cl a d hi b.yM λk n l=>?_);apply rn;simp;exact .less (b.less l) (.done f)
def yN(w:fP)(h i:Int):Bool:=decide (0<(ua w h i).length)
def bX(w:fP)(i:Int):Nat->Int × List (Int × Int)
 |0=>(1048576,[])
 |h+1=>if(h:Int)<=72/\yN w h i=true then(if(h:Int)<(bX w i h).1 then(h:Int)else(bX w i h).1,(bX w i h).2)else if(bX w i h).1<1048576 then(1048576,(bX w i h).2++[((bX w i h).1,(h:Int)-1)])else(1048576,(bX w i h).2)
def cM(w:fP)(i:Int):acB:=(bX w i 74).2
abbrev kL(r:Int × Int):AV:=.agg [int r.1,int r.2]
theorem Cm  w   i :∀h ,0<=(bX w i h).1/\(bX w i h).1<=1048576
 |0=>by simp[bX]
 | h+1=>by
   have:=Cm w i h;unfold bX
   grind
theorem EL  w   i :∀d h ,(bX w i h).2 <+: (bX w i (h+d)).2
 |0,h=>List.prefix_refl _
 | d+1,h=>by
   refine(EL w i d h).trans ?_;show _ <+: (bX w i ((h+d)+1)).2
   conv=>rhs;unfold bX
   grind
theorem H3{w i h}(d:h<74){r}(b:(bX w i (h+1)).2=(bX w i h).2++[r]):∃f ,(cM w i)[(bX w i h).2.length]=r:=by
 have a:=EL w i (73-h) (h+1);rw[show h+1+(73-h)=74 by omega,b]at a;obtain⟨t,c⟩:=a;have e:cM w i=(bX w i h).2++[r]++t:=c.symm
 grind
theorem AQ(C:m.solo=true){w fb mb i}(D:w.Open)(hi:0<=i/\i<6){y}{I:Nat->ada}(E:y.cells=[y]/\y.flat=true)
 (t:∀k σ σ',I k σ->fF mb σ σ'->eZ w mb σ'->I k σ') (hb:∀k σ,I k σ->eZ w mb σ)
 (B:∀k  F   σ   K ,I k σ->(∀σ',I (k+1) σ'->K (.val (bool true)) σ')->bK prog m y [kL (cM w i)[k]] σ K)
 (G:I 0 σ) (h:∀σ',I (cM w i).length σ'->KF (.val (.cq [])) σ'):aA prog m 92 [y,.cp (uj fb mb w 0) 0,.cp (int i) 0] σ KF:=by
 refine fs [] Tryz.func92 rfl (by kernel_rfl) ?_;simp[Tryz.f92];refine aa.loop 74 (λk s=>∃env σ',s=⟨env,σ',[],.no⟩/\env 0=y/\env 1=.cp (uj fb mb w 0) 0/\env 2=.cp (int i) 0/\env 4=int (bX w i k).1/\env 7=int k/\I (bX w i k).2.length σ') ⟨_,_,rfl,by simp,by simp,by simp,by simp[bX],by simp,G⟩ ?_;rintro N k _ F ⟨env,σ',rfl,c,j,l,r,d,n⟩ o;have H:=Cm w i k;apply rn;simp[d];apply aH.intro<;>intro p<;>simp at p<;>simp[d,p]
 . have p : k<74:=by omega
   refine uh.intro (λu=>?_) (λu=>?_)<;>(try simp[-Int.not_lt,-Int.not_le]at u)<;>(try simp[j,l,r,u])
   . refine cf Tryz.func51 rfl (Cl C D hi (hb _ _ n) λJ L M=>?_)
     have n:=t _ _ _ n M L;apply rn;simp;apply aH.intro<;>intro v<;>simp at v<;>simp[r,d,v]
     . have b:bX w i (k+1)=(if (k:Int)<(bX w i k).1 then (k:Int)else (bX w i k).1,(bX w i k).2):=by
        conv=>lhs;unfold bX
        rw[aal ⟨by omega,by unfold yN;simp_all⟩]
       refine⟨by omega,o _ (by omega) ⟨_,_,rfl,by simp[c],by simp[j],by simp[l],by rw[b];simp,by simp,by grind⟩⟩
     . have x:¬((k:Int)<=72/\yN w k i=true):=λq=>by have:=q.2;simp[yN,v]at this
       refine uh.intro (λe=>?_) (λe=>?_)<;>(try simp[-Int.not_lt,-Int.not_le]at e)<;>(try simp[c,r,d,e])
       . have b:bX w i (k+1)=(1048576,(bX w i k).2++[((bX w i k).1,(k:Int)-1)]):=by
          conv=>lhs;unfold bX
          grind
         obtain⟨z,f⟩:=H3 (w:=w) (i:=i) p (by rw[b]);have a:=B _ z;rw[f]at a;refine⟨by omega,?_⟩;refine a _ _ n λg A=>?_
         apply rn;simp[d];refine⟨by omega,o _ (by omega) ⟨_,g,rfl,by simp[c],by simp[j],by simp[l],by rw[b];simp,by simp,by grind⟩⟩
       . have b:bX w i (k+1)=(1048576,(bX w i k).2):=by
          conv=>lhs;unfold bX
          grind
         refine⟨by omega,o _ (by omega) ⟨_,_,rfl,?_,?_,?_,by simp_all,?_,by simp_all⟩⟩<;>simp[c,j,l]
   . have x:¬((k:Int)<=72/\yN w k i=true):=λq=>by omega
     refine uh.intro (λe=>?_) (λe=>?_)<;>(try simp[-Int.not_lt,-Int.not_le]at e)<;>(try simp[c,r,d,e])
     . have b:bX w i (k+1)=(1048576,(bX w i k).2++[((bX w i k).1,(k:Int)-1)]):=by
        conv=>lhs;unfold bX
        grind
       obtain⟨z,f⟩:=H3 (w:=w) (i:=i) p (by rw[b]);have a:=B _ z;rw[f]at a;refine⟨by omega,?_⟩;refine a _ _ n λg A=>?_
       apply rn;simp[d];refine⟨by omega,o _ (by omega) ⟨_,g,rfl,?_,?_,?_,by simp_all,?_,by simp_all⟩⟩<;>simp[c,j,l]
     . have b:bX w i (k+1)=(1048576,(bX w i k).2):=by
        conv=>lhs;unfold bX
        grind
       refine⟨by omega,o _ (by omega) ⟨_,_,rfl,?_,?_,?_,by simp_all,?_,by simp_all⟩⟩<;>simp[c,j,l]
 . have ek:k=74:=by omega
   subst ek;exact .done (h _ n)
abbrev Cn(fb mb:Nat)(w:fP)(i:Int):AV:=.fn (.func 92) [] [.cp (uj fb mb w 0) 0,.cp (int i) 0]
theorem AR{w fb mb i}(h:KF (.val (Cn fb mb w i)) σ):aA prog m 56 [uj fb mb w 0,int i] σ KF:=by
 refine fs [] Tryz.func56 rfl (by kernel_rfl) ?_;simp[Tryz.f56];exact .done h
theorem rf  w   i :∀h ,(bX w i h).2.length<=h
 |0=>by simp[bX]
 | h+1=>by
   have:=rf w i h;unfold bX
   grind
theorem eZ.mono{w mb σ σ'}(h:eZ w mb σ)(b:∀d x,σ d=some x->(∀e,x≠.tail e)->(∀a,x≠.cells [a])->(∀y,x≠.loop y)->(∀o,x≠.raw o)->σ' d=some x):eZ w mb σ':=by
 obtain⟨l,c,f⟩:=h;refine⟨l,b _ _ c (by simp[m8]) (by simp[m8]) (by simp[m8]) (by simp[m8]),λp a g=>?_⟩
 grind
abbrev pe(l:acB):AV:=.sl 2 (l.map kL) .any
theorem zI(Q:m.solo=true){w fb mb i}(hO:w.Open)(hi:0<=i/\i<6)(hB:eZ w mb σ)(h:∀σ',eZ w mb σ'->fF mb σ σ'->KF (.val (pe (cM w i))) σ'):aA prog m 98 [nv,Cn fb mb w i] σ KF:=by
 have hlen:=rf w i 74;refine aA.start lay [2] [] 2 Tryz.func98 rfl rfl (by rfl) (by kernel_rfl) ?_
 simp[Tryz.f98];refine bM.intro λc hc=>?_
 simp;refine aa.rangeFunc rfl λR r l S T s=>?_
 obtain⟨r1,r2,S⟩:=af.aP S;obtain⟨B,l2,T⟩:=af.aP T;generalize C:vh.mk _ _ _ _ _ _ _ _ _=al;have nm:∀d,σ d=none->d≠mb:=λd hd e=>by obtain⟨x,q,_⟩:=hB;simp_all
 have cm:=nm c hc;have lm:=nm l T;have rm:=nm r S;refine dh Tryz.func92 rfl rfl rfl (AQ Q hO hi (y:=.fn (.yield l) [] []) (I:=λk σ'=>eZ w mb σ'/\σ' l=some (.loop al)/\σ' r=some (.raw (.deferred (some [])))/\∃a,σ' c=some (.cells [a])/\Tok (σ'.off a) σ' a 2 (((cM w i).take k).map kL)/\fF mb σ (σ'.off a)) ⟨rfl,rfl⟩ ?_ ?_ ?_ ?_ ?_)
 . rintro k f ab ⟨D,z,E,a,F,g,G⟩ t U
   refine⟨U,t _ _ z lm,t _ _ E rm,a,t _ _ F cm,tZ g λb e o=>t b _ o λq=>(sm w mb).mb D e (q ▸ o),λd x H hd=>?_⟩
   have J:=G d x H hd;have V:br a≠some d:=λe=>by obtain⟨n,_⟩:=g.aY e;simp_all
   rw[af.dP V]at J ⊢;exact t _ _ J hd
 . simp_all
 . rintro k t f K ⟨D,z,E,a,F,g,G⟩ hK
   have Y:=g.cells;subst C;refine bK.uy (hold:=[]) R Tryz.func98 z rfl ?_;apply rn;simp[lG];refine bM.intro λq hq=>?_
   simp
   change aa _ _ _ _ _ _ _ _ _
   refine aa.runN lay [] 1 ?_;simp
   change aa _ _ _ _ _ _ _ _ _
   refine aa.bt 5 (b:=q) (kL (cM w i)[k]) (af.aj _ _ _) (by simp) rfl ?_
   rw[ew hq];refine aa.beginRound z rfl ?_;have cl:∀x,(f.set l x) c=some (.cells [a]):=λx=>(af.ai _ _ (za B)).trans F
   apply rn;simp[cl];have H:∀X,Tok ((f.set l X).off a) (f.set l X) a 2 (((cM w i).take k).map kL):=λX=>tZ g λb e o=>(af.ai _ _ (λq=>by simp_all)).trans o
   have Q:((cM w i).take (k+1)).map kL=((cM w i).take k).map kL++[kL (cM w i)[k]]:=by rw[zG t,aax];rfl
   refine aN lay rfl rfl rfl Ve rfl Ve rfl Xf (by decide) (by simp only[aaC,abk,aaI,abi];unfold cM;omega) (es:=((cM w i).take k).map kL) (xs:=[kL (cM w i)[k]]) (H _) (.inr ⟨_,by simp;rfl⟩) λZ u j=>?_
   rw[<-Q]at j;have L:=j.cells;have a7:br a≠some c:=λe=>by obtain⟨_,_,q⟩:=g.aY e;simp_all
   have t3:u c=some (.cells [a]):=j.1 _ _ (by rw[af.dP a7];exact cl _)
   have a8:br a≠some l:=λe=>by obtain⟨_,_,q⟩:=g.aY e;simp_all
   have t4:=λ(X:sz) (hX:((f.set l X).off a).Le u)=>hX l X (by rw[af.dP a8];simp_all)
   have t4:=t4 _ j.1;refine aa.run lay [2] ?_;simp[t3,L.1,L.2,aK];refine⟨rfl,rfl,_,(af.ai _ _ B).trans t4,?_⟩
   have M:∀X d x,d≠l->d≠c->br a≠some d->f d=some x->((u.set c (.cells [Z])).set l X) d=some x:=λX d x d1 d2 d3 hd=>by rw[af.ai _ _ d1,af.ai _ _ d2];exact j.1 _ _ (by rw[af.dP d3,af.ai _ _ d1];exact hd)
   refine hK _ ⟨D.mono λd x hd O h2 h3 _=>M _ d x (λe=>by grind) (λe=>by grind) (λe=>by obtain⟨_,_,q⟩:=g.aY e;grind) hd,af.aj _ _ _,M _ r _ s r1 (λe=>by obtain⟨_,_,q⟩:=g.aY e;simp_all) E,Z,(af.ai _ _ (za B)).trans (af.aj _ _ _),tZ j λb e o=>?_,λd x H hd=>?_⟩
   . have v:b≠l:=λq=>by grind
     have A:b≠c:=λq=>by grind
     rw[af.ai _ _ v];exact(af.ai _ _ A).trans o
   . have v:d≠l:=λq=>by grind
     have A:d≠c:=λq=>by grind
     have J:=G d x H hd;have P:br a≠some d:=λe=>by obtain⟨n,_⟩:=g.aY e;grind
     rw[af.dP P]at J
     have n4:br Z≠some d:=λe=>by obtain⟨n,_⟩:=j.aY e;rw[af.dP P,af.ai _ _ v,J]at n;cases n
     rw[af.dP n4]
     grind
 . have N:∀d x,σ d=some x->(((σ.set c (.cells [nv])).set r (.raw (.deferred (some [])))).set l (.loop al)) d=some x:=λd x hd=>by
    have v:d≠l:=λq=>by simp_all
    have A:d≠r:=λq=>by simp_all
    have P:d≠c:=λq=>by simp_all
    rw[af.ai _ _ v,af.ai _ _ A,af.ai _ _ P];exact hd
   exact⟨hB.mono λd x hd _ _ _ _=>N d x hd,af.aj _ _ _,(af.ai _ _ s).trans (af.aj _ _ _),AV.nil,(af.ai _ _ (za B)).trans ((af.ai _ _ (za r1)).trans (af.aj _ _ _)),Tok.nil _ 2,λd x hd _=>N d x hd⟩
 . rintro f ⟨D,z,E,a,F,g,G⟩
   have Y:=g.cells;rw[aav]at g;subst C;refine⟨_,z,by simp,rfl,?_⟩
   have a9:(f.del l) c=some (.cells [a]):=by simp only[af.del,za B,Rp];exact F
   refine aa.run lay [2] ?_;simp[a9];refine⟨by simp only[af.del,s,Rp];exact E,?_⟩
   have p:∀{d x},d≠l->d≠r->(f.off a) d=some x->(((f.off a).del l).del r) d=some x:=λO h2 h3=>by simp only[af.del,O,h2,Rp];exact h3
   refine .pD g.W (.less (λd x hd=>?_) (.done (h (((f.off a).del l).del r) (D.mono λd x hd O h2 h3 h4=>p (λe=>by grind) (λe=>by grind) (GK g hd O)) λd x hd hm=>p (λq=>by simp_all) (λq=>by simp_all) (G d x hd hm))))
   simp only[af.del]at hd;split at hd
   . cases hd
   next v=>
   split at hd
   . cases hd
   next A=>
   rw[af.ai _ _ v];simp only[af.del,A,Rp];exact af.RB hd
theorem EM(a:m.solo=true){w fb mb i}(b:w.Open)(hi:0<=i/\i<6)(c:eZ w mb σ)(h:∀σ',eZ w mb σ'->fF mb σ σ'->KF (.val (pe (cM w i))) σ'):aA prog m 67 [Cn fb mb w i] σ KF:=by
 refine fs [] Tryz.func67 rfl (by kernel_rfl) ?_;simp[Tryz.f67];refine cf Tryz.func98 rfl (zI a b hi c λσ' d e=>?_);apply rn;simp;exact .done (h σ' d e)
theorem Ka(a:m.solo=true){w}(f:w.qy)(g:w.Open){i}(hi:0<=i/\i<6)(b:eY w [] [i] []≠0->KF (.val (.cq [nv,int (eY w [] [i] [])])) σ)(h:eY w [] [i] []=0->KF (.val (.cq [pe (cM w i),int 0])) σ):aA prog m 38 [dA w,int i] σ KF:=by
 have j:Wl [dA w,nv,.sl 1 [int i] .exact,nv] [dA w,ints [],ints [i],ints []]:=Rf (.refl _) (eU 1) (fS 1 _ _) (eU 1);obtain⟨e,k⟩:∃e,e=eY w [] [i] []:=⟨_,rfl⟩;refine fs [] Tryz.func38 rfl (by kernel_rfl) ?_;simp[Tryz.f38];refine bS Tryz.func41 rfl rfl j (kz a f (by simp) (λq=>?_) λq l fb mb c=>?_)
 . rw[<-k]at q b ⊢
   have d:(e !=0)=true:=by grind
   apply rn;simp[d];exact .done (b q)
 . apply rn
   simp;refine cf Tryz.func56 rfl (AR ?_);apply rn;simp;refine cf Tryz.func67 rfl (EM a g hi c.yM λn d o=>?_);apply rn;simp;exact .less (c.less o) (.done (h q))
def ub(l:acB):Int:=l.foldl (λn r=>n+(r.2-r.1+1)) 0
def iY(w:fP)(k:Nat):Int:=(List.range k).foldl (λ(n:Int) (i:Nat)=>n+ub (cM w (i:Int))) 0
theorem qD  w   i :∀h ,h<=74->∀r∈(bX w i h).2,(0<=r.1/\r.1<=1048576)/\-1<=r.2/\r.2<=73
 |0,_,r,a=>by simp[bX]at a
 | h + 1,b,r,a=>by
   have:=Cm w i h;unfold bX at a;split at a
   . exact qD w i h (by omega) r a
   split at a
   . rcases aaq.1 a with a|a
     . exact qD w i h (by omega) r a
     grind
   . exact qD w i h (by omega) r a
theorem Kb  l   r :ub (l++[r])=ub l+(r.2-r.1+1):=by unfold ub;simp_all
theorem H4{l}(a:∀r∈l,(0<=r.1/\r.1<=1048576)/\-1<=r.2/\r.2<=73):-(2000000*(l.length:Int))<=ub l/\ub l<=2000000*l.length:=by
 have key:∀(l:acB) (n:Int),(∀r∈l,(0<=r.1/\r.1<=1048576)/\-1<=r.2/\r.2<=73)->n-2000000*l.length<=l.foldl (λn r=>n+(r.2-r.1+1)) n/\l.foldl (λn r=>n+(r.2-r.1+1)) n<=n+2000000*l.length:=λl=>by
  induction l with
  |nil=>simp_all
  | cons r l b=>
    intro n h;have d:=h r (by simp);have e:=b (n+(r.2-r.1+1)) λx c=>h x (by simp[c])
    grind
 have:=key l 0 a;unfold ub;omega
theorem EN  w :∀k:Nat,-(200000000*(k:Int))<=iY w k/\iY w k<=200000000*k
 |0=>by simp[iY]
 | k+1=>by
   have a:=EN w k;have b:=H4 (qD w k 74 (by omega))
   have c:=rf w k 74;have e:iY w (k+1)=iY w k+ub (cM w k):=by unfold iY;rw[aaz,aaS];rfl
   rw[e];unfold cM;omega
theorem AS{P}(L:jj P){rs env a}:∀(ds:acY)  σ ,ds.Nodup->(∀r∈ds,σ r=some (.raw (.deferred (some []))))->(∀σ',(∀d,d∉ds->σ' d=σ d)->Ks L m rs env KF [] a σ')->Ks L m rs env KF (ds.map .mark) a σ
 |[],σ,_,_,h=>h σ λ_ _=>rfl
 | r ::ds,σ,b,c,h=>⟨c r (by simp),AS L ds _ (abj.1 b).2 (λd hd=>by
     have n:d≠r:=λe=>(abj.1 b).1 (by simp_all)
     rw[af.ai _ _ n]
     simp_all) λσ' f=>h σ' λd hd=>by
     have n:d≠r:=λe=>hd (by simp[e])
     rw[f d λq=>hd (by simp[q]),af.ai _ _ n]⟩
theorem Kc(hs:m.solo=true){w}(hw:w.qy)(hO:w.Open)(he:eY w [] [] []=0)(hK:KF (.val (.cq [int (iY w w.fair.aD.length),int 0])) σ):aA prog m 30 [dA w] σ KF:=by
 have hW:Wl [dA w,nv,nv,nv] [dA w,ints [],ints [],ints []]:=Rf (.refl _) (eU 1) (eU 1) (eU 1);have h6:=hO.px.1;refine fs [] Tryz.func30 rfl (by kernel_rfl) ?_
 simp[Tryz.f30];refine bS Tryz.func41 rfl rfl hW (kz hs hw (by simp) (λq=>absurd he q) λq o fb mb v=>?_)
 have E:=v.yM;have F:∀d,o d=none->d≠mb:=λd hd e=>by obtain⟨x,q,_⟩:=E;simp_all
 apply rn;simp;refine bM.intro λc hc=>?_
 simp;have cm:=F c hc;refine aa.loop w.fair.aD.length (λk s=>∃env a ds,s=⟨env,a,List.map zd.mark ds,.no⟩/\(env 1=.cp (dA w) 0/\env 4=uj fb mb w 0/\env 6=.ref c 0/\env 20=int w.fair.aD.length/\env 21=int k)/\eZ w mb a/\a c=some (.cells [int (iY w k)])/\ds.Nodup/\(∀r∈ds,a r=some (.raw (.deferred (some [])))/\o r=none)/\fF mb o a) ⟨_,_,[],rfl,by simp,E.mono λd x hd _ _ _ _=>(af.ai _ _ λe=>by simp_all).trans hd,af.aj _ _ _,by simp,by simp,λd x hd _=>(af.ai _ _ λe=>by simp_all).trans hd⟩ ?_
 rintro c0 k _ P ⟨env,a,ds,rfl,⟨e1,e4,U,zk,wx⟩,hB,G,H,z,A⟩ ih
 apply rn;simp[zk,wx];apply aH.intro<;>intro g1<;>simp at g1<;>simp[e4,U,wx,g1,G]
 . refine cf Tryz.func56 rfl (AR ?_)
   apply rn;simp;refine aa.rangeFunc rfl λV r l Q R B=>?_
   change a r=none at Q
   change a l=none at R
   have nm:∀d,a d=none->d≠mb:=λd hd e=>by obtain⟨x,q,_⟩:=hB;grind
   have lm:=nm l R;have rm:=nm r Q;have lc:l≠c:=λe=>by grind
   have rc:r≠c:=λe=>by grind
   have J:=qD w k 74 (by omega)
   have hlen:=rf w k 74;have av:=EN w k
   have W:o r=none:=by
    cases e:o r with
    |none=>rfl
    |some x=>have:=A r x e rm;grind
   have a7:iY w (k+1)=iY w k+ub (cM w k):=by unfold iY;rw[aaz,aaS];rfl
   generalize L:vh.mk _ _ _ _ _ _ _ _ _=al;refine dh Tryz.func92 rfl rfl rfl (AQ hs hO (i:=(k:Int)) (by omega) (y:=.fn (.yield l) [] []) (I:=λj f=>eZ w mb f/\f l=some (.loop al)/\f c=some (.cells [int (iY w k+ub ((cM w k).take j))])/\∀d x,(a.set r (.raw (.deferred (some [])))) d=some x->d≠mb->d≠c->f d=some x) ⟨rfl,rfl⟩ ?_ ?_ ?_ ?_ ?_)
   . rintro j f a8 ⟨T,t,u,D⟩ P a9
     exact⟨a9,P _ _ t lm,P _ _ u cm,λd x g p h=>P _ _ (D d x g p h) p⟩
   . grind
   . rintro j hj f K ⟨T,t,u,D⟩ ab
     have M:=J _ (zD hj);have ad:=H4 (l:=(cM w k).take j) λx hx=>J x (abX hx)
     have ax:((cM w k).take j).length<=74:=aar (List.length_take_le _ _) (by unfold cM at hj;omega)
     have C:ub ((cM w k).take (j+1))=ub ((cM w k).take j)+((cM w k)[j].2-(cM w k)[j].1+1):=by rw[zG hj,Kb]
     generalize ub ((cM w k).take j)=S at u ad C;obtain⟨x1,x2⟩:∃r:Int × Int,r=(cM w k)[j]:=⟨_,rfl⟩;rw[<-x2]at M C ⊢;obtain⟨ra,rb⟩:=x1;simp only at M C;subst L;refine bK.uy (hold:=[]) V Tryz.func30 t rfl ?_;apply rn;simp[lG];refine bM.intro λq hq=>?_
     simp
     change aa _ _ _ _ _ _ _ _ _
     refine aa.runN lay [] 1 ?_;simp
     change aa _ _ _ _ _ _ _ _ _
     refine aa.bt 8 (b:=q) (kL (ra,rb)) (af.aj _ _ _) (by simp) rfl ?_
     rw[ew hq];refine aa.beginRound t rfl ?_;have cl:∀x,(f.set l x) c=some (.cells [int (iY w k+S)]):=λx=>(af.ai _ _ (za lc)).trans u
     apply rn;simp[cl,U];refine⟨by omega,by omega,by omega,?_⟩
     refine⟨rfl,rfl,_,(af.ai _ _ lc).trans (af.aj _ _ _),?_⟩
     have N:∀X Y Z d x,d≠l->d≠c->f d=some x->(((f.set l X).set c Y).set l Z) d=some x:=λX Y Z d x g p h=>by rw[af.ai _ _ g,af.ai _ _ p,af.ai _ _ g];exact h
     refine ab _ ⟨T.mono λd x hd _ p h _=>N _ _ _ d x (λe=>by rw[e,t]at hd;exact h _ (aaF hd).symm) (λe=>by rw[e,u]at hd;exact p _ (aaF hd).symm) hd,af.aj _ _ _,(af.ai _ _ (za lc)).trans ((af.aj _ _ _).trans (by grind)),λd x g p h=>?_⟩
     have dl:d≠l:=λe=>by rw[e,af.ai _ _ (za B),R]at g;cases g
     exact N _ _ _ d x dl h (D d x g p h)
   . have O:∀d x,a d=some x->((a.set r (.raw (.deferred (some [])))).set l (.loop al)) d=some x:=λd x hd=>by
      have n1:d≠l:=λe=>by grind
      have n2:d≠r:=λe=>by grind
      rw[af.ai _ _ n1,af.ai _ _ n2];exact hd
     refine⟨hB.mono λd x hd _ _ _ _=>O d x hd,af.aj _ _ _,(O _ _ G).trans (by simp[ub]),λd x g _ _=>?_⟩
     exact(af.ai _ _ λe=>by rw[e,af.ai _ _ (za B),R]at g;cases g).trans g
   . rintro f ⟨T,t,u,D⟩
     rw[aav,<-a7]at u;subst L;refine⟨_,t,by simp,rfl,?_⟩
     apply rn;simp[wx];have n:∀d x,d≠l->f d=some x->(f.del l) d=some x:=λd x g p=>by simp only[af.del,g,Rp];exact p
     have hold:∀d x,a d=some x->d≠mb->d≠c->(f.del l) d=some x:=λd x g p h=>n d x (λe=>by grind) (D d x ((af.ai _ _ λe=>by grind).trans g) p h)
     refine⟨by omega,ih _ (by omega) ⟨_,_,r::ds,rfl,by simp[e1,e4,U,zk],T.mono λd x hd _ _ h _=>n d x (λe=>by rw[e,t]at hd;exact h _ (aaF hd).symm) hd,n _ _ (za lc) u,abj.2 ⟨λq=>?_,H⟩,λd hd=>?_,λd x hd hm=>?_⟩⟩
     . grind
     . rcases aaD.1 hd with rfl|hd
       . exact⟨n _ _ B (D _ _ (af.aj _ _ _) rm rc),W⟩
       . obtain⟨q1,q2⟩:=z d hd
         exact⟨hold d _ q1 (F d q2) (λe=>by grind),q2⟩
     . exact hold d x (A d x hd hm) hm (λe=>by grind)
 . have ek:k=w.fair.aD.length:=by omega
   subst ek;refine AS lay ds _ H (λr Q=>(z r Q).1) λa8 h=>⟨[int (iY w w.fair.aD.length),int 0],by simp[eH],?_⟩
   refine .less (λd x hd=>?_) (.done hK)
   have q1:=v.less A d x hd;rw[h d λq=>?_]
   . exact q1
   . have:=(z d q).2
     have h0:=v.less (.refl mb o) d x hd
     grind
theorem Co{a b:acX}(t:a.length<1152921504606846976)(hb:b.length<1152921504606846976)(h:KF (.val (bool (decide (a=b)))) σ):aA prog m 72 [ints a,ints b] σ KF:=by
 refine fs Xl Tryz.func72 rfl (by kernel_rfl) ?_
 simp[Tryz.f72];refine aH.intro (λg=>?_) (λg=>?_)<;>(try simp[-Int.not_lt,-Int.not_le,-Nat.not_lt,-Nat.not_le]at g)<;>(try simp[g])
 . have:a≠b:=λe=>g (by rw[e])
   simp[this]at h;exact .done h
 refine aa.loop a.length (λk s=>∃env,s=⟨env,σ,[],.no⟩/\env 0=ints a/\env 1=ints b/\env 12=int a.length/\env 13=int k/\a.take k=b.take k) ⟨_,rfl,by simp[g]⟩ ?_
 rintro u k _ v ⟨env,rfl,d,f,bs,c,l⟩ p
 have r:a.length=b.length:=by omega
 apply rn;simp[d,f,bs,c];refine aH.intro (λi=>?_) (λi=>?_)<;>(try simp[-Int.not_lt,-Int.not_le,-Nat.not_lt,-Nat.not_le]at i)<;>(try simp[d,f,bs,c,i])
 . have o:k<b.length:=by omega
   simp[d,f,bs,c,i,o];apply rn;simp[d,f,bs,c]
   by_cases j:a[k]=b[k]
   . have q:(a[k]!=b[k])=false:=by simp[j]
     simp[d,f,bs,c,q];refine⟨by omega,p _ (by omega) ⟨_,rfl,by simp[d,f,bs,c],by simp[d,f,bs,c],by simp[d,f,bs,c],by simp,?_⟩⟩
     rw[zG i,zG o,l,j]
   . have q:(a[k]!=b[k])=true:=by simp[j]
     have n:a≠b:=λe=>by subst e;exact j rfl
     simp[n]at h;simp[d,f,bs,c,q];exact .done h
 . have ek:k=a.length:=by omega
   subst ek;rw[aav,r,aav]at l;simp[l]at h;exact .done h
def foundAt(w:fP)(c:Int)(h i:Nat):Prop:=iL w h i c=1/\∀a b:Nat,(a<h\/a=h/\b<i)->b<w.fair.aD.length->iL w a b c≠1
theorem Kd(F:m.solo=true){w:fP}(H:w.qy)(G:w.Open){c:Int}(I:0<=c/\c<3)(J:eY w [] [] [c]=0)(K:∀h i:Nat,h<73->i<w.fair.aD.length->foundAt w c h i->KF (.val (.cq [int h,int i,int 0])) σ)
 (L:(∀o f:Nat,o<73->f<w.fair.aD.length->iL w o f c≠1)->KF (.val (.cq [int 0,int 0,int 11])) σ):aA prog m 19 [dA w,int c] σ KF:=by
 have M:Wl [dA w,nv,nv,.sl 1 [int c] .exact] [dA w,ints [],ints [],ints [c]]:=Rf (.refl _) (eU 1) (eU 1) (fS 1 _ _);have T:=G.px.1;refine fs [] Tryz.func19 rfl (by kernel_rfl) ?_;simp[Tryz.f19];refine bS Tryz.func41 rfl rfl M (kz F H ⟨by simp,by simp,by simp⟩ (λq=>absurd J q) λq u fb mb A=>?_);apply rn;simp;refine aa.loop 73 (λk s=>∃env d,s=⟨env,d,[],.no⟩/\(env 1=int c/\env 2=.cp (dA w) 0/\env 9=.fn (.func 46) [uj fb mb w 0] []/\env 24=int k)/\eZ w mb d/\fF mb u d/\∀o f:Nat,o<k->f<w.fair.aD.length->iL w o f c≠1) ⟨_,_,rfl,by simp,A.yM,.refl mb u,λo f q=>absurd q (Nat.not_lt_zero _)⟩ ?_;rintro U k _ N ⟨env,d,rfl,⟨g,l,n,wA⟩,x,p,v⟩ O;apply rn;simp[g,l,n,wA];refine aH.intro (λB=>?_) (λB=>?_)<;>(try simp[-Int.not_lt,-Int.not_le,-Nat.not_lt,-Nat.not_le]at B)<;>(try simp[g,l,n,wA,B])
 . refine aa.loop w.fair.aD.length (λj s=>∃env d,s=⟨env,d,[],.no⟩/\(env 1=int c/\env 2=.cp (dA w) 0/\env 9=.fn (.func 46) [uj fb mb w 0] []/\env 24=int k/\env 10=int k/\env 30=int w.fair.aD.length/\env 31=int j)/\eZ w mb d/\fF mb u d/\∀f:Nat,f<j->iL w k f c≠1) ⟨_,_,rfl,by simp[g,l,n,wA],x,p,λf q=>absurd q (Nat.not_lt_zero _)⟩ ?_
   rintro V j _ W ⟨env,d,rfl,⟨g,l,n,wA,aZ,a,b⟩,x,p,r⟩ C;apply rn;simp[g,l,n,wA,aZ,a,b];refine aH.intro (λD=>?_) (λD=>?_)<;>(try simp[-Int.not_lt,-Int.not_le,-Nat.not_lt,-Nat.not_le]at D)<;>(try simp[g,l,n,wA,aZ,a,b,D])
   . refine dh Tryz.func46 rfl rfl rfl (EH F G (by omega) I x λE P Q=>?_)
     have t:=p.trans Q;by_cases y:iL w k j c=1
     . rw[show yJ (iL w k j c)=.lE 98 (.agg [])by rw[y];rfl]
       apply rn;simp[g,l,n,wA,aZ,a,b];refine .less (A.less t) (.done (K k j (by omega) (by omega) ⟨y,λo f q z=>?_⟩));rcases q with q|⟨rfl,q⟩
       . exact v o f q z
       . exact r f q
     . have R:AO (iL w k j c)≠98:=by unfold AO;rw[aaj y];split<;>decide
       apply rn;simp[g,l,n,wA,aZ,a,b,R];refine⟨by omega,C _ (by omega) ⟨_,E,rfl,⟨by simp[g,l,n,wA,aZ,a,b],by simp[g,l,n,wA,aZ,a,b],by simp[g,l,n,wA,aZ,a,b],by simp[g,l,n,wA,aZ,a,b],by simp[g,l,n,wA,aZ,a,b],by simp[g,l,n,wA,aZ,a,b],by simp⟩,P,t,λf q=>?_⟩⟩;by_cases e:f=j
       . subst e;exact y
       . exact r f (by omega)
   . have S:j=w.fair.aD.length:=by omega
     subst S;refine⟨by omega,O _ (by omega) ⟨_,d,rfl,⟨by simp[g,l,n,wA,aZ,a,b],by simp[g,l,n,wA,aZ,a,b],by simp[g,l,n,wA,aZ,a,b],by simp⟩,x,p,λo f q z=>?_⟩⟩;by_cases e:o=k
     . subst e;exact r f z
     . exact v o f (by omega) z
 . have ek:k=73:=by omega
   subst ek;exact .less (A.less p) (.done (L v))
theorem AT(w:fP)(h:Int):(me w h).length<=w.fair.aD.length:=by unfold me;refine aar (aaU _ _) ?_;rw[mY];exact aao _
def fP.only(w:fP)(l:acX):fP:={w with aF:=l.filterMap λc=>w.aF[c.toNat]?}
abbrev yO(w:fP)(a:AV):ade:=[jC w.fair.aD,rows w.fair.roads,int w.fair.aU,int w.fair.eT,int w.fair.cP,int w.fair.aR,int w.bf,ve w.ways,a]
theorem Of  w   a b :(yO w a).set 8 b=yO w b:=rfl
theorem Ke{w wb a}(b:σ wb=some (.cells (yO w a)))(h:KF (.val (.cq [])) (σ.set wb (.cells (Ew w)))):aA prog m 99 [.cp (kS w.aF) 0,.cp (.ref wb 0) 0] σ KF:=by
 refine fs [] Tryz.func99 rfl (by kernel_rfl) ?_;simp[Tryz.f99];simp[b];exact .done h
namespace CW
abbrev Xv:acO:=[⟨7,.take [0,1,2,3,5,6,7,8,11,12] false (.both 4 (.one 9 (.one 10 (.one 13 (.done)))) (.one 9 (.take [4] true (.one 10 (.one 13 (.done))))))⟩]
abbrev Xw:acO:=[⟨0,.take [3] false (.one 0 (.one 1 (.one 2 (.one 4 (.one 5 (.done))))))⟩]
theorem Og{w wb l}(M:∀c∈l,0<=c/\c<w.aF.length)(S:l.length<=1000){F t}(I:ada)(C:σ wb=some (.cells (Ew w)))
 (N:∀a g K,Tok (σ.del wb) g a 8 ((w.only l).aF.map ij)->g wb=some (.cells (yO w a))->(∀σ2,σ2 wb=some (.cells (yO w a))->I σ2->K (.val (.cq [])) σ2)->bK prog m (.fn F [] t) [] g K)
 (h:∀σ2,I σ2->KF (.val (.cq [])) (σ2.set wb (.cells (Ew w)))):aA prog m 70 [.ref wb 0,ints l,.fn F [] t] σ KF:=by
 refine aA.FY lay [] Xv 12 3 Tryz.func70 rfl rfl (by rfl) (by kernel_rfl) ?_
 simp[Tryz.f70,C];refine bM.intro λD u=>?_
 have T:wb≠D:=λe=>by simp_all
 simp
 change aa _ _ _ _ _ _ _ _ _
 refine aa.bt 6 (b:=D) (kS w.aF) (af.aj _ _ _) (by simp) rfl ?_
 rw[ew u];apply rn;simp;refine aa.defer rfl rfl rfl rfl (by simp) rfl ?_
 apply rn;simp[C];refine aa.loop l.length (λk s=>∃env d a,s=⟨env,d,[.call (.func 99) [.cp (kS w.aF) 0,.cp (.ref wb 0) 0] []],.no⟩/\(env 2=.fn F [] t/\env 3=.cp (.ref wb 0) 0/\env 6=.cp (kS w.aF) 0/\env 17=ints l/\env 18=int l.length/\env 19=int k)/\Tok (σ.del wb) d a 8 ((w.only (l.take k)).aF.map ij)/\d wb=some (.cells (yO w a))) ⟨_,_,.lit (.slice none 0 0),rfl,by simp,⟨?_,.inl ⟨rfl,by simp[fP.only]⟩⟩,af.aj _ _ _⟩ ?_
 . intro c x v
   have E:c≠wb:=λe=>by subst e;simp[af.del]at v
   simp only[af.del,E,Rp]at v;rw[af.ai _ _ E];exact v
 rintro U k _ V ⟨env,d,a,rfl,⟨G,H,J,j,ui,Pd⟩,n,i⟩ O
 apply rn;simp[ui,Pd];apply aH.intro<;>intro r<;>simp at r<;>simp[G,H,J,j,Pd,r]
 . have P:=M l[k] (zD r)
   have y:((w.only (l.take k)).aF.map ij).length<=k:=by
    rw[aaC];refine aar (List.length_filterMap_le _ _) ?_
    grind
   have z:(w.only (l.take (k+1))).aF.map ij=(w.only (l.take k)).aF.map ij++[ij w.aF[l[k].toNat]]:=by simp only[fP.only];rw[zG r,List.filterMap_append,aax];simp[zR (show l[k].toNat<w.aF.length by omega)]
   have A:br a≠some wb:=λe=>by obtain⟨_,x,q⟩:=n.aY e;simp_all
   simp[i,P];refine⟨?_,?_⟩
   all_goals
    refine aN lay rfl rfl rfl PW rfl PW rfl Vd (by decide) (by simp only[aaC,aaI,abi]at y ⊢;omega) (σ0:=d.off a) (es:=(w.only (l.take k)).aF.map ij) (xs:=[ij w.aF[l[k].toNat]]) (by simpa using n.here.1) (.inr ⟨_,rfl⟩) λL σ2 f=>?_
    rw[<-z]at f;have o:σ2 wb=some (.cells (yO w a)):=f.1 _ _ ((af.dP A).trans i);have B:=f.cells;have p:br L≠some wb:=λe=>by obtain⟨_,x,q⟩:=f.aY e;rw[o]at q;cases q
    apply pg;simp[o,B];apply rn;simp[Pd];refine⟨by omega,O _ (by omega) ⟨_,_,L,rfl,by simp[G,H,J,j,ui],(f.base n.here.2).beside (by simp[af.del]) p,af.aj _ _ _⟩⟩
 . have ek:k=l.length:=by omega
   subst ek;rw[aav]at n;refine N a d _ n i λσ2 Q R=>?_
   apply rn;simp;refine rv.func Tryz.func99 rfl rfl (Ke Q ?_);exact⟨[],rfl,.done (h σ2 R)⟩
theorem VR{w l a}(d:a.W (kS (w.only l).aF)):(AV.agg (yO w a)).W (dA (w.only l)):=qm rfl λi x y c b=>by
 change (yO w (kS (w.only l).aF))[i]?=some y at b;rw[<-Of w a]at b;by_cases e:i=8
 . simp_all
 . rw[abb (za e),c]at b
   cases b;exact .refl _
theorem Cp(f:m.solo=true){w wb c a l e x}(g:(w.only l).Open)(d:w.ways.length<1152921504606846976/\(∀x∈w.ways,tT w.bf x)/\1<=w.bf/\w.bf<=4)(k:yI (w.only l))(t:e.length<1000000)(n:σ wb=some (.cells (yO w a)))(o:a.W (kS (w.only l).aF))(p:σ c=some (.cells [x]))
 (h:∀σ2,σ.Le σ2->KF (.val (.cq [])) (σ2.set c (.cells [bool (decide (me (w.only l) 72=e))]))):aA prog m 71 [.ref wb 0,.cp (ints e) 0,.ref c 0] σ KF:=by
 have u:=g.px.1;have i:=AT (w.only l) 72;have q:Wl [.agg (yO w a)] [dA (w.only l)]:=.cons (VR o) .nil;refine fs Xw Tryz.func71 rfl (by kernel_rfl) ?_;simp[Tryz.f71];simp[n];refine bS Tryz.func73 rfl rfl q (tW f d.1 d.2.1 d.2.2 k λr fb mb j=>?_);apply pg;simp;refine cf Tryz.func45 rfl (yL f g j.yM λσ2 v s=>?_);apply pg;simp;have b:=j.less s;refine cf Tryz.func72 rfl (Co (by omega) (by omega) ?_);apply pg;simp[b _ _ p];apply rn;simp;exact .done (h σ2 b)
end CW
theorem EO(v:m.solo=true){w wb l e}(y:(w.only l).Open)(z:w.ways.length<1152921504606846976/\(∀x∈w.ways,tT w.bf x)/\1<=w.bf/\w.bf<=4)(A:yI (w.only l))(B:e.length<1000000)(k:∀c∈l,0<=c/\c<w.aF.length)(C:l.length<=1000)(D:σ wb=some (.cells (Ew w)))
 (h:KF (.val (bool (decide (me (w.only l) 72=e)))) σ):aA prog m 69 [ints l,.ref wb 0,.cp (ints e) 0] σ KF:=by
 refine aA.start lay [5] [] 3 Tryz.func69 rfl rfl (by rfl) (by kernel_rfl) ?_;simp[Tryz.f69];refine bM.intro λf E=>?_
 have j:wb≠f:=λe=>by simp_all
 simp;have o:(σ.set f (.cells [bool false])) wb=some (.cells (Ew w)):=(af.ai _ _ j).trans D;refine cf Tryz.func70 rfl (CW.Og k C (λb=>∃d:af,(∀c x,σ c=some x->c≠wb->d c=some x)/\b=d.set f (.cells [bool (decide (me (w.only l) 72=e))])) o (λa p K r g F=>?_) ?_)
 . have s:p f=some (.cells [bool false]):=r.1 _ _ (by simp[af.del,za j])
   refine dh Tryz.func71 rfl rfl rfl (CW.Cp v y z A B g r.W s λb i=>?_);refine F _ ((af.ai _ _ j).trans (i _ _ g)) ⟨b,λc x u n=>i _ _ (r.1 _ _ ?_),rfl⟩;have t:c≠f:=λe=>by simp_all
   simp only[af.del,n,Rp];exact(af.ai _ _ t).trans u
 . rintro b ⟨d,q,rfl⟩
   have G:((d.set f (.cells [bool (decide (me (w.only l) 72=e))])).set wb (.cells (Ew w))) f=some (.cells [bool (decide (me (w.only l) 72=e))]):=(af.ai _ _ (za j)).trans (af.aj _ _ _);refine aa.run lay [5] ?_;simp[G];refine .less (λc x u=>?_) (.done h);have t:c≠f:=λe=>by simp_all
   by_cases e:c=wb
   . simp_all
   . rw[af.ai _ _ e,af.ai _ _ t];simp_all
def cX(x:acX):Nat:=match x.getLast? with|none=>0|some v=>v.toNat+1
def nxt(n:Nat)(x:acX):acD:=(List.range' (cX x) (n-cX x)).map λ(j:Nat)=>x++[(j:Int)]
def wo(n:Nat):Nat->acD
 |0=>[[]]
 |k+1=>(wo n k).flatMap (nxt n)
theorem Oh  n :∀k,∀x∈wo n k,x.length=k/\(∀c∈x,0<=c/\c<n)/\cX x<=n
 | 0,x,a=>by
   have:x=[]:=by simpa[wo]using a
   subst this;simp[cX]
 | k+1,x,a=>by
   simp only[wo,abn,nxt,aaA,List.mem_range'_1]at a;obtain⟨y,b,j,e,rfl⟩:=a;obtain⟨d,f,g⟩:=Oh n k y b;refine⟨by simp[d],λc h=>?_,?_⟩
   . grind
   . simp[cX];omega
theorem yP  n :∀M:acD,(M.flatMap (nxt n)).length<=M.length*n
 |[]=>by simp
 | x::M=>by
   have:=yP n M;rw[abR,aas,aaI,abY];have:(nxt n x).length<=n:=by simp[nxt]
   omega
theorem H5  n :∀k,(wo n k).length<=n ^ k
 |0=>by simp[wo]
 |k+1=>by have a:=yP n (wo n k);have b:=H5 n k;rw[Nat.pow_succ];exact aar a (abc n b)
theorem GL{x}(h:0<x.length)(a:∀c∈x,0<=c):x[x.length-1]?=some ((cX x:Int)-1):=by
 have b:=a x[x.length-1] (zD _);unfold cX
 grind
def GM(n:Nat)(G:acX->Bool):acX:=(((List.range (n+1)).flatMap (wo n)).find? G).getD (pI n)
theorem Qm{n k i G}(a:k<n+1)  hi  (b:∀k'<k,∀x∈wo n k',G x=false) (c:∀x∈(wo n k).take i,G x=false) (h:G (wo n k)[i]=true):GM n G=(wo n k)[i]:=by
 unfold GM
 have e:List.range (n+1)=List.range k++k::List.range' (k+1) (n-k):=by rw[abC,abC,show n+1=k+(n-k+1)by omega,<-List.range'_append_1,abx];rfl
 have d:((List.range k).flatMap (wo n)).find? G=none:=List.find?_eq_none.2 λx f=>by grind
 have g:(wo n k).find? G=some (wo n k)[i]:=by
  have j:wo n k=(wo n k).take i++(wo n k)[i]::(wo n k).drop (i+1):=by simp_all
  grind
 grind
theorem Qn{n G}(a:∀k'<n+1,∀x∈wo n k',G x=false):GM n G=pI n:=by
 unfold GM;rw[List.find?_eq_none.2 λx b=>by grind];rfl
abbrev mZ(M:acD):ade:=M.map ints
theorem bK.xr{P m b args args' σ KF}(h:bK P m b args' σ KF)(c:Wl args args'):bK P m b args σ KF:=λQ k O cf a fr cs d e f g i j l n=>h Q k O cf a fr cs d (e.xr c) f g i j l n
theorem Kf{n:Nat}(hn:n<=3){G f}(aO:f.cells=[f])(a7:f.flat=true)(hf:∀  l   σ'   K ,(∀c∈l,0<=c/\c<(n:Int))->l.length<=n->σ.Le σ'->K (.val (bool (G l))) σ'->bK prog m f [ints l] σ' K){xs:acX}(hx:xs.length=n)(a8:∀  j  (q:j<xs.length),xs[j]=j)(h:KF (.val (ints (GM n G))) σ):aA prog m 68 [.agg [f],ints xs] σ KF:=by
 refine fs [] Tryz.func68 rfl (by kernel_rfl) ?_
 simp[Tryz.f68];refine⟨a7,by omega,?_⟩
 refine aa.HO 5 (a':=.sl 1 (mZ (wo n 0)) .any) ?_ ?_
 . change AV.W (.sl 1 [.nil] .exact) (.sl 1 [ints []] .any)
   exact R4 rfl (by simp) (by simp) λi a a' h1 h2=>by
    cases i with
    |zero=>cases h1;cases h2;exact eU 1
    |succ i=>simp at h1
 refine aa.loop (n+1) (λk s=>∃env σ',s=⟨env,σ',[],.no⟩/\(env 1=ints xs/\env 2=.cp (.agg [f]) 0/\env 5=.sl 1 (mZ (wo n k)) .any/\env 17=int ((n:Int)+1)/\env 18=int k)/\σ.Le σ'/\∀k'<k,∀x∈wo n k',G x=false) ⟨_,_,rfl,by simp[hx],af.le_refl _,by simp⟩ ?_
 rintro c0 k _ hk ⟨env,σ',rfl,⟨o,r,e5,g,ui⟩,J,L⟩ ih
 have hM:=Oh n k;obtain⟨M,B⟩:∃M,M=wo n k:=⟨_,rfl⟩;rw[<-B]at hM e5;apply rn;simp[g,ui];apply aH.intro<;>intro g1<;>simp at g1<;>simp[o,e5,g1]
 . have b0:M.length<=27:=by
    rw[B];exact aar (H5 n k) (aar (Nat.pow_le_pow_left hn k) (Nat.pow_le_pow_right (n:=3) (by decide) (show k<=3 by omega)))
   refine aa.loop M.length (λi s=>∃env σ' a,s=⟨env,σ',[],.no⟩/\(env 1=ints xs/\env 2=.cp (.agg [f]) 0/\env 17=int ((n:Int)+1)/\env 18=int k/\env 20=.sl 1 (mZ M) .any/\env 21=int M.length/\env 22=int i/\env 6=a)/\Tok σ σ' a 1 (mZ ((M.take i).flatMap (nxt n)))/\∀x∈M.take i,G x=false) ⟨_,_,.nil,rfl,by simp[o,r,g,ui],⟨J,.inl ⟨rfl,by simp⟩⟩,by simp⟩ ?_
   rintro c1 i _ hi ⟨env,σ',a,rfl,⟨o,r,g,ui,zk,wx,wy,u⟩,Z,v⟩ a9
   apply rn;simp[wx,wy];apply aH.intro<;>intro N<;>simp at N<;>simp[ui,zk,wy,u,N]
   . obtain ⟨ab,C,ad⟩:=hM _ (zD N)
     have al:=yP n (M.take i);have aL:((M.take i).flatMap (nxt n)).length<=200:=aar al (aar (Nat.mul_le_mul (by rw[abk];omega:(M.take i).length<=27) hn) (by decide))
     obtain⟨x,D⟩:∃x,x=M[i]:=⟨_,rfl⟩;rw[<-D]at ab C ad;simp only[<-D];refine aa.loop x.length (λj s=>∃env t b,s=⟨env,t,[],.no⟩/\(env 1=ints xs/\env 2=.cp (.agg [f]) 0/\env 17=int ((n:Int)+1)/\env 18=int k/\env 20=.sl 1 (mZ M) .any/\env 21=int M.length/\env 22=int i/\env 6=a/\env 8=ints x/\env 26=ints x/\env 27=int x.length/\env 28=int j/\env 9=b)/\Tok σ' t b 1 ((x.take j).map int)) ⟨_,_,.nil,rfl,by simp[o,r,g,ui,zk,wx,wy,u],.nil σ' 1⟩ ?_
     rintro c2 j _ hj ⟨env,t,b,rfl,⟨o,r,g,ui,zk,wx,wy,u,A,O,P,F,e9⟩,w⟩ av
     apply rn;simp[P,F];apply aH.intro<;>intro g3<;>simp at g3<;>simp[o,r,O,F,e9,g3]
     . have g4:=C _ (zD g3)
       have g5:x[j].toNat<xs.length:=by omega
       have g6:(xs[x[j].toNat]:Int)=x[j]:=by rw[a8 _ g5];omega
       have g7:x[j]<(xs.length:Int):=by omega
       simp[g4,g7,g6];have H:(x.take (j+1)).map int=(x.take j).map int++[int x[j]]:=by rw[zG g3,aax];rfl
       refine aN lay rfl rfl rfl dC rfl dC rfl rp (by decide) (by simp only[aaC,abk,aaI,abi];omega) (σ0:=σ') (es:=(x.take j).map int) (xs:=[int x[j]]) (by simpa using w) (.inr ⟨_,rfl⟩) λa' p Q=>?_
       rw[<-H]at Q;apply rn;simp[F];refine⟨by omega,av _ (by omega) ⟨_,_,a',rfl,by simp[o,r,g,ui,zk,wx,wy,u,A,O,P],Q⟩⟩
     . have ej:j=x.length:=by omega
       subst ej;rw[aav]at w;have R:=Z.up w.1;have E:=R.1;refine bK.xr (hf x t _ C (by omega) E ?_) (.cons w.W .nil)
       have S:G x=true->ints (GM n G)=ints x:=λq=>by
        rw[Qm (i:=i) (by omega) (by grind) L (by rw[<-B];exact v) (by grind)]
        grind
       cases hG:G x with
       |true=>rw[S hG]at h;apply rn;simp[e9,aH];refine .pD w.W (.less E (.done h))
       | false=>
         by_cases gl:0<x.length
         have ax:=GL gl λc hc=>(C c hc).1
         have gx:0<=(x.length:Int)-1/\(x.length:Int)-1<x.length/\1<=(x.length:Int):=by omega
         apply rn;simp[A,aH,gl,gx,ax];refine⟨by omega,by omega,?_⟩
         refine aa.jd (λe s=>(e 1=ints xs/\e 2=.cp (.agg [f]) 0/\e 17=int ((n:Int)+1)/\e 18=int k/\e 20=.sl 1 (mZ M) .any/\e 21=int M.length/\e 22=int i/\e 6=a/\e 8=ints x/\e 13=int (cX x))/\s=t) ⟨by simp[o,r,g,ui,zk,wx,wy,u,A],rfl⟩ ?_
         rotate_left
         have ay:cX x=0:=by
          have:x=[]:=abN.1 (by omega)
          subst this;rfl
         apply rn;simp[A,aH,gl];refine aa.jd (λe s=>(e 1=ints xs/\e 2=.cp (.agg [f]) 0/\e 17=int ((n:Int)+1)/\e 18=int k/\e 20=.sl 1 (mZ M) .any/\e 21=int M.length/\e 22=int i/\e 6=a/\e 8=ints x/\e 13=int (cX x))/\s=t) ⟨by simp[o,r,g,ui,zk,wx,wy,u,A,ay],rfl⟩ ?_
         rotate_left
         all_goals
          rintro env _ ⟨⟨o,r,g,ui,zk,wx,wy,u,A,z⟩,rfl⟩
          refine aa.loop (n-cX x) (λd s=>∃env p a',s=⟨env,p,[],.no⟩/\(env 1=ints xs/\env 2=.cp (.agg [f]) 0/\env 17=int ((n:Int)+1)/\env 18=int k/\env 20=.sl 1 (mZ M) .any/\env 21=int M.length/\env 22=int i/\env 6=a'/\env 8=ints x/\env 13=int ((cX x:Int)+d))/\Tok σ p a' 1 (mZ ((M.take i).flatMap (nxt n)++(List.range' (cX x) d).map λ(j:Nat)=>x++[(j:Int)]))) ⟨_,_,a,rfl,by simp[o,r,g,ui,zk,wx,wy,u,A,z],by simpa using R⟩ ?_
          rintro c3 d _ hd ⟨env,p,a',rfl,⟨o,r,g,ui,zk,wx,wy,u,A,z⟩,T⟩ aC
          apply rn;simp[o,z];apply aH.intro<;>intro g6<;>simp at g6<;>simp[wy,u,A,g6]
          . refine pQ lay rfl dC rfl rp (es:=x.map int) (sp:=.any) (l:=0) (h:=x.length) (by simp) (λcap U=>⟨⟨⟨.i64,by simp⟩,by simpa using U⟩,⟨⟨.i64,by simp⟩,aao _⟩,rfl⟩) (by simp) λb2 V=>?_
            have X:Tok p p b2 1 (x.map int):=by
             rw[abQ,abe (by simp)]at V
             rcases V with rfl|⟨e,rfl⟩
             . exact .exact _ _ _
             . rw[e];exact .nil _ _
            apply rn;simp[z];refine aN lay rfl rfl rfl dC rfl dC rfl rp (by decide) (by simp only[aaC,aaI,abi];omega) (σ0:=p) (es:=x.map int) (xs:=[int ((cX x:Int)+d)]) (by simpa using X) (.inr ⟨_,rfl⟩) λa2 b1 I=>?_
            have H:x.map int++[int ((cX x:Int)+d)]=(x++[((cX x+d:Nat):Int)]).map int:=by rw[aax,Int.natCast_add];rfl
            rw[H]at I;refine aa.HO 71 (a':=ints (x++[((cX x+d:Nat):Int)])) (show AV.W a2 _ from I.W) ?_
            apply rn;simp
            have aE:mZ ((M.take i).flatMap (nxt n)++(List.range' (cX x) (d+1)).map λ(j:Nat)=>x++[(j:Int)])=mZ ((M.take i).flatMap (nxt n)++(List.range' (cX x) d).map λ(j:Nat)=>x++[(j:Int)])++[ints (x++[((cX x+d:Nat):Int)])]:=by rw[List.range'_1_concat,aax,<-List.append_assoc,mZ,aax];rfl
            refine aN lay rfl rfl rfl qg rfl qg rfl dC (by decide) (by simp only[aaC,aas,List.length_range',aaI,abi];omega) (σ0:=σ) (es:=mZ ((M.take i).flatMap (nxt n)++(List.range' (cX x) d).map λ(j:Nat)=>x++[(j:Int)])) (xs:=[ints (x++[((cX x+d:Nat):Int)])]) (by simpa using T.up I.1) (.inr ⟨_,rfl⟩) λa3 b3 Y=>?_
            rw[<-aE]at Y;apply rn;simp[z];refine⟨by omega,aC _ (by omega) ⟨_,_,a3,rfl,by simp[o,r,g,ui,zk,wx,wy,A,Int.add_assoc],Y⟩⟩
          . have ed:d=n-cX x:=by omega
            subst ed;refine⟨by omega,a9 _ (by omega) ⟨_,_,a',rfl,by simp[o,r,g,ui,zk,wx,u],?_,λy hy=>?_⟩⟩
            . rw[zG N,aby,acs,<-D]
              exact T
            . rw[zG N,<-D]at hy
              rcases aaq.1 hy with hy|hy
              . exact v y hy
              . rw[lb.1 hy];exact hG
   . have ei:i=M.length:=by omega
     subst ei;rw[aav]at Z v;refine⟨by omega,?_⟩
     refine aa.HO 5 (a':=.sl 1 (mZ (wo n (k+1))) .any) ?_ (ih _ (by omega) ⟨_,_,rfl,by simp[o,r,g],Z.1,λk' q x hx=>?_⟩)
     . change AV.W a _
       have:=Z.W;rw[B]at this;exact this
     grind
 . have ek:k=n+1:=by omega
   subst ek;have e:xs=pI n:=List.ext_getElem (by grind) λj q1 q2=>by grind
   rw[Qn L,<-e]at h;exact .less J (.done h)
def H6(w:fP):acX:=GM w.aF.length λl=>decide (me (w.only l) 72=me w 72)
theorem Kg{w:fP}(a:w.Valid){l}(b:l.length<=w.aF.length):yI (w.only l):=by
 refine⟨aar (List.length_filterMap_le _ _) (aar b a.GD.1),λc d=>a.GD.2 c ?_⟩;obtain⟨i,_,h⟩:=List.mem_filterMap.1 d
 grind
theorem GN(g:m.solo=true){w}(h:w.qy)(o:w.Open)(hSub:∀l ,(∀c∈l,0<=c/\c<(w.aF.length:Int))->l.length<=w.aF.length->(w.only l).Open)(p:eY w [] [] []=0)(v:KF (.val (.cq [ints (H6 w),int 0])) σ):aA prog m 39 [dA w] σ KF:=by
 have y:Wl [dA w,nv,nv,nv] [dA w,ints [],ints [],ints []]:=Rf (.refl _) (eU 1) (eU 1) (eU 1);have z:=o.px;have r:=AT w 72;refine aA.start lay [1] [] 1 Tryz.func39 rfl rfl (by rfl) (by kernel_rfl) ?_;simp[Tryz.f39];refine bM.intro λwb A=>?_
 simp;refine bS Tryz.func41 rfl rfl y (kz g h (by simp) (λq=>absurd p q) λq B fb mb s=>?_);refine aa.run lay [1] ?_;simp;refine cf Tryz.func45 rfl (yL g o s.yM λi I C=>?_);have a:=s.less C;refine aa.runN lay [1] 3 ?_;simp;refine bM.intro λD k=>?_
 simp;change aa _ _ _ _ _ _ _ _ _;refine aa.bt 6 (b:=D) (ints (me w 72)) (af.aj _ _ _) (by simp) rfl ?_;rw[ew k];have d:i wb=some (.cells (Ew w)):=a _ _ (af.aj _ _ _);refine aa.run lay [1] ?_;simp[d];refine cf Tryz.func74 rfl (qZ (by omega) ?_);refine aa.run lay [1] ?_;simp;have n:w.Valid:=fP.valid h (by unfold eY at p;omega);refine cf Tryz.func68 rfl (Kf z.2 rfl (by simp) (G:=λl=>decide (me (w.only l) 72=me w 72)) (λl E K t u f F=>dh Tryz.func69 rfl rfl rfl (EO g (hSub l t u) ⟨h.ways,n.way,n.bf⟩ (Kg n u) (by omega) t (by omega) (f _ _ d) F)) (mY _) (λj q=>by grind) ?_);refine aa.run lay [1] ?_;simp;exact .less (λc x H=>a _ _ ((af.ai _ _ λe=>by simp_all).trans H)) (.done v)
end
open Go.cE Go.Conc
theorem yQ  p :∀n ,n<=6->(0<=aT ((pI n).filter p)/\aT ((pI n).filter p)<64)/\aB (aT ((pI n).filter p))=(pI n).filter p
 | 0,_=>by
   show(0<=aT []/\aT []<64)/\aB (aT [])=[];decide
 | n + 1,h=>by
   obtain⟨a,b⟩:=yQ p n (by omega);rw[tX];split
   . rw[nu]
     exact⟨(Gr a (by omega)).1,by rw[AH a (by omega) λe c=>by grind,b]⟩
   simp_all
section
variable{w:fP}
abbrev EP(w:fP)(es cs:acX):acX:=es++cs.map λ(c:Int)=>c+(w.fair.aD.length:Int)
theorem Oi{i:Int}(h:0<=i/\i<w.fair.aD.length):aS (jf w) i=aS w.fair i:=by
 have:i.toNat<w.fair.aD.length:=by omega
 unfold aS jf
 grind
theorem Oj{c:Int}(h:0<=c/\c<w.aF.length):aS (jf w) (c+w.fair.aD.length)=(Ck w c).lost:=by
 have a:c.toNat<w.aF.length:=by omega
 have e:(c+w.fair.aD.length).toNat=w.fair.aD.length+c.toNat:=by omega
 unfold aS jf Ck
 simp_all
theorem VS:(jf w).aD.length=w.fair.aD.length+w.aF.length:=by simp_all
theorem ER{es cs:acX}(b:∀i∈es,0<=i/\i<w.fair.aD.length)(d:∀i∈cs,0<=i/\i<w.aF.length):vd (jf w) (dg w es cs) (EP w es cs):=
 ⟨rfl,rfl,rfl,rfl,abq _,λi a=>by
   grind,by
   show _=(es++cs.map λ(c:Int)=>c+(w.fair.aD.length:Int)).map (aS (jf w));rw[aax,List.map_map];show es.map (aS w.fair)++_=_;rw[acb (g:=aS (jf w)) λi a=>(Oi (b i a)).symm];congr 1
   . exact acb λi a=>(Oj (d i a)).symm⟩
theorem Kh(b:w.Valid){es cs:acX}(f:∀i∈es,0<=i/\i<w.fair.aD.length)(g:∀i∈cs,0<=i/\i<w.aF.length)(j:es.length+cs.length<=6):(dg w es cs).Good:=by
 have a:=jT b.zF b.px;have c:=ER f g
 have d:∀e∈(dg w es cs).aD,e∈(jf w).aD:=λe q=>by rw[c.tH]at q;obtain⟨i,h,rfl⟩:=aaA.1 q;exact fY (c.Sn i h)
 have hlen:(dg w es cs).aD.length=es.length+cs.length:=by grind
 exact⟨⟨by omega,a.fits.roads,a.fits.row,λe q=>a.fits.marks e (d e q)⟩,a.fr,a.to,a.le,a.cP,a.aR,by omega,λe q=>a.tH e (d e q),a.Kv⟩
theorem jU{h i}(hi:i∈dR w h):0<=i/\i<w.fair.aD.length:=q8 (aaR.1 hi).1
theorem n8{h i}(hi:i∈de w h):0<=i/\i<w.aF.length:=q8 (aaR.1 hi).1
theorem GO  w   h :(dR w h).length<=w.fair.aD.length:=by
 have:=aaU (pE w h) (pI w.fair.aD.length)
 rwa [mY]at this
theorem GP  w   h :(de w h).length<=w.aF.length:=by
 have:=aaU (pC w h) (pI w.aF.length)
 rwa [mY]at this
theorem fP.Valid.kE(a:w.Valid)(h:Int):aB (kE w h)=dR w h:=(yQ _ _ (by have:=a.px;omega)).2
theorem fP.Valid.kC(a:w.Valid)(h:Int):aB (kC w h)=de w h:=(yQ _ _ (by have:=a.px;omega)).2
abbrev mh(w:fP)(h:Int):Fr:=dg w (dR w h) (de w h)
abbrev mn(w:fP)(h:Int):acX:=EP w (dR w h) (de w h)
theorem rk  w   h :vd (jf w) (mh w h) (mn w h):=ER (λ_=>jU) λ_=>n8
theorem pf(a:w.Valid)  h :(mh w h).Good:=Kh a (λ_=>jU) (λ_=>n8) (by have:=GO w h;have:=GP w h;have:=a.px;omega)
theorem fP.Valid.open(a:w.Valid):w.Open:=by
 have c:=a.px;refine⟨⟨by omega,a.GD.1⟩,λh=>?_⟩;have hb:=pf a h;obtain⟨v,b⟩:=abE _ a.some;obtain⟨u,d,_⟩:=(rk w h).way (jT a.zF c) hb b;refine⟨?_,?_,?_,?_⟩<;>simp only[a.kE,a.kC]
 . exact λ_=>jU
 . exact λ_=>n8
 . exact hb
 grind
end
