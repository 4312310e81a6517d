import Derived.Test.YtkcceaplmgdnfaaGreatDoorC18
set_option linter.all false
set_option maxHeartbeats 1000000
set_option maxRecDepth 4000
namespace Go.Proofs.YtkcceaplmgdnfaaGreatDoor
open Go.Proofs.Tryz (prog)
section
open Go.cz Go.Conc
variable{m:Mo}{σ:ab}{KF:adm}
theorem Of:mD prog nn:=⟨⟨_,_,Tryz.func93,rfl,rfl,rfl⟩,⟨_,_,Tryz.func94,rfl,rfl,rfl⟩⟩
def yH(w:gO):Prop:=w.aD.length<=3/\∀c∈w.aD,(0<=c.town/\c.town<w.bf)/\0<=c.hour/\c.hour<=72
def Rt(w:gO)(c:O4):Int:=(qY w.ways w.bf.toNat c.town c.hour).getD 0 0
def iy(w:gO)(j:Nat):Int:=match w.aD[j]? with|some c=>Rt w c|none=>0
abbrev uP(fb mb:Nat)(w:gO)(o:Nat):AV:=Qt fb mb w (int (iy w 0)) (int (iy w 1)) (int (iy w 2)) [9,10] o
structure Kg(σ:ab)  fb mb  (w:gO)  σ' :Prop where
 f0:σ fb=none
 m0:σ mb=none
 ne:fb≠mb
 eq:σ'=(σ.set mb (m8 (pQ .u8) [])).set fb (.part (bG 9))
def vB(n:Nat):adB:=[9,10]++(List.range n).map (11+·)
abbrev XK(mb:Nat)(w:gO):adF:=[jF w.fair.aA,rows w.fair.roads,int w.fair.aT,int w.fair.eL,int w.fair.cB,int w.fair.aY,int w.bf,uN w.ways,kW w.aD,.lit (.int .i32 0),.lit (.int .u32 0),int 0,int 0,int 0,.map mb]
abbrev SH(fb mb:Nat)(w:gO)(o:Nat):AV:=Qt fb mb w (int 0) (int 0) (int 0) (vB w.aD.length) o
def TP(n:Nat):Nat->adn:=λi=>if i=9 then some (.int .i32 0)else if i=10 then some (.int .u32 0)else if 11<=i/\i<11+n then some (.int .i64 0)else none
theorem nW{n i}:i∈vB n↔i=9\/i=10\/11<=i/\i<11+n:=by
 unfold vB;rw[aaN,aaU];constructor
 . grind
 . rintro(h|h|h)
   . simp_all
   . simp_all
   . exact .inr ⟨i-11,Rp.2 (by omega),by omega⟩
theorem Og{n i}(h:i∈vB n):9<=i:=by have:=nW.1 h;omega
theorem SI{n mb w}(h:n<=3)  i   v  (a:TP n i=some v):(XK mb w)[i]?=some (.lit v):=by
 unfold TP at a;split at a
 . simp_all
 split at a
 . simp_all
 split at a
 . next e=>
   cases a;have:i=11\/i=12\/i=13:=by omega
   rcases this with rfl|rfl|rfl<;>rfl
 . cases a
theorem Oh  n i :TP n i=none↔i∉vB n:=by
 rw[nW];unfold TP
 grind
theorem tK{w}(hs:m.solo=true)(hl:w.ways.length<1152921504606846976)(hw:∀x∈w.ways,tH w.bf x)(hn:1<=w.bf/\w.bf<=4)(hc:yH w)(hK:∀σ' fb mb,Kg σ fb mb w σ'->KF (.val (uP fb mb w 0)) σ'):az prog m 48 [dP w] σ KF:=by
 have h3:=hc.1;refine az.start lay [10] [] 1 Tryz.func48 rfl rfl (by rfl) (by kernel_rfl) ?_;simp[Tryz.f48];refine vf (pQ .u8) rfl λmb CO=>?_
 refine aa.run lay [10] ?_;simp[aM];refine bS.intro λfb S=>?_
 simp;obtain⟨fm,mf,I⟩:=ab.aQ S;refine bS.intro λbw B=>?_
 obtain⟨wf,T,B⟩:=ab.aQ B;obtain⟨wm,mw,B⟩:=ab.aQ B;simp;refine bS.intro λgb o=>?_
 obtain⟨gw,wg,o⟩:=ab.aQ o;obtain⟨gf,U,o⟩:=ab.aQ o;obtain⟨gm,mg,o⟩:=ab.aQ o;simp[wf,T,wm,mw,gw,wg,gf,U,gm,mg,fm,mf,ab.ah];refine aa.part fb (XK mb w) (vB w.aD.length) (TP w.aD.length) (bw:=bw) (l1:=[.ref fb 0]) (l2:=[SH fb mb w 0]) (by simp[ab.ah,T,U]) (SI h3) (Oh w.aD.length) (λt=>.inl rfl) wf (by simp[ab.ah,wg]) rfl (λi a a' W h2=>?_) ?_
 . match i with
   |0=>simp at W h2;subst W;subst h2;exact .inr ⟨0,rfl,rfl⟩
   |i+1=>simp at W
 refine aa.bd 3 (b:=bw) (SH fb mb w 0) (ab.ai _ _ _) (by simp) rfl ?_;refine aa.jQ (λe σ'=>(e 3=.cp (SH fb mb w 0) 0/\e 4=.ref gb 0/\e 15=kW w.aD/\e 16=int w.aD.length/\e 17=int 0)/\σ' fb=some (.part (TP w.aD.length))/\σ' gb=some (.cells [.lit (.int .u64 0),.lit (.int .u32 0)])/\σ' mb=some (m8 (pQ .u8) [])/\∀c x,σ c=some x->c≠fb/\c≠mb/\c≠gb/\σ' c=some x) ⟨by simp,by simp[ab.del,ab.set,T],by simp[ab.del,ab.set,gw,gf],by simp[ab.del,ab.set,mw,mf,mg],λc x C=>?_⟩ ?_
 . have D:c≠fb:=λe=>by simp_all
   have E:c≠mb:=λe=>by simp_all
   have P:c≠gb:=λe=>by simp_all
   have X:c≠bw:=λe=>by simp_all
   exact⟨D,E,P,by simp[ab.del,ab.set,D,E,P,X,C]⟩
 rintro env al ⟨⟨g,h,rZ,xy,d⟩,F,s2,s3,H⟩;refine aa.Vk hs (n:=w.aD.length) (fo:=9) (GI:=λx=>x=.map []) (λj=>.int .i64 (iy w j)) Rq Rr AG AH Of (by omega) U fm gm s2 F rfl rfl (λj Q q=>(Oh _ _).1 q (nW.2 (.inr (.inr (by omega))))) s3 rfl rfl rfl ?_;rintro A ⟨J,rfl,Y,rfl,rfl,K,p,y,L,G⟩ Fin kd Z k0 M;refine aa.jQ (λe σ'=>(e 3=.cp (SH A.fb A.mb w 0) 0/\e 4=.ref A.gb 0/\e 15=kW w.aD/\e 16=int w.aD.length/\e 17=int 0)/\σ' A.fb=some .ig/\∀c x,σ c=some x->c≠A.fb/\c≠A.mb/\σ' c=some x) ⟨⟨g,h,rZ,xy,d⟩,ab.ai _ _ _,λc x C=>?_⟩ ?_
 . obtain⟨D,E,P,X⟩:=H c x C
   exact⟨D,E,by simp[ab.del,ab.set,D,E,P,X]⟩
 rintro env av ⟨⟨g,h,rZ,xy,d⟩,F,H⟩;refine aa.Vj (λk s=>∃e σ',s=⟨e,σ',[],.told kd Z k0⟩/\(e 3=.cp (SH A.fb A.mb w 0) 0/\e 4=.ref A.gb 0/\e 15=kW w.aD/\e 16=int w.aD.length/\e 17=int k)/\σ' A.fb=some .ig/\∀c x,σ c=some x->c≠A.fb/\c≠A.mb/\σ' c=some x) ⟨_,_,rfl,⟨g,h,rZ,xy,d⟩,F,H⟩ ?_ ?_
 . rintro r k _ hk ⟨env,σ',rfl,⟨g,h,rZ,xy,d⟩,F,H⟩ ih
   rw[J]at hk;have z:k<w.aD.length:=by omega
   have f:(k:Int)<w.aD.length:=by omega
   refine aa.runN lay [] 17 ?_;simp[g,h,rZ,xy,d,z,f];refine bS.intro λD ax=>?_
   simp[g,h,rZ,xy,d,z,f];refine bS.intro λE N=>?_
   obtain⟨n1,n2,N⟩:=ab.aQ N;simp[g,h,rZ,xy,d,z,f,n1,n2,ab.ah];change aa _ _ _ _ _ _ _ _ _;refine aa.runN lay [] 4 ?_;simp[g,h,rZ,xy,d,z,f,n1,n2,ab.ah];change aa _ _ _ _ _ _ _ _ _;refine aa.bd 6 (b:=E) (iv w.aD[k]) (ab.ai _ _ _) (by simp) rfl ?_;refine aa.bd 5 (b:=D) (int k) (by simp[ab.del,ab.set,n1,n2]) (by simp) rfl ?_;refine aa.Ms rfl (by rw[p];rfl) rfl (by simp) (by rw[p];exact Tryz.func89) rfl rfl (by simp[g,h,rZ,xy,d,z,f]) ?_;refine aa.runN lay [] 4 ?_;simp[g,h,rZ,xy,d,z,f];change aa _ _ _ _ _ _ _ _ _;have Q:A.n-(r+1)=k:=by omega
   have b1:A.fb≠D:=λe=>by simp_all
   have b2:A.fb≠E:=λe=>by simp_all
   have O:=hc.2 _ (zs z);refine aa.QT y (hold':=VA) (first:=[]) (cap:=[.ref A.gb 0,.cp (SH A.fb A.mb w 0) 0,.cp (iv w.aD[k]) 0,.cp (int k) 0]) rfl rfl rfl (by simp) (by simp[g,h,rZ,xy,d,z,f]) Tryz.func90 rfl rfl (by show(4:Nat)<=25;decide) (by simp[ab.del,ab.set,b1,b2,F]) (by kernel_rfl) (by rw[p];exact Tryz.func91) rfl rfl (by rw[K];exact Tryz.func94) rfl rfl (λk1=>?_) ?_
   . rw[Q]
     exact yG (λi hi=>Og hi) ⟨rfl,rfl,Y,K,p,y⟩ (by omega) (λx=>by rw[L]) hl hw hn O.1 O.2 (by rw[G];simp[iy,z,Rt]) rfl
   have f1:-9223372036854775808<=(k:Int)+1/\(k:Int)+1<=9223372036854775807:=by omega
   refine aa.run lay [10] ?_;simp[g,h,rZ,xy,d,z,f,f1.1,f1.2];refine ih _ ⟨_,_,rfl,by simp[g,h,rZ,xy,d,z,f],by simp[ab.del,ab.set,b1,b2,F],λc x C=>?_⟩;obtain⟨x1,x2,x3⟩:=H c x C;have y1:c≠D:=λe=>by grind
   have y2:c≠E:=λe=>by grind
   exact⟨x1,x2,by simp[ab.del,ab.set,y1,y2,x3]⟩
 . rintro _ ⟨env,σ',rfl,⟨g,h,rZ,xy,d⟩,F,H⟩
   rw[J]at d;refine aa.runN lay [] 9 ?_;simp[g,h,rZ,xy,d];change aa _ _ _ _ _ _ _ _ _;refine aa.MA y ((cz.bg (env.upd 18 (bool false)) (some 25) (.cA [])).upd 3 (.cp (uP A.fb A.mb w 0) 0)) rfl (by rw[p];rfl) rfl (by simp) (by rw[p];exact Tryz.func95) rfl rfl (by simp_all) F rfl M (λkk a7 t v R=>?_) λa ha=>?_
   . change V kk v (cz.bg (env.upd 18 (bool false)) (some 25) (.cA []) t)at R
     by_cases e:t=3
     . subst e
       rw[show(cz.bg (env.upd 18 (bool false)) (some 25) (.cA [])) 3=.cp (SH A.fb A.mb w 0) 0 by simp[g]]at R;rw[show((cz.bg (env.upd 18 (bool false)) (some 25) (.cA [])).upd 3 (.cp (uP A.fb A.mb w 0) 0)) 3=.cp (uP A.fb A.mb w 0) 0 by simp];refine V.ZX rfl rfl (λu=>P6 (l:=XK A.mb w) (hole:=vB w.aD.length) rfl λj Q ay=>?_) R;by_cases hm:j∈vB w.aD.length
       . have aC:11<=j/\j<11+w.aD.length:=by
          have:=nW.1 hm
          simp_all
         refine .inr ⟨.int .i64 (iy w (j-11)),?_,rfl,?_⟩
         . have:=a7 (j-11) (by omega)
           rwa [G,show A.cell (j-11)=j by unfold bN.cell;omega]at this
         . have:j=11\/j=12\/j=13:=by omega
           rcases this with rfl|rfl|rfl<;>rfl
       . refine .inl ⟨hm,?_⟩
         have aE:j<15:=Q;have hz:∀i,w.aD.length<=i->int (iy w i)=int 0:=λi hi=>by rw[iy,abI hi]
         have aL:¬(11<=j/\j<11+w.aD.length):=λq=>hm (nW.2 (.inr (.inr q)))
         by_cases a8:j=11
         . subst a8;simp[hz 0 (by omega)]
         by_cases a9:j=12
         . subst a9;simp[hz 1 (by omega)]
         by_cases ad:j=13
         . subst ad;simp[hz 2 (by omega)]
         have:j=0\/j=1\/j=2\/j=3\/j=4\/j=5\/j=6\/j=7\/j=8\/j=9\/j=10\/j=14:=by omega
         rcases this with rfl|rfl|rfl|rfl|rfl|rfl|rfl|rfl|rfl|rfl|rfl|rfl<;>rfl
     . simpa[Env.upd,e]using R
   . rw[L]at ha
     subst ha;refine aa.run lay [10] ?_;simp[g,h,rZ,xy,d];refine .less (σ':=(σ.set A.mb (m8 (pQ .u8) [])).set A.fb (.part (bG 9))) ?_ (.done (hK _ _ _ ⟨I,CO,fm,rfl⟩));intro c x C;by_cases c1:c=A.fb
     . simp_all
     by_cases c2:c=A.mb
     . subst c2
       rw[ab.ah _ _ c1,ab.ai]at C;rw[ab.ah _ _ c1,ab.ai];exact C
     rw[ab.ah _ _ c1,ab.ah _ _ c2]at C ⊢
     simp_all
def fh(w:gO)(cG a aD:adA):Int:=if nu w=0 then(if cG.all (br · 0 72)=false then 1 else if a.all (br · 0 (w.fair.aA.length-1))=false then 3 else if aD.all (br · 0 (w.aD.length-1))=false then 3 else 0)else nu w
theorem qA{α}  g :∀{l:List α},fX g l=0->∀x∈l,g x=0
 |[],_,x,hx=>by simp at hx
 | a ::l,h,x,hx=>by
   unfold fX at h;split at h
   . next e=>
     rcases abf.1 hx with rfl|hx
     . exact e
     . exact qA g h x hx
   omega
theorem Kh{t x}(h:qy t x=0):tH t x:=by
 unfold qy at h;split at h
 . cases h
 next a=>
 split at h
 . cases h
 next b=>
 split at h
 . cases h
 split at h
 . cases h
 next c=>
 split at h
 . cases h
 next d=>
 split at h
 . cases h
 next e=>
 have f:=dA (by simpa using a);have g:=dA (by simpa using b);have i:=dA (by simpa using c);have j:=dA (by simpa using d);have k:=dA (by simpa using e);unfold tH;omega
structure gO.Valid(w:gO):Prop where
 Oi:w.qz
 bf:1<=w.bf/\w.bf<=4
 cY:∀x∈w.ways,tH w.bf x
 few:w.ways.length<=6
 GK:yH w
 late:∀c∈w.aD,c.lost.hour<=c.hour
 pI:w.fair.aA.length+w.aD.length<=6
 some:aH (ji w) []≠[]
theorem gO.valid{w}(d:w.qz)(h:nu w=0):w.Valid:=by
 unfold nu at h;split at h
 . cases h
 next f=>
 split at h
 . cases h
 next o=>
 split at h
 . omega
 next p=>
 split at h
 . cases h
 next q=>
 split at h
 . omega
 next g=>
 split at h
 . cases h
 next r=>
 split at h
 . cases h
 next i=>
 have j:=dA (a:=w.bf) (by simpa using f)
 have e:w.fair.aA.length+w.aD.length<=6:=by omega
 have b:∀c∈w.aD,((0<=c.town/\c.town<w.bf)/\0<=c.hour/\c.hour<=72)/\c.lost.hour<=c.hour:=λc b=>by
  have:=qA _ (by simpa using g) c b
  unfold zL at this;split at this
  . cases this
  next k=>
  split at this
  . cases this
  next l=>
  split at this
  . cases this
  next s=>
  have t:=dA (by simpa using k)
  have u:=dA (by simpa using l)
  omega
 have m:=mq d e;have v:iu (ji w)≠0:=i;refine⟨d,j,λx n=>Kh (qA _ (by omega) x n),by omega,⟨by omega,λc h=>(b c h).1⟩,λc h=>(b c h).2,e,(AN m).1 ?_⟩
 have:0<=iu (ji w):=by unfold iu;omega
 omega
theorem GL  p  (l:adA){i}  h :(l.drop i).all p=(p l[i] && (l.drop (i+1)).all p):=by rw[abu h,abr]
theorem kG{w}(A:m.solo=true)(y:w.qz){cG a aD}(D:cG.length<1000000/\a.length<1000000/\aD.length<1000000)
 (f:fh w cG a aD≠0->KF (.val (.cA [.lit (.pointer none),int (fh w cG a aD)])) σ)
 (r:fh w cG a aD=0->∀σ' fb mb,Kg σ fb mb w σ'->KF (.val (.cA [uP fb mb w 0,int 0])) σ'):az prog m 41 [dP w,ints cG,ints a,ints aD] σ KF:=by
 unfold fh at f r;refine fs [] Tryz.func41 rfl (by kernel_rfl) ?_;simp[Tryz.f41];refine cf Tryz.func33 rfl (GJ A y ?_);apply rn;simp;apply aG.intro<;>intro t<;>simp at t<;>simp[t]
 . simp[t]at f
   exact .done f
 have v:=gO.valid y t;have z:=y.ways;have E:=v.pI;simp only[t,aaO]at f r;refine aa.loop cG.length (λk s=>∃env,s=⟨env,σ,[],.no⟩/\env 2=ints a/\env 3=ints aD/\env 4=.cp (dP w) 0/\env 22=ints cG/\env 23=int cG.length/\env 24=int k/\cG.all (br · 0 72)=(cG.drop k).all (br · 0 72)) ⟨_,rfl,by simp⟩ ?_;rintro F k _ x ⟨env,rfl,B,C,q,vZ,KL,IG,b⟩ u;apply rn;simp[KL,IG];apply aG.intro<;>intro h<;>simp at h<;>simp[B,C,vZ,IG,h]
 . rw[GL _ _ h]at b
   refine cf Tryz.func71 rfl (eu ?_);apply rn;simp;refine aG.intro (λd=>?_) (λd=>?_)<;>(try simp at d)<;>(try simp[IG,d])
   . rw[d,acN]at b
     refine⟨by omega,u _ (by omega) ⟨_,rfl,?_,?_,?_,?_,?_,?_,b⟩⟩<;>simp[B,C,q,vZ,KL]
   . simp[b,d]at f
     exact .done f
 have ek:k=cG.length:=by omega
 subst ek;rw[acy,acT]at b;simp only[b,ack,aaH]at f r;refine aa.uF ?_;apply rn;simp;refine aa.loop a.length (λk s=>∃env,s=⟨env,σ,[],.no⟩/\env 4=.cp (dP w) 0/\env 34=.sl 1 [ints a,ints aD] .exact/\env 35=int 2/\env 36=int 0/\env 13=int 0/\env 41=ints a/\env 42=int a.length/\env 43=int k/\a.all (br · 0 (w.fair.aA.length-1))=(a.drop k).all (br · 0 (w.fair.aA.length-1))) ⟨_,rfl,by simp[q]⟩ ?_;rintro G k _ x ⟨env,rfl,q,i,g,j,n,o,p,e,b⟩ u;refine aa.runN lay [] 25 ?_;simp[p,e];apply aG.intro<;>intro h<;>simp at h<;>simp[q,j,o,e,h]
 . rw[GL _ _ h]at b
   refine aa.op rfl (cj rfl) (by simp) (λc=>by simp) (qd lay rfl Rl rfl rH (l:=[int w.fair.aA.length,int w.aD.length]) (by simp) (by simp[kS,aM]) ?_);apply rn;simp[n];refine⟨by omega,?_⟩;refine cf Tryz.func71 rfl (eu ?_);apply rn;simp;refine aG.intro (λd=>?_) (λd=>?_)<;>(try simp at d)<;>(try simp[e,d])
   . rw[d,acN]at b
     refine⟨by omega,u _ (by omega) ⟨_,rfl,?_,?_,?_,?_,?_,?_,?_,?_,b⟩⟩<;>simp[q,i,g,j,n,o,p]
   . rw[d,Bool.false_and]at b
     simp only[b,aaO]at f;exact .done (f (by decide))
 have ek:k=a.length:=by omega
 subst ek;rw[acy,acT]at b;simp only[b,ack,aaH]at f r;refine aa.again (by kernel_rfl) ?_;apply rn;simp[i,g];refine aa.loop aD.length (λk s=>∃env,s=⟨env,σ,[],.no⟩/\env 4=.cp (dP w) 0/\env 34=.sl 1 [ints a,ints aD] .exact/\env 35=int 2/\env 36=int 1/\env 13=int 1/\env 41=ints aD/\env 42=int aD.length/\env 43=int k/\aD.all (br · 0 (w.aD.length-1))=(aD.drop k).all (br · 0 (w.aD.length-1))) ⟨_,rfl,by simp[q,i,g]⟩ ?_;rintro H k _ x ⟨env,rfl,q,i,g,j,n,o,p,e,b⟩ u;refine aa.runN lay [] 25 ?_;simp[p,e];apply aG.intro<;>intro h<;>simp at h<;>simp[q,j,o,e,h]
 . rw[GL _ _ h]at b
   refine aa.op rfl (cj rfl) (by simp) (λc=>by simp) (qd lay rfl Rl rfl rH (l:=[int w.fair.aA.length,int w.aD.length]) (by simp) (by simp[kS,aM]) ?_);apply rn;simp[n];refine⟨by omega,?_⟩;refine cf Tryz.func71 rfl (eu ?_);apply rn;simp;refine aG.intro (λd=>?_) (λd=>?_)<;>(try simp at d)<;>(try simp[e,d])
   . rw[d,acN]at b
     refine⟨by omega,u _ (by omega) ⟨_,rfl,?_,?_,?_,?_,?_,?_,?_,?_,b⟩⟩<;>simp[q,i,g,j,n,o,p]
   . rw[d,Bool.false_and]at b
     simp only[b,aaO]at f;exact .done (f (by decide))
 have ek:k=aD.length:=by omega
 subst ek;rw[acy,acT]at b;simp only[b,ack,aaH]at f r;refine aa.again (by kernel_rfl) ?_;apply rn;simp[q,g];refine cf Tryz.func48 rfl (tK A z v.cY v.bf v.GK λσ' fb mb x=>?_);apply rn;simp;exact .done (r trivial σ' fb mb x)
end
section
open Go Go.cz Go.Conc
open Go.Extern
variable{m:Mo}{σ:ab}{KF:adm}
abbrev V7(t:Nat):Value:=.pointer (some ⟨1,t,none⟩)
abbrev V8(t:Nat):AV:=.mr 224 (.agg [.lit (V7 t)])
theorem vC{P}{t f:Nat}{name a a'}(h:∀k v,V k v a->∃r,fe P (Go.method (P.types.size+Made.depth) t v name)=some (f,r)/\V k r a'):ot P t name f a a':=λk O v K g b c=>by obtain⟨r,d,e⟩:=h k v b;exact oQ _ d (c r e)
theorem Ki{t f:Nat}{name}(h:∀h,fe prog (Go.method (prog.types.size+Made.depth) 224 (.agg #[h]) name)=some (f,.agg #[h])):ot prog 224 name f (.agg [.lit (V7 t)]) (.agg [.lit (V7 t)]):=vC λk v a=>by
 obtain⟨x,rfl,_⟩:=F9.1 a
 simp_all
theorem SJ  k   t :V k (.iface 224 (.agg #[V7 t])) (V8 t):=Rh.2 ⟨_,rfl,F9.2 ⟨_,rfl,.lit _⟩⟩
abbrev AU:AV:=.mr 105 (.agg [])
theorem Oj(h:KF (.val (bool false)) σ):az prog m 56 [.lit .nilIface,AU] σ KF:=by
 refine fs [] Tryz.func56 rfl (by kernel_rfl) ?_;simp[Tryz.f56];refine gQ lay rfl HX rfl (.inl ⟨rfl,rfl⟩) (.inl ⟨rfl,rfl⟩) ?_;apply rn;simp;refine oR (vx:=.nilIface) (vy:=.iface 105 (.agg #[])) (r:=.bool false) rfl (λk v a=>by simpa using Ay.1 a) (λk v a=>V.P9 (by simpa using a)) (by kernel_rfl) ?_;apply rn;simp;exact .done h
theorem Ok  h :fe prog (Go.method (prog.types.size+Made.depth) 224 (.agg #[h])  "Comparable")=some (237,.agg #[h]):=by kernel_rfl
theorem Qu(h:KF (.val (bool true)) σ):az prog m 98 [AU,AU,bool true] σ KF:=by
 refine fs [] Tryz.func98 rfl (by kernel_rfl) ?_;simp[Tryz.f98];refine aa.uF ?_;apply rn;simp;refine oR (vx:=.iface 105 (.agg #[])) (vy:=.iface 105 (.agg #[])) (r:=.bool true) rfl (λk v a=>V.P9 (by simpa using a)) (λk v a=>V.P9 (by simpa using a)) (by kernel_rfl) ?_;apply rn;simp;exact .done h
theorem H9(h:KF (.val (bool true)) σ):az prog m 56 [AU,AU] σ KF:=by
 refine fs [] Tryz.func56 rfl (by kernel_rfl) ?_;simp[Tryz.f56];refine gQ lay rfl HX rfl (.inr ⟨⟨_,_,rfl⟩,rfl⟩) (.inl ⟨rfl,rfl⟩) ?_;apply rn;simp;refine gQ lay rfl HX rfl (.inr ⟨⟨_,_,rfl⟩,rfl⟩) (.inl ⟨rfl,rfl⟩) ?_;apply rn;simp;refine cr.ext Tryz.func97 rfl rfl (by kernel_rfl) (e:=ReflectliteType.typeOf) (by kernel_rfl) (vt.pure (v:=.iface 224 (.agg #[V7 105])) (a:=V8 105) (λk f d=>?_) (λk=>SJ k _) ?_)
 . obtain⟨v,b,c⟩:=d.one
   subst b;rw[V.P9 c]
   kernel_rfl
 apply rn;simp;refine aa.P8 rfl rfl (cj rfl) (by simp) rfl (Ki Ok) Tryz.func237 rfl rfl (by kernel_rfl) (e:=ReflectliteType.method λt=>do Rtype.noPackHeld  "Comparable" t;pure (.bool (<-typeInfo t).comparable)) (by kernel_rfl) (vt.pure (v:=.bool true) (a:=bool true) (λk f d=>?_) (λk=>.lit _) ?_)
 . obtain⟨v,b,c⟩:=d.one
   subst b;obtain⟨u,rfl,g⟩:=F9.1 c;rw[Ay.1 g]
   kernel_rfl
 apply rn;simp;refine cf Tryz.func98 rfl (Qu ?_);apply rn;simp;exact .done h
theorem vD{w fb mb c}(b:c<3)(h:if 72<iy w c then KF (.val (.cA [int 0,AU])) σ else KF (.val (.cA [int (iy w c),.lit .nilIface])) σ):az prog m 55 [uP fb mb w 0,int c] σ KF:=by
 have:c=0\/c=1\/c=2:=by omega
 rcases this with rfl|rfl|rfl
 all_goals
  refine fs [] Tryz.func55 rfl (by kernel_rfl) ?_;simp[Tryz.f55];refine aG.intro (λa=>?_) (λa=>?_)<;>(try simp[-Int.not_lt,-Int.not_le]at a)<;>(try simp[a]at h)<;>(try simp[a])<;>(try exact .done h)
 all_goals exact .done h
def pE(w:gO)(h:Int)(i:Int):Bool:=decide ((aJ w.fair i).hour<=h)
def pC(w:gO)(h:Int)(i:Int):Bool:=decide (iy w i.toNat<=72) && decide (iy w i.toNat<=h)
def fY(w:gO)(h:Int):adA:=(nz w.fair.aA.length).filter (pE w h)
def ew(w:gO)(h:Int):adA:=(nz w.aD.length).filter (pC w h)
abbrev Ol(w:gO)(h:Int):AV:=.agg [u8 (aR (fY w h)),u8 (aR (ew w h))]
theorem nX  k   p :(nz (k+1)).filter p=(nz k).filter p++if p k then[(k:Int)]else[]:=by
 unfold nz;rw[aaZ,aaY,abz]
 grind
theorem nv  l   n :aR (l++[n])=bV (aR l) n:=by
 unfold aR
 simp_all
namespace CK
abbrev XL:adr:=[⟨6,.take [0,1,2,3,4,5] true (.one 6 (.done))⟩,⟨13,.take [0,3,6] false (.both 1 (.one 2 (.take [4,5] true (.one 7 (.done)))) (.one 2 (.take [1,4,5] true (.one 7 (.done)))))⟩]
theorem AW{w fb mb h}(H:w.fair.aA.length<=6)(I:w.aD.length<=3)(z:KF (.val (Ol w h)) σ):az prog m 59 [uP fb mb w 0,int h] σ KF:=by
 refine fs XL Tryz.func59 rfl (by kernel_rfl) ?_
 simp[Tryz.f59];refine bS.intro λb hb=>?_
 simp;refine bS.intro λd hd=>?_
 obtain⟨J,A,hd⟩:=ab.aQ hd;simp;refine aa.loop w.fair.aA.length (λk s=>∃env,s=⟨env,(σ.set b (.cells [u8 0,u8 0])).set d (.cells [u8 (aR ((nz k).filter (pE w h))),u8 0]),[],.no⟩/\env 0=uP fb mb w 0/\env 1=int h/\env 4=.ref b 0/\env 5=.ref d 0/\env 16=jF w.fair.aA/\env 17=int w.fair.aA.length/\env 18=int k) ⟨_,rfl,by simp⟩ ?_
 rintro K k _ B ⟨env,rfl,i,j,n,g,xy,o,tT⟩ p
 refine aa.runN lay [] 17 ?_;simp[o,tT];apply aG.intro<;>intro r<;>simp at r<;>simp[i,xy,tT,r]
 . have C:aJ w.fair k=w.fair.aA[k]:=by simp[aJ,r]
   refine bS.intro λq D=>?_
   obtain⟨L,M,E⟩:=ab.aQ D;obtain⟨N,O,P⟩:=ab.aQ E;simp
   change aa _ _ _ _ _ _ _ _ _
   refine aa.runN lay [] 2 ?_;simp
   change aa _ _ _ _ _ _ _ _ _
   refine aa.bd 7 (b:=q) (bc w.fair.aA[k]) (ab.ai _ _ _) (by simp) rfl ?_
   rw[eE (by omega)]
   apply rn;simp[j];have a:=nX k (pE w h);have t:pE w h k=decide (w.fair.aA[k].hour<=h):=by unfold pE;rw[C]
   apply aG.intro<;>intro u<;>simp at u<;>simp[g,tT,u,tA]
   . rw[t,show decide (w.fair.aA[k].hour<=h)=true by grind,aaK rfl]at a
     apply rn;simp[tT];refine⟨by omega,p _ (by omega) ⟨_,by rw[a,nv];rfl,by simp[i,j,n,g,xy,o]⟩⟩
   . rw[t,show decide (w.fair.aA[k].hour<=h)=false by grind,aaJ (by simp),abn]at a
     refine⟨by omega,p _ (by omega) ⟨_,by rw[a],by simp[i,j,n,g,xy,o]⟩⟩
 have ek:k=w.fair.aA.length:=by omega
 subst ek;rw[show(nz w.fair.aA.length).filter (pE w h)=fY w h from rfl]
 apply rn;simp;refine aa.loop w.aD.length (λk s=>∃env,s=⟨env,(σ.set b (.cells [u8 0,u8 0])).set d (.cells [u8 (aR (fY w h)),u8 (aR ((nz k).filter (pC w h)))]),[],.no⟩/\env 0=uP fb mb w 0/\env 1=int h/\env 4=.ref b 0/\env 5=.ref d 0/\env 39=int w.aD.length/\env 40=int k) ⟨_,rfl,by simp[i,j,n,g]⟩ ?_
 rintro v k _ B ⟨env,rfl,i,j,n,g,l,f⟩ p
 apply rn;simp[l,f];apply aG.intro<;>intro r<;>simp at r<;>simp[i,n,g,f,r,A,ab.ah]
 . have a:=nX k (pC w h)
   have t:pC w h k=(decide (iy w k<=72) && decide (iy w k<=h)):=rfl;refine cf Tryz.func55 rfl (vD (by omega) ?_)
   split
   . next u=>
     apply rn;simp;refine cf Tryz.func56 rfl (H9 ?_);apply rn;simp[f];rw[t,show decide (iy w k<=72)=false by simp;omega,Bool.false_and,aaJ (by simp),abn]at a
     refine⟨by omega,p _ (by omega) ⟨_,by rw[a],by simp[i,j,n,g,l]⟩⟩
   . next u=>
     apply rn;simp;refine cf Tryz.func56 rfl (Oj ?_);apply rn;simp[j];rw[t,show decide (iy w k<=72)=true by simp;omega,acN]at a
     apply aG.intro<;>intro y<;>simp at y<;>simp[g,f,y]
     . rw[show decide (iy w k<=h)=true by grind,aaK rfl]at a
       have:k=0\/k=1\/k=2:=by omega
       refine⟨?_,?_⟩
       all_goals
        refine cf Tryz.func101 rfl (Od ?_)
        rcases this with rfl|rfl|rfl
       all_goals
        apply pg;simp[tA];apply rn;simp[f]
       all_goals exact p _ (by omega) ⟨_,by rw[a,nv];rfl,by simp[i,j,n,g,l]⟩
     . rw[show decide (iy w k<=h)=false by grind,aaJ (by simp),abn]at a
       refine⟨by omega,p _ (by omega) ⟨_,by rw[a],by simp[i,j,n,g,l]⟩⟩
 . have ek:k=w.aD.length:=by omega
   subst ek;rw[show(nz w.aD.length).filter (pC w h)=ew w h from rfl]
   refine .less (λc x F=>?_) (.done z)
   have v:c≠b:=λe=>by grind
   have G:c≠d:=λe=>by grind
   rw[ab.ah _ _ v,ab.ah _ _ G,ab.ah _ _ v];exact F
end CK
theorem qB{b o l n}(a:σ b=some (.cells l))(c:l[o]?=some (.lit (.int .u32 n)))(h:KF (.val (bool (n !=0))) σ):az prog m 178 [.ref b o] σ KF:=by
 refine fs [] Tryz.func178 rfl (by kernel_rfl) ?_;simp[Tryz.f178];refine cr.ext Tryz.func199 rfl rfl (by kernel_rfl) (e:=Atomic.loadT (.int .u32)) (by kernel_rfl) (Ga (oP b o) a c ?_);apply rn;simp;exact .done h
theorem SK(h:KF (.val (.lit (.int .u32 1))) σ):az prog m 208 [bool true] σ KF:=by
 refine fs [] Tryz.func208 rfl (by kernel_rfl) ?_;simp[Tryz.f208];exact .done h
theorem Cq{b o l}(a:σ b=some (.cells l))(c:o<l.length)(h:KF (.val (.cA [])) (σ.set b (.cells (l.set o (.lit (.int .u32 1)))))):az prog m 200 [.ref b o,bool true] σ KF:=by
 refine fs VO Tryz.func200 rfl (by kernel_rfl) ?_;simp[Tryz.f200];refine cf Tryz.func208 rfl (SK ?_);apply pg;simp;refine cr.ext Tryz.func207 rfl rfl (by kernel_rfl) (e:=Atomic.storeT) (by kernel_rfl) (Eg (oP b o) a c ?_);apply pg;simp;apply rn;simp;exact .done h
theorem EM{b l f}(a:σ b=some (.cells l))(c:l[0]?=some (.lit (.int .u32 1)))(h:KF (.val (.cA [])) σ):az prog m 146 [.ref b 0,f] σ KF:=by
 refine fs [] Tryz.func146 rfl (by kernel_rfl) ?_;simp[Tryz.f146];refine cf Tryz.func178 rfl (qB a c ?_);apply rn;simp;exact .done h
theorem EN(d:m.solo=true){b l f}(c:σ b=some (.cells l))(p:l[0]?=some (.lit (.int .u32 0)))(e:l[1]?=some (.lit (.int .i32 0)))(g:l[2]?=some (.lit (.int .u32 0)))
 (h:∀K ,(∀σ' a,σ' b=some (.cells a)->a[0]?=some (.lit (.int .u32 0))->a[1]?=some (.lit (.int .i32 1))->a[2]?=some (.lit (.int .u32 0))->KF (.val (.cA [])) (σ'.set b (.cells ((a.set 0 (.lit (.int .u32 1))).set 1 (.lit (.int .i32 0)))))->K (.val (.cA [])) σ')->cr prog m f [] (σ.set b (.cells (l.set 1 (.lit (.int .i32 1))))) K):
 az prog m 179 [.ref b 0,f] σ KF:=by
 refine fs [] Tryz.func179 rfl (by kernel_rfl) ?_;simp[Tryz.f179];refine cf Tryz.func93 rfl (FZ AG AH Of d (oP b 1) c e g ?_);apply rn;simp;refine aa.defer rfl rfl rfl rfl (by simp) rfl ?_;apply rn;simp;have i:(σ.set b (.cells (l.set 1 (.lit (.int .i32 1))))) b=some (.cells (l.set 1 (.lit (.int .i32 1)))):=ab.ai _ _ _;have j:(l.set 1 (.lit (.int .i32 1)))[0]?=some (.lit (.int .u32 0)):=by simp_all
 refine cf Tryz.func178 rfl (qB i j ?_);apply rn;simp;refine aa.defer rfl rfl rfl rfl (by simp) rfl ?_;apply rn;simp;refine h _ λσ' a k n q r o=>?_
 apply rn;simp;refine rp.func Tryz.func200 rfl rfl (Cq k (aaT.1 n).1 ?_);refine rp.func Tryz.func94 rfl rfl (B7 AG AH Of d (oP b 1) (ab.ai _ _ _) (by simp_all) (by simp_all) ?_);rw[ab.set_set];exact⟨[],rfl,.done o⟩
theorem Cr(e:m.solo=true){b l f}(c:σ b=some (.cells l))(d:l[0]?=some (.lit (.int .u32 0)))(g:l[1]?=some (.lit (.int .i32 0)))(h:l[2]?=some (.lit (.int .u32 0)))
 (i:∀K ,(∀σ' a,σ' b=some (.cells a)->a[0]?=some (.lit (.int .u32 0))->a[1]?=some (.lit (.int .i32 1))->a[2]?=some (.lit (.int .u32 0))->KF (.val (.cA [])) (σ'.set b (.cells ((a.set 0 (.lit (.int .u32 1))).set 1 (.lit (.int .i32 0)))))->K (.val (.cA [])) σ')->cr prog m f [] (σ.set b (.cells (l.set 1 (.lit (.int .i32 1))))) K):
 az prog m 146 [.ref b 0,f] σ KF:=by
 refine az.thaw ?_;refine fs [] Tryz.func146 rfl (by kernel_rfl) ?_;simp[Tryz.f146];refine cf Tryz.func178 rfl (qB c d ?_);apply rn;simp;refine cf Tryz.func179 rfl (EN e c d g h λK j=>i K λσ' a k n o p q=>j σ' a k n o p ?_);apply rn;simp;exact .done (.done q)
end
section
open Go Go.cz Go.Conc
variable{m:Mo}{σ:ab}{KF:adm}
def uQ(w:gO)(c:Int):O4:=w.aD.getD c.toNat ⟨⟨0,0,0,[],0,0⟩,0,0⟩
abbrev bR(w:gO)(es cs:adA):Fr:={w.fair with aA:=es.map (aJ w.fair)++cs.map λc=>(uQ w c).lost}
abbrev AX(f:Fr):adF:=[rows f.roads,int f.aT,int f.eL,int f.cB,int f.aY]
abbrev GM:adF:=[.lit (.slice none 0 0),.lit (.slice none 0 0),int 0,int 0,int 0,int 0]
theorem GN{a a' l}(h:a.W a'):(AV.agg (a::l)).W (.agg (a'::l)):=qm rfl λi x y c b=>by
 cases i with
 |zero=>simp_all
 |succ i=>simp at c b;rw[c]at b;cases b;exact .refl _
namespace CF
abbrev XN:adr:=[⟨6,.take [0,2,3,4,5,6,7,8,9,10,13] false (.both 1 (.one 11 (.one 12 (.one 14 (.done)))) (.one 11 (.take [1] true (.one 12 (.one 14 (.done))))))⟩,⟨11,.take [1,2,3,4,5,6,7,8,9] false (.both 0 (.one 10 (.one 11 (.one 12 (.done)))) (.one 10 (.take [0] true (.one 11 (.one 12 (.done))))))⟩]
theorem Om{w fb mb x y}(U:∀i∈aB x,0<=i/\i<w.fair.aA.length)(V:∀i∈aB y,0<=i/\i<w.aD.length)(h:KF (.val (bI (bR w (aB x) (aB y)))) σ):az prog m 65 [uP fb mb w 0,.agg [u8 x,u8 y]] σ KF:=by
 have X:=nQ x;have Y:=nQ y;refine fs XN Tryz.func65 rfl (by kernel_rfl) ?_
 simp[Tryz.f65];refine bS.intro λb hb=>?_
 simp;refine bS.intro λd l=>?_
 obtain⟨n1,n2,hd⟩:=ab.aQ l;simp;refine cf Tryz.func60 rfl (kF ?_);apply rn;simp
 refine aa.loop (aB x).length (λk s=>∃env f a,s=⟨env,f,[],.no⟩/\env 0=uP fb mb w 0/\env 3=.cp (.agg [u8 x,u8 y]) 0/\env 4=.ref b 0/\env 5=.ref d 0/\env 18=ints (aB x)/\env 19=int (aB x).length/\env 20=int k/\f d=some (.cells (a::AX w.fair))/\Tok (σ.set b (.cells GM)) f a 6 (((aB x).take k).map λi=>bc (aJ w.fair i))) ⟨_,_,_,rfl,by simp,by simp,by simp,by simp,by simp,by simp,by simp,ab.ai _ _ _,(Tok.nil _ _).beside l (by simp[bt])⟩ ?_
 rintro c0 k _ Z ⟨env,f,a,rfl,E,S,F,n,tT,Pq,zt,p,g⟩ K
 have L:=g.cells;apply rn;simp[Pq,zt];apply aG.intro<;>intro o<;>simp at o<;>simp[E,S,n,tT,zt,o]
 . obtain⟨i,r⟩:∃i,(aB x)[k]=i:=⟨_,rfl⟩
   have t:=U i (r ▸ zs o);have j:i.toNat<w.fair.aA.length:=by omega
   have M:aJ w.fair i=w.fair.aA[i.toNat]:=by simp[aJ,j]
   simp only[r];have u:w.fair.aA[i.toNat]?=some w.fair.aA[i.toNat]:=zU j;refine⟨t.1,?_⟩;simp[n,p,u]
   have N:((aB x).take (k+1)).map (λi=>bc (aJ w.fair i))=((aB x).take k).map (λi=>bc (aJ w.fair i))++[bc w.fair.aA[i.toNat]]:=by rw[zG o,aaY,r,<-M];rfl
   have O:bt a≠some d:=λe=>by obtain⟨_,_,q⟩:=g.aZ e;simp_all
   refine⟨?_,?_⟩
   all_goals
    refine aP lay rfl rfl rfl nk rfl nk rfl zE (by decide) (by simp only[abi,abO,abl,abD];omega) (σ0:=f.off a) (es:=((aB x).take k).map λi=>bc (aJ w.fair i)) (xs:=[bc w.fair.aA[i.toNat]]) (by simpa using g.here.1) (.inr ⟨_,by simp;rfl⟩) λa' P A=>?_
    have G:=A.cells;have T:P d=some (.cells (a::AX w.fair)):=A.1 _ _ (by rw[ab.dT O];exact p)
    have B:=A.base g.here.2;rw[<-N]at B;apply pg;simp[T,G.1,G.2,aM];apply rn;simp[zt];refine⟨by omega,K _ (by omega) ⟨_,_,a',rfl,by simp[E],by simp[S],by simp[F],by simp[n],by simp[tT],by simp[Pq],by simp,ab.ai _ _ _,B.beside l (λe=>by obtain⟨_,_,q⟩:=B.aZ e;rw[T]at q;cases q)⟩⟩
 . have ek:k=(aB x).length:=by omega
   subst ek;rw[aaQ]at g;refine cf Tryz.func60 rfl (kF ?_);apply rn;simp
   have H:a.W (jF ((aB x).map (aJ w.fair)++(((aB y).take 0).map λc=>(uQ w c).lost))):=by simp only[List.take_zero,List.map_nil,abn];have:=g.W;show a.W (.sl 6 (((aB x).map (aJ w.fair)).map bc) .any);rw[acV];exact this
   refine aa.loop (aB y).length (λk s=>∃env f z,s=⟨env,f,[],.no⟩/\env 0=uP fb mb w 0/\env 4=.ref b 0/\env 5=.ref d 0/\env 41=ints (aB y)/\env 42=int (aB y).length/\env 43=int k/\f d=some (.cells (z::AX w.fair))/\(z.cells=[z]/\z.flat=true)/\z.W (jF ((aB x).map (aJ w.fair)++(((aB y).take k).map λc=>(uQ w c).lost)))/\(σ.set b (.cells GM)).Le f) ⟨_,_,a,rfl,by simp[E],by simp[F],by simp[n],by simp,by simp,by simp,p,L,H,g.1⟩ ?_
   rintro Q k _ Z ⟨env,f,z,rfl,E,F,n,I,J,C,p,R,H,D⟩ K
   have qb:f b=some (.cells GM):=D _ _ (ab.ai _ _ _);apply rn;simp[J,C];apply aG.intro<;>intro o<;>simp at o<;>simp[E,F,n,I,C,p,qb,R.2,o,aM]
   . obtain⟨i,r⟩:∃i,(aB y)[k]=i:=⟨_,rfl⟩
     have t:=V i (r ▸ zs o);have j:i.toNat<w.aD.length:=by omega
     have M:uQ w i=w.aD[i.toNat]:=by simp[uQ,j]
     simp only[r];have u:w.aD[i.toNat]?=some w.aD[i.toNat]:=zU j;refine⟨t.1,?_⟩;simp[n,p,u]
     have N:((aB y).take (k+1)).map (λc=>(uQ w c).lost)=((aB y).take k).map (λc=>(uQ w c).lost)++[w.aD[i.toNat].lost]:=by rw[zG o,aaY,r,<-M];rfl
     have hW:Wl [AV.agg (z::AX w.fair),.sl 6 [bc w.aD[i.toNat].lost] .exact] [bI (bR w (aB x) ((aB y).take k)),jF [w.aD[i.toNat].lost]]:=.cons (GN H) (.cons (fL _ _ _) .nil);refine⟨?_,?_⟩
     all_goals
      refine bK Tryz.func75 rfl rfl hW (EL (by simp only[aaV,abi,abO,abl,abD];omega) ?_)
      rw[abT,<-N];apply pg;simp[n,p];apply rn;simp[C];refine⟨by omega,K _ (by omega) ⟨_,_,_,rfl,by simp[E],by simp[F],by simp[n],by simp[I],by simp[J],by simp,ab.ai _ _ _,⟨rfl,rfl⟩,by simp only[List.map_take];exact .refl _,ab.fE D l⟩⟩
   . have ek:k=(aB y).length:=by omega
     subst ek;rw[aaQ]at H;refine .om (GN H) (.less (λc v hv=>?_) (.done h))
     have Q:c≠b:=λe=>by grind
     rw[ab.ah _ _ Q];exact D _ _ (by rw[ab.ah _ _ Q];exact hv)
end CF
def nY(f:Fr)(x y:Int):Int:=ir (((aH f []).filter (iQ x y)).length:Int) (aH f []).length
def AY(n:Int):Nat:=if n=1 then 125 else if n=3 then 284 else 195
abbrev yI(n:Int):AV:=.mr (AY n) (.agg [])
def tL(n:Int):AV:=if n=0 then .lit .nilIface else yI n
def vT(f:Fr)(es cs:adA)(x:Nat)(N:adA):adA:=(List.range cs.length).foldl (λN y=>N.set (3*(es.getD x 0).toNat+(cs.getD y 0).toNat) (nY f x ((es.length:Int)+y))) N
def AZ(f:Fr)(es cs:adA):adA:=(List.range es.length).foldl (λN x=>vT f es cs x N) (List.replicate 18 0)
abbrev vE(a b:Int)(N:adA):adF:=[.lit (.int .u32 a),.lit (.int .i32 b),.lit (.int .u32 0)]++N.map tL
theorem On  f   x y :nY f x y≠0:=by unfold nY ir;omega
theorem jC{σ:ab}{b x}(h:σ b=some x):σ.set b x=σ:=by
 funext c;by_cases e:c=b
 . simp_all
 . simp[ab.set,e]
theorem Oo  f   es cs   x   N :(vT f es cs x N).length=N.length:=by
 have key:∀(l:adB) (N:adA),(l.foldl (λN y=>N.set (3*(es.getD x 0).toNat+(cs.getD y 0).toNat) (nY f x ((es.length:Int)+y))) N).length=N.length:=λl=>by
  induction l with
  |nil=>simp_all
  |cons a l b=>simp_all
 exact key _ N
theorem EO{a b c}{N:adA}{i j n}(d:3*i+j<N.length)(f:n≠0):aM (a::b::c::N.map tL) (3+i*3+j) [yI n]=a::b::c::(N.set (3*i+j) n).map tL:=by
 have e:3+i*3+j=3*i+j+1+1+1:=by omega
 rw[e];generalize 3*i+j=p at d ⊢;unfold aM;simp only[List.take_succ_cons,abl,abD,abU,List.drop_succ_cons,List.cons_append];rw[acF,List.set_eq_take_append_cons_drop,aaK (by simp_all)];simp[tL,f]
theorem Oq(Q:m.solo=true){w fb mb bk x y}(K:∀i∈aB x,0<=i/\i<w.fair.aA.length)(L:∀i∈aB y,0<=i/\i<w.aD.length)(D:(bR w (aB x) (aB y)).Good)(R:aH (bR w (aB x) (aB y)) []≠[])(h6:w.fair.aA.length<=6/\w.aD.length<=3)
 (hb:σ bk=some (.cells (vE 0 1 (List.replicate 18 0)))) (h:KF (.val (.cA [])) (σ.set bk (.cells (vE 0 1 (AZ (bR w (aB x) (aB y)) (aB x) (aB y)))))):
 az prog m 147 [.cp (uP fb mb w 0) 0,.cp (.agg [u8 x,u8 y]) 0,.cp (.ref bk 0) 0] σ KF:=by
 have S:=nQ x;have T:=nQ y;refine fs VG Tryz.func147 rfl (by kernel_rfl) ?_;simp[Tryz.f147]
 repeat' first
  |refine⟨?_,?_⟩
  | (refine cf Tryz.func65 rfl (CF.Om K L ?_)
     apply pg;simp)
  | (refine cf Tryz.func60 rfl (kF ?_)
     apply pg;simp)
  | (refine q8.intro λd hd=>?_
     simp)
 all_goals
  refine aa.bd 3 (b:=d) (bI (bR w (aB x) (aB y))) (ab.ai _ _ _) (by simp) rfl ?_;rw[eE hd];apply rn;simp;refine aa.loop (aB x).length (λk s=>∃env N,s=⟨env,σ.set bk (.cells (vE 0 1 N)),[],.no⟩/\N.length=18/\N=(List.range k).foldl (λN i=>vT (bR w (aB x) (aB y)) (aB x) (aB y) i N) (List.replicate 18 0)/\env 2=.cp (.ref bk 0) 0/\env 3=.cp (bI (bR w (aB x) (aB y))) 0/\env 4=ints (aB x)/\env 5=ints (aB y)/\env 21=ints (aB x)/\env 22=int (aB x).length/\env 23=int k) ⟨_,List.replicate 18 0,by rw[jC hb],rfl,rfl,by simp⟩ ?_;rintro c0 k _ hk ⟨env,N,rfl,U,p,q,r,u,v,vY,vZ,KL⟩ V;apply rn;simp[vZ,KL];apply aG.intro<;>intro B<;>simp at B<;>simp[v,vY,KL,B]
  . obtain⟨i,E⟩:∃i,(aB x)[k]=i:=⟨_,rfl⟩
    have W:=K i (E ▸ zs B);have F:(aB x).getD k 0=i:=by simp[zD,B,E]
    refine aa.loop (aB y).length (λj s=>∃env g,s=⟨env,σ.set bk (.cells (vE 0 1 g)),[],.no⟩/\g.length=18/\g=(List.range j).foldl (λN M=>N.set (3*i.toNat+((aB y).getD M 0).toNat) (nY (bR w (aB x) (aB y)) k (((aB x).length:Int)+M))) N/\env 2=.cp (.ref bk 0) 0/\env 3=.cp (bI (bR w (aB x) (aB y))) 0/\env 4=ints (aB x)/\env 5=ints (aB y)/\env 21=ints (aB x)/\env 22=int (aB x).length/\env 23=int k/\env 6=int k/\env 7=int i/\env 28=ints (aB y)/\env 29=int (aB y).length/\env 30=int j) ⟨_,N,rfl,U,rfl,by simp[q,r,u,v,vY,vZ,KL,E]⟩ ?_;rintro c1 j _ hj ⟨env,g,rfl,l,e,q,r,u,v,vY,vZ,KL,O,P,z,A,n⟩ G;apply rn;simp[A,n];apply aG.intro<;>intro C<;>simp at C<;>simp[r,u,KL,O,z,n,C]
    . obtain⟨c,o⟩:∃c,(aB y)[j]=c:=⟨_,rfl⟩
      have X:=L c (o ▸ zs C);have H:(aB y).getD j 0=c:=by simp[zD,C,o]
      have Y:(bR w (aB x) (aB y)).aA.length=(aB x).length+(aB y).length:=by simp
      simp only[o];refine⟨by omega,?_⟩;refine cf Tryz.func148 rfl (Ql (f:=bR w (aB x) (aB y)) Q D.fits D.Fb ⟨by omega,by omega⟩ ⟨by omega,by omega⟩ R (Nat.lt_of_le_of_lt (Cl D _) (by decide)) ?_);apply rn;simp[q,P];refine⟨by omega,by omega,?_⟩;refine cf Tryz.func149 rfl (GH (t:=AY (nY (bR w (aB x) (aB y)) k (((aB x).length:Int)+j))) rfl ?_);have I:3+i.toNat*3+c.toNat<=20:=by omega
      have J:=λa b d=>EO (a:=a) (b:=b) (c:=d) (N:=g) (i:=i.toNat) (j:=c.toNat) (by omega) (On (bR w (aB x) (aB y)) k (((aB x).length:Int)+j))
      apply pg;simp[l,I,J];apply rn;simp[n];simp only[<-List.map_set];refine⟨by omega,G _ (by omega) ⟨_,g.set (3*i.toNat+c.toNat) (nY (bR w (aB x) (aB y)) k (((aB x).length:Int)+j)),rfl,by rw[acj];exact l,?_,by simp[q,r,u,v,vY,vZ,KL,O,P,z,A]⟩⟩;rw[aaZ,abo,<-e];simp only[abC,List.foldl_nil,H]
    . have Z:j=(aB y).length:=by omega
      subst Z;refine⟨by omega,V _ (by omega) ⟨_,g,rfl,l,?_,by simp[q,r,u,v,vY,vZ]⟩⟩;rw[aaZ,abo,<-p];simp only[abC,List.foldl_nil];unfold vT;rw[F];exact e
  . have ek:k=(aB x).length:=by omega
    subst ek;refine .done ?_;rw[p];exact h
theorem Ru:C' prog 156 112 193 110 .u8:=.of (by kernel_rfl) (by kernel_rfl) (by kernel_rfl) (by kernel_rfl)
abbrev yJ(w:gO)(p:Int × Int):adA:=AZ (bR w (aB p.1) (aB p.2)) (aB p.1) (aB p.2)
def fj(w:gO)(mb:Nat)(σ:ab):Prop:=∃l,σ mb=some (m8 (pQ .u8) l)/\∀p a,dp l p=some a->∃bk,a=.ref bk 0/\bk≠mb/\σ bk=some (.cells (vE 1 0 (yJ w p)))
def fQ(mb:Nat)(σ σ':ab):Prop:=∀c x,σ c=some x->c≠mb->σ' c=some x
theorem fQ.refl  mb   σ :fQ mb σ σ:=λ_ _ h _=>h
theorem fQ.trans{mb a b c}(h:fQ mb a b)(e:fQ mb b c):fQ mb a c:=λd x q n=>e d x (h d x q n) n
structure gO.Bk(w:gO)  x y :Prop where
 hx:∀i∈aB x,0<=i/\i<w.fair.aA.length
 hy:∀i∈aB y,0<=i/\i<w.aD.length
 qh:(bR w (aB x) (aB y)).Good
 some:aH (bR w (aB x) (aB y)) []≠[]
theorem GO{l}{p q:Int × Int}{a b}(h:dp (l++[(q,b)]) p=some a):dp l p=some a\/p=q/\a=b:=by
 unfold dp at h ⊢;rw[List.find?_append]at h;cases e:l.find? (λr=>p==r.1)with
 |some r=>simp_all
 |none=>grind
theorem Ot(J:m.solo=true){w fb mb x y}(hb:w.Bk x y)(P:w.fair.aA.length<=6/\w.aD.length<=3)(Q:fj w mb σ)
 (h:∀bk σ',fj w mb σ'->fQ mb σ σ'->σ' bk=some (.cells (vE 1 0 (yJ w (x,y))))->KF (.val (.ref bk 0)) σ'):az prog m 110 [uP fb mb w 0,.agg [u8 x,u8 y]] σ KF:=by
 obtain⟨l,s,A⟩:=Q;refine az.start lay [15] VD 2 Tryz.func110 rfl rfl (by rfl) (by kernel_rfl) ?_
 simp[Tryz.f110]
 have f:∀{o:Oper}{env:Env}{σ:ab}{K R:adl},o.op=.lookup 156 (.tmp 9) (.tmp 10) false->env 9=.map mb->env 10=pQ .u8 (x,y)->σ mb=some (m8 (pQ .u8) l)->K ((dp l (x,y)).getD (.lit (.pointer none))) σ->aK prog o env σ K R:=λS T E U F=>xn lay (Ru.key lay ME rfl) S Vv T E U F
 have t:dp l (x,y)=none\/∃bk,dp l (x,y)=some (.ref bk 0)/\bk≠mb/\σ bk=some (.cells (vE 1 0 (yJ w (x,y)))):=by
  cases e:dp l (x,y)with
  |none=>simp_all
  |some a=>simp_all
 rcases t with j|⟨bk,j,V,B⟩
 . refine⟨f rfl (by simp) (by simp[pQ]) s ?_,?_⟩
   rotate_left
   refine q8.intro λd hd=>?_
   have u:mb≠d:=λe=>by simp_all
   simp;refine f rfl (by simp) (by simp[pQ]) (by simp[ab.ah,u,s]) ?_
   rw[j];refine aN.go lay [15] ?_;simp
   rotate_left
   rw[j];refine aN.go lay [15] ?_;simp;refine q8.intro λd hd=>?_
   have u:mb≠d:=λe=>by simp_all
   simp
   all_goals
    refine aa.run lay [15] ?_;simp;refine oR (vx:=.pointer none) (vy:=.pointer none) (r:=.bool true) rfl (λk v g=>by simpa using Ay.1 g) (λk v g=>by simpa using Ay.1 g) (by kernel_rfl) ?_
    refine aa.run lay [15] ?_;simp;refine bS.intro λbk C=>?_
    obtain⟨W,X,i⟩:=ab.aQ C;have D:mb≠bk:=λe=>by rw[<-e,s]at i;cases i
    simp[X,ab.ah];refine rv (Ru.key lay ME rfl) rfl (b:=mb) (l:=l) (n:=(x,y)) (a:=.ref bk 0) (by simp) (by simp[pQ]) (by simp) (by simp[ab.set,u,D,s]) j ?_
    refine aN.go lay [15] ?_;simp;refine aa.bd 5 (b:=d) (.ref bk 0) (by simp[ab.set,zj u]) (by simp) rfl ?_
    refine aa.jQ (λe q=>(e 2=.cp (uP fb mb w 0) 0/\e 3=.cp (.agg [u8 x,u8 y]) 0/\e 5=.cp (.ref bk 0) 0)/\q mb=some (m8 (pQ .u8) (l++[((x,y),.ref bk 0)]))/\q bk=some (.cells (vE 0 0 (List.replicate 18 0)))/\fQ mb σ q) ⟨by simp,by simp[ab.set,ab.del,u],by simp[ab.set,ab.del,W,zj D,List.replicate,tL],λc v g z=>?_⟩ ?_
    . have Y:c≠d:=λe=>by rw[e,hd]at g;cases g
      have G:c≠bk:=λe=>by rw[e,i]at g;cases g
      simp[ab.set,ab.del,Y,G,z,g]
    rintro env q ⟨⟨Z,e3,L⟩,q1,q2,M⟩
    refine aa.run lay [15] ?_;simp[Z,e3,L];refine cf Tryz.func146 rfl (Cr J q2 rfl rfl rfl λK F=>eC Tryz.func147 rfl rfl rfl (Oq J hb.hx hb.hy hb.qh hb.some P (ab.ai _ _ _) (F _ _ (ab.ai _ _ _) rfl rfl rfl ?_)))
    simp only[ab.set_set];refine aa.run lay [15] ?_;simp[L];refine .done (h bk _ ⟨_,(ab.ah _ _ D).trans q1,λp a H=>?_⟩ (λc v g z=>?_) (ab.ai _ _ _))
    . rcases GO H with H|⟨rfl,rfl⟩
      . obtain⟨N,rfl,O,I⟩:=A _ _ H
        have h3:N≠bk:=λe=>by rw[e,i]at I;cases I
        exact⟨N,rfl,O,(ab.ah _ _ h3).trans (M _ _ I O)⟩
      . exact⟨bk,rfl,zj D,ab.ai _ _ _⟩
    . have G:c≠bk:=λe=>by rw[e,i]at g;cases g
      exact(ab.ah _ _ G).trans (M _ _ g z)
 . refine⟨f rfl (by simp) (by simp[pQ]) s ?_,?_⟩
   rotate_left
   refine q8.intro λd hd=>?_
   have u:mb≠d:=λe=>by simp_all
   simp;refine f rfl (by simp) (by simp[pQ]) (by simp[ab.ah,u,s]) ?_
   rw[j];refine aN.go lay [15] ?_;simp
   rotate_left
   rw[j];refine aN.go lay [15] ?_;simp;refine q8.intro λd hd=>?_
   simp
   all_goals
    refine aa.bd 5 (b:=d) (.ref bk 0) (ab.ai _ _ _) (by simp) rfl ?_
    rw[eE hd];refine aa.run lay [15] ?_;simp;refine oR (vx:=.pointer (some ⟨bk,0,none⟩)) (vy:=.pointer none) (r:=.bool false) rfl (λk v g=>by simpa using Vi.1 g) (λk v g=>by simpa using Ay.1 g) (by kernel_rfl) ?_
    refine aa.run lay [15] ?_;simp;refine cf Tryz.func146 rfl (EM B rfl ?_);refine aa.run lay [15] ?_;simp;exact .done (h bk σ ⟨l,s,A⟩ (.refl mb σ) B)
abbrev kE(w:gO)(h:Int):Int:=aR (fY w h)
abbrev kC(w:gO)(h:Int):Int:=aR (ew w h)
structure gO.Open(w:gO):Prop where
 pI:w.fair.aA.length<=6/\w.aD.length<=3
 bk:∀h,w.Bk (kE w h) (kC w h)
def ia(w:gO)(h i c:Int):Int:=(yJ w (kE w h,kC w h)).getD (3*i.toNat+c.toNat) 0
theorem Kj  f   es cs :(AZ f es cs).length=18:=by
 have key:∀(l:adB) (N:adA),(l.foldl (λN x=>vT f es cs x N) N).length=N.length:=λl=>by
  induction l with
  |nil=>simp_all
  |cons a l b=>exact λN=>(b _).trans (Oo ..)
 exact key _ _
theorem EP(p:m.solo=true){w fb mb h i c}(b:w.Open)(hi:0<=i/\i<6)(f:0<=c/\c<3)(q:fj w mb σ)(d:∀σ',fj w mb σ'->fQ mb σ σ'->KF (.val (yI (ia w h i c))) σ'):az prog m 67 [uP fb mb w 0,int h,int i,int c] σ KF:=by
 refine fs [] Tryz.func67 rfl (by kernel_rfl) ?_
 simp[Tryz.f67];refine cf Tryz.func59 rfl (CK.AW b.pI.1 b.pI.2 ?_);apply rn;simp;refine cf Tryz.func110 rfl (Ot p (b.bk h) b.pI q λbk σ' g j k=>?_)
 have hlen:=Kj (bR w (aB (kE w h)) (aB (kC w h))) (aB (kE w h)) (aB (kC w h));obtain⟨N,l⟩:∃N,N=yJ w (kE w h,kC w h):=⟨_,rfl⟩;have r:N.length=18:=by simp_all
 have s:ia w h i c=N.getD (3*i.toNat+c.toNat) 0:=by rw[l];rfl
 rw[<-l]at k
 have a:(AV.lit (.int .u32 1)::.lit (.int .i32 0)::.lit (.int .u32 0)::N.map tL)[3+i.toNat*3+c.toNat]?=some (tL (ia w h i c)):=by
  have e:3+i.toNat*3+c.toNat=3*i.toNat+c.toNat+3:=by omega
  have t:3*i.toNat+c.toNat<N.length:=by omega
  simp_all
 generalize ia w h i c=n at d a;apply rn;simp[k,hi.1,hi.2,f.1,f.2,a]
 by_cases o:n=0
 . subst o
   refine gQ lay rfl Rk rfl (.inl ⟨by simp[tL],rfl⟩) (.inr ⟨rfl,rfl⟩) ?_
   apply rn;simp;exact .done (d σ' g j)
 . have e:tL n=yI n:=aaJ o
   rw[e];refine gQ lay rfl Rk rfl (.inr ⟨⟨AY n,.agg [],by simp⟩,rfl⟩) (.inr ⟨rfl,rfl⟩) ?_
   apply rn;simp;exact .done (d σ' g j)
def qC(n:Int):Bool:=n==1||n==3
theorem uR{t f:Nat}(h:fe prog (Go.method (prog.types.size+Made.depth) t (.agg #[])  "palfrey/cry.holds")=some (f,.agg #[])):ot prog t  "palfrey/cry.holds" f (.agg []) (.agg []):=vC λk v b=>by
 cases b with
 | agg c l d e=>
   obtain⟨c⟩:=c
   match c,d with
   |[],_=>exact⟨_,h,.agg _ _ rfl λi v a h=>by simp at h⟩
theorem ER(h:KF (.val (bool true)) σ):az prog m 232 [.agg []] σ KF:=by
 refine fs [] Tryz.func232 rfl (by kernel_rfl) ?_;simp[Tryz.f232];exact .done h
theorem ES(h:KF (.val (bool true)) σ):az prog m 258 [.agg []] σ KF:=by
 refine fs [] Tryz.func258 rfl (by kernel_rfl) ?_;simp[Tryz.f258];exact .done h
theorem ET(h:KF (.val (bool false)) σ):az prog m 233 [.agg []] σ KF:=by
 refine fs [] Tryz.func233 rfl (by kernel_rfl) ?_;simp[Tryz.f233];exact .done h
theorem Ou(b:m.solo=true){w fb mb h i c}(d:w.Open)(hi:0<=i/\i<6)(f:0<=c/\c<3)(g:fj w mb σ)(a:∀σ',fj w mb σ'->fQ mb σ σ'->KF (.val (bool (qC (ia w h i c)))) σ'):az prog m 102 [int c,.cp (uP fb mb w 0) 0,.cp (int h) 0,.cp (int i) 0] σ KF:=by
 refine fs [] Tryz.func102 rfl (by kernel_rfl) ?_
 simp[Tryz.f102];refine cf Tryz.func67 rfl (EP b d hi f g λσ' j k=>?_)
 have a:=a σ' j k;generalize ia w h i c=n at a;unfold qC at a
 by_cases l:n=1
 . subst l
   apply rn;simp;refine aa.invoke rfl rfl rfl (by simp) rfl (uR (by kernel_rfl)) Tryz.func232 rfl rfl (ER ?_)
   apply rn;simp;exact .done a
 by_cases o:n=3
 . subst o
   apply rn;simp;refine aa.invoke rfl rfl rfl (by simp) rfl (uR (by kernel_rfl)) Tryz.func258 rfl rfl (ES ?_)
   apply rn;simp;exact .done a
 have e:yI n=.mr 195 (.agg []):=by unfold yI AY;simp_all
 rw[e];apply rn;simp;refine aa.invoke rfl rfl rfl (by simp) rfl (uR (by kernel_rfl)) Tryz.func233 rfl rfl (ET ?_)
 apply rn;simp;rw[show(n==1)=false by simp_all,show(n==3)=false by simp_all]at a
 exact .done a
theorem tN{σ0 σ σ2 a kk es}(h:Tok σ0 σ a kk es)(d:∀b e,σ b=some (.tail e)->σ2 b=some (.tail e)):Tok (σ2.off a) σ2 a kk es:=by
 rcases h.2 with⟨rfl,rfl⟩|rfl|⟨b,e,_,rfl,f⟩
 . exact⟨ab.le_refl _,.inl ⟨rfl,rfl⟩⟩
 . exact⟨ab.le_refl _,.inr (.inl rfl)⟩
 . refine⟨λc x g=>?_,.inr (.inr ⟨b,e,by simp[ab.off,bt,ab.del],rfl,d b e f⟩)⟩
   simp only[ab.off,bt,ab.del]at g
   simp_all
structure V9(I:adD)  mb :Prop where
 le:∀{σ σ'},I σ->(∀c x,σ c=some x->(∀e,x≠.tail e)->σ' c=some x)->I σ'
 mb:∀{σ},I σ->∀e,σ mb≠some (.tail e)
theorem GP{σ0 σ a kk es}(h:Tok σ0 σ a kk es){c x}(b:σ c=some x)(d:∀e,x≠.tail e):(σ.off a) c=some x:=by
 rw[ab.dT λe=>?_]
 . exact b
 . obtain⟨_,n,q⟩:=h.aZ e
   grind
theorem Rv{I mb}(z:V9 I mb){f l p}(T:l.length<=1000)(A:f.flat=true)
 (P:∀x∈l,∀  σ   K ,I σ->(∀σ',I σ'->fQ mb σ σ'->K (.val (bool (p x))) σ')->cr prog m f [int x] σ K)
 (Q:I σ) (h:∀σ',I σ'->fQ mb σ σ'->KF (.val (ints (l.filter p))) σ'):az prog m 86 [.agg [f],ints l] σ KF:=by
 refine fs [] Tryz.func86 rfl (by kernel_rfl) ?_
 simp[Tryz.f86];refine⟨A,?_⟩;refine aa.loop l.length (λk s=>∃env σ' a,s=⟨env,σ',[],.no⟩/\env 2=.cp (.agg [f]) 0/\env 8=ints l/\env 9=int l.length/\env 10=int k/\env 5=a/\I σ'/\Tok (σ'.off a) σ' a 1 (((l.take k).filter p).map int)/\fQ mb σ (σ'.off a)) ?_ ?_
 . refine⟨_,σ,AV.nil,rfl,?_,?_,?_,?_,?_,Q,Tok.nil σ 1,fQ.refl mb σ⟩<;>simp
 rintro U k _ V ⟨env,σ',a,rfl,B,C,D,cX,v,E,d,hb⟩ L
 apply rn;simp[D,cX];apply aG.intro<;>intro w<;>simp at w<;>simp[B,C,cX,v,w]
 . have F:(l.take (k+1)).filter p=(l.take k).filter p++if p l[k]then[l[k]]else[]:=by
    rw[zG w,abz]
    grind
   have R:((l.take k).filter p).length<=k:=aaR (abJ _ _) (by grind)
   refine P _ (zs w) _ _ E λσ2 M j=>?_
   have o:=tN d (σ2:=σ2) (λb e r=>j b _ r λq=>z.mb E e (q ▸ r))
   have g:fQ mb σ (σ2.off a):=λc x i y=>by
    have N:=hb c x i y;have G:bt a≠some c:=λe=>by obtain⟨n,_⟩:=d.aZ e;grind
    rw[ab.dT G]at N ⊢;exact j c x N y
   apply rn;simp;cases O:p l[k]
   . rw[O,aaJ (by simp),abn]at F
     simp[cX];refine⟨by omega,L _ (by omega) ⟨_,σ2,a,rfl,?_,?_,?_,?_,?_,M,by grind,g⟩⟩<;>simp[B,C,D,v]
   . rw[O,aaK rfl]at F
     simp[v];refine aP lay rfl rfl rfl dD rfl dD rfl rH (by decide) (by grind) (σ0:=σ2.off a) (es:=((l.take k).filter p).map int) (xs:=[int l[k]]) (by simpa[v]using o) (.inr ⟨_,by simp;rfl⟩) λS H t=>?_
     apply rn;simp[cX];have u:=t.here;refine⟨by omega,L _ (by omega) ⟨_,H,S,rfl,?_,?_,?_,?_,?_,z.le M λc x i J=>t.1 _ _ (GP o i J),by rw[F,aaY];exact u.1,λc x i y=>u.2 _ _ (g c x i y)⟩⟩<;>simp[B,C,D]
 . have ek:k=l.length:=by omega
   subst ek;rw[aaQ]at d;refine .om d.W (.less d.1 (.done (h _ (z.le E λc x i J=>GP d i J) hb)))
theorem sf  w   mb :V9 (fj w mb) mb where
 le h hk:=by
  obtain⟨l,b,c⟩:=h;refine⟨l,hk _ _ b (by simp[m8]),λp a d=>?_⟩
  grind
 mb h e q:=by obtain⟨l,b,_⟩:=h;rw[b]at q;simp[m8]at q
theorem Ct{n x}(h:x∈nz n):0<=x/\x<n:=by grind
theorem Cu  n :(nz n).length=n:=by grind
def zM(w:gO)(h i:Int):adA:=(nz w.aD.length).filter λc=>qC (ia w h i c)
def kX(w:gO)(h:Int):adA:=(nz w.fair.aA.length).filter λi=>decide (0<(zM w h i).length)
theorem Cv(c:m.solo=true){w fb mb h i}(b:w.Open)(hi:0<=i/\i<6)(d:fj w mb σ)(a:∀σ',fj w mb σ'->fQ mb σ σ'->KF (.val (ints (zM w h i))) σ'):az prog m 61 [uP fb mb w 0,int h,int i] σ KF:=by
 have j:=b.pI.2;refine fs [] Tryz.func61 rfl (by kernel_rfl) ?_;simp[Tryz.f61];refine cf Tryz.func49 rfl (uO (by omega) ?_);apply rn;simp;refine cf Tryz.func86 rfl (Rv (sf w mb) (by grind) rfl (λx k σ K e a=>eC Tryz.func102 rfl rfl rfl (Ou c b hi (by grind) e a)) d λσ' f g=>?_);apply rn;simp;exact .done (a σ' f g)
theorem Ov(a:m.solo=true){w fb mb h i}(b:w.Open)(hi:0<=i/\i<6)(c:fj w mb σ)(d:∀σ',fj w mb σ'->fQ mb σ σ'->KF (.val (bool (decide (0<(zM w h i).length)))) σ'):az prog m 87 [int i,.cp (uP fb mb w 0) 0,.cp (int h) 0] σ KF:=by
 refine fs [] Tryz.func87 rfl (by kernel_rfl) ?_;simp[Tryz.f87];refine cf Tryz.func61 rfl (Cv a b hi c λσ' e f=>?_);apply rn;simp;refine .done ?_
 simp_all
theorem yK(c:m.solo=true){w fb mb h}(b:w.Open)(d:fj w mb σ)(a:∀σ',fj w mb σ'->fQ mb σ σ'->KF (.val (ints (kX w h))) σ'):az prog m 42 [uP fb mb w 0,int h] σ KF:=by
 have i:=b.pI.1;refine fs [] Tryz.func42 rfl (by kernel_rfl) ?_;simp[Tryz.f42];refine cf Tryz.func49 rfl (uO (by omega) ?_);apply rn;simp;refine cf Tryz.func86 rfl (Rv (sf w mb) (by grind) rfl (λx j σ K e a=>eC Tryz.func87 rfl rfl rfl (Ov c b (by grind) e a)) d λσ' f g=>?_);apply rn;simp;exact .done (a σ' f g)
theorem Kg.yL{σ σ' fb mb w}(h:Kg σ fb mb w σ'):fj w mb σ':=⟨[],by rw[h.eq,ab.ah _ _ (zj h.ne),ab.ai],λp a b=>by simp[dp]at b⟩
theorem Kg.less{σ σ' σ2 fb mb w}(h:Kg σ fb mb w σ')(hb:fQ mb σ' σ2):σ.Le σ2:=λc x a=>by
 have d:c≠fb:=λe=>by rw[e,h.f0]at a;cases a
 have b:c≠mb:=λe=>by rw[e,h.m0]at a;cases a
 exact hb c x (by rw[h.eq,ab.ah _ _ d,ab.ah _ _ b];exact a) b
abbrev ny:AV:=.lit (.slice none 0 0)
theorem Rw{a b c d a' b' c' d'}(e:a.W a')(f:b.W b')(g:c.W c')(h:d.W d'):Wl [a,b,c,d] [a',b',c',d']:=.cons e (.cons f (.cons g (.cons h .nil)))
theorem EU(e:m.solo=true){w}(f:w.qz){c:Nat}(h:c<3)(i:fh w [] [] [(c:Int)]=0)(b:if 72<iy w c then KF (.val (.cA [int 0,int 11])) σ else KF (.val (.cA [int (iy w c),int 0])) σ):az prog m 22 [dP w,int c] σ KF:=by
 have j:Wl [dP w,ny,ny,.sl 1 [int c] .exact] [dP w,ints [],ints [],ints [(c:Int)]]:=Rw (.refl _) (fK 1) (fK 1) (fL 1 _ _);refine fs [] Tryz.func22 rfl (by kernel_rfl) ?_;simp[Tryz.f22];refine bK Tryz.func41 rfl rfl j (kG e f (by simp) (λq=>absurd i q) λ_ d fb mb k=>?_);have a:=k.less (.refl mb d);apply rn;simp;refine cf Tryz.func55 rfl (vD h ?_);split at b
 . next g=>rw[aaK g];apply rn;simp;refine cf Tryz.func56 rfl (H9 ?_);apply rn;simp;exact .less a (.done b)
 . next g=>rw[aaJ g];apply rn;simp;refine cf Tryz.func56 rfl (Oj ?_);apply rn;simp;exact .less a (.done b)
theorem EV(a:m.solo=true){w}(f:w.qz)(g:w.Open){h}(b:fh w [h] [] []≠0->KF (.val (.cA [ny,int (fh w [h] [] [])])) σ)(i:fh w [h] [] []=0->KF (.val (.cA [ints (kX w h),int 0])) σ):az prog m 11 [dP w,int h] σ KF:=by
 have j:Wl [dP w,.sl 1 [int h] .exact,ny,ny] [dP w,ints [h],ints [],ints []]:=Rw (.refl _) (fL 1 _ _) (fK 1) (fK 1);obtain⟨e,k⟩:∃e,e=fh w [h] [] []:=⟨_,rfl⟩;refine fs [] Tryz.func11 rfl (by kernel_rfl) ?_;simp[Tryz.f11];refine bK Tryz.func41 rfl rfl j (kG a f (by simp) (λq=>?_) λq l fb mb c=>?_)
 . rw[<-k]at q b ⊢
   have d:(e !=0)=true:=by grind
   apply rn;simp[d];exact .done (b q)
 . apply rn
   simp;refine cf Tryz.func42 rfl (yK a g c.yL λn d o=>?_);apply rn;simp;exact .less (c.less o) (.done (i q))
theorem Kk(f:m.solo=true){w}(g:w.qz)(e:w.fair.aA.length<=6/\w.aD.length<=3){h}(i:fh w [h] [] []=0)(j:KF (.val (.cA [ints (aB (kE w h)),ints (aB (kC w h)),int 0])) σ):az prog m 27 [dP w,int h] σ KF:=by
 have k:Wl [dP w,.sl 1 [int h] .exact,ny,ny] [dP w,ints [h],ints [],ints []]:=Rw (.refl _) (fL 1 _ _) (fK 1) (fK 1);refine fs Xz Tryz.func27 rfl (by kernel_rfl) ?_;simp[Tryz.f27];refine bK Tryz.func41 rfl rfl k (kG f g (by simp) (λq=>absurd i q) λq a fb mb l=>?_);have c:=l.less (.refl mb a);apply rn;simp;refine cf Tryz.func59 rfl (CK.AW e.1 e.2 ?_);refine aa.runN lay [] 1 ?_;simp;refine bS.intro λd hd=>?_
 simp;change aa _ _ _ _ _ _ _ _ _;refine aa.runN lay [] 1 ?_;simp;change aa _ _ _ _ _ _ _ _ _;refine aa.bd 9 (b:=d) (Ol w h) (ab.ai _ _ _) (by simp) rfl ?_;rw[eE hd];apply rn;simp;refine cf Tryz.func60 rfl (kF ?_);apply pg;simp;refine cf Tryz.func60 rfl (kF ?_);apply pg;simp;apply rn;simp;exact .less c (.done j)
theorem Qv(a:m.solo=true){w}(c:w.qz)(d:w.Open){h i}(hi:0<=i/\i<6)(e:fh w [h] [i] []=0)(f:KF (.val (.cA [ints (zM w h i),int 0])) σ):az prog m 28 [dP w,int h,int i] σ KF:=by
 have g:Wl [dP w,.sl 1 [int h] .exact,.sl 1 [int i] .exact,ny] [dP w,ints [h],ints [i],ints []]:=Rw (.refl _) (fL 1 _ _) (fL 1 _ _) (fK 1);refine fs [] Tryz.func28 rfl (by kernel_rfl) ?_;simp[Tryz.f28];refine bK Tryz.func41 rfl rfl g (kG a c (by simp) (λq=>absurd e q) λq j fb mb b=>?_);apply rn;simp;refine cf Tryz.func61 rfl (Cv a d hi b.yL λk n l=>?_);apply rn;simp;exact .less (b.less l) (.done f)
def yM(w:gO)(h i:Int):Bool:=decide (0<(zM w h i).length)
def bW(w:gO)(i:Int):Nat->Int × List (Int × Int)
 |0=>(1048576,[])
 |h+1=>if(h:Int)<=72/\yM w h i=true then(if(h:Int)<(bW w i h).1 then(h:Int)else(bW w i h).1,(bW w i h).2)else if(bW w i h).1<1048576 then(1048576,(bW w i h).2++[((bW w i h).1,(h:Int)-1)])else(1048576,(bW w i h).2)
def cQ(w:gO)(i:Int):ade:=(bW w i 74).2
abbrev kQ(r:Int × Int):AV:=.agg [int r.1,int r.2]
theorem Cw  w   i :∀h ,0<=(bW w i h).1/\(bW w i h).1<=1048576
 |0=>by simp[bW]
 | h+1=>by
   have:=Cw w i h;unfold bW
   grind
theorem EW  w   i :∀d h ,(bW w i h).2 <+: (bW w i (h+d)).2
 |0,h=>List.prefix_refl _
 | d+1,h=>by
   refine(EW w i d h).trans ?_;show _ <+: (bW w i ((h+d)+1)).2
   conv=>rhs;unfold bW
   grind
theorem Ia{w i h}(d:h<74){r}(b:(bW w i (h+1)).2=(bW w i h).2++[r]):∃f ,(cQ w i)[(bW w i h).2.length]=r:=by
 have a:=EW w i (73-h) (h+1);rw[show h+1+(73-h)=74 by omega,b]at a;obtain⟨t,c⟩:=a;have e:cQ w i=(bW w i h).2++[r]++t:=c.symm
 grind
theorem A7(C:m.solo=true){w fb mb i}(D:w.Open)(hi:0<=i/\i<6){y}{I:Nat->adD}(E:y.cells=[y]/\y.flat=true)
 (t:∀k σ σ',I k σ->fQ mb σ σ'->fj w mb σ'->I k σ') (hb:∀k σ,I k σ->fj w mb σ)
 (B:∀k  F   σ   K ,I k σ->(∀σ',I (k+1) σ'->K (.val (bool true)) σ')->cr prog m y [kQ (cQ w i)[k]] σ K)
 (G:I 0 σ) (h:∀σ',I (cQ w i).length σ'->KF (.val (.cA [])) σ'):az prog m 100 [y,.cp (uP fb mb w 0) 0,.cp (int i) 0] σ KF:=by
 refine fs [] Tryz.func100 rfl (by kernel_rfl) ?_;simp[Tryz.f100];refine aa.loop 74 (λk s=>∃env σ',s=⟨env,σ',[],.no⟩/\env 0=y/\env 1=.cp (uP fb mb w 0) 0/\env 2=.cp (int i) 0/\env 4=int (bW w i k).1/\env 7=int k/\I (bW w i k).2.length σ') ⟨_,_,rfl,by simp,by simp,by simp,by simp[bW],by simp,G⟩ ?_;rintro N k _ F ⟨env,σ',rfl,c,j,l,r,d,n⟩ o;have H:=Cw w i k;apply rn;simp[d];apply aG.intro<;>intro p<;>simp at p<;>simp[d,p]
 . have p : k<74:=by omega
   refine sm.intro (λu=>?_) (λu=>?_)<;>(try simp[-Int.not_lt,-Int.not_le]at u)<;>(try simp[j,l,r,u])
   . refine cf Tryz.func61 rfl (Cv C D hi (hb _ _ n) λJ L M=>?_)
     have n:=t _ _ _ n M L;apply rn;simp;apply aG.intro<;>intro v<;>simp at v<;>simp[r,d,v]
     . have b:bW w i (k+1)=(if (k:Int)<(bW w i k).1 then (k:Int)else (bW w i k).1,(bW w i k).2):=by
        conv=>lhs;unfold bW
        rw[aaK ⟨by omega,by unfold yM;simp_all⟩]
       refine⟨by omega,o _ (by omega) ⟨_,_,rfl,by simp[c],by simp[j],by simp[l],by rw[b];simp,by simp,by grind⟩⟩
     . have x:¬((k:Int)<=72/\yM w k i=true):=λq=>by have:=q.2;simp[yM,v]at this
       refine sm.intro (λe=>?_) (λe=>?_)<;>(try simp[-Int.not_lt,-Int.not_le]at e)<;>(try simp[c,r,d,e])
       . have b:bW w i (k+1)=(1048576,(bW w i k).2++[((bW w i k).1,(k:Int)-1)]):=by
          conv=>lhs;unfold bW
          grind
         obtain⟨z,f⟩:=Ia (w:=w) (i:=i) p (by rw[b]);have a:=B _ z;rw[f]at a;refine⟨by omega,?_⟩;refine a _ _ n λg A=>?_
         apply rn;simp[d];refine⟨by omega,o _ (by omega) ⟨_,g,rfl,by simp[c],by simp[j],by simp[l],by rw[b];simp,by simp,by grind⟩⟩
       . have b:bW w i (k+1)=(1048576,(bW w i k).2):=by
          conv=>lhs;unfold bW
          grind
         refine⟨by omega,o _ (by omega) ⟨_,_,rfl,?_,?_,?_,by simp_all,?_,by simp_all⟩⟩<;>simp[c,j,l]
   . have x:¬((k:Int)<=72/\yM w k i=true):=λq=>by omega
     refine sm.intro (λe=>?_) (λe=>?_)<;>(try simp[-Int.not_lt,-Int.not_le]at e)<;>(try simp[c,r,d,e])
     . have b:bW w i (k+1)=(1048576,(bW w i k).2++[((bW w i k).1,(k:Int)-1)]):=by
        conv=>lhs;unfold bW
        grind
       obtain⟨z,f⟩:=Ia (w:=w) (i:=i) p (by rw[b]);have a:=B _ z;rw[f]at a;refine⟨by omega,?_⟩;refine a _ _ n λg A=>?_
       apply rn;simp[d];refine⟨by omega,o _ (by omega) ⟨_,g,rfl,?_,?_,?_,by simp_all,?_,by simp_all⟩⟩<;>simp[c,j,l]
     . have b:bW w i (k+1)=(1048576,(bW w i k).2):=by
        conv=>lhs;unfold bW
        grind
       refine⟨by omega,o _ (by omega) ⟨_,_,rfl,?_,?_,?_,by simp_all,?_,by simp_all⟩⟩<;>simp[c,j,l]
 . have ek:k=74:=by omega
   subst ek;exact .done (h _ n)
abbrev Cx(fb mb:Nat)(w:gO)(i:Int):AV:=.fn (.func 100) [] [.cp (uP fb mb w 0) 0,.cp (int i) 0]
theorem A8{w fb mb i}(h:KF (.val (Cx fb mb w i)) σ):az prog m 58 [uP fb mb w 0,int i] σ KF:=by
 refine fs [] Tryz.func58 rfl (by kernel_rfl) ?_;simp[Tryz.f58];exact .done h
theorem qZ  w   i :∀h ,(bW w i h).2.length<=h
 |0=>by simp[bW]
 | h+1=>by
   have:=qZ w i h;unfold bW
   grind
theorem fj.mono{w mb σ σ'}(h:fj w mb σ)(b:∀d x,σ d=some x->(∀e,x≠.tail e)->(∀a,x≠.cells [a])->(∀y,x≠.loop y)->(∀o,x≠.raw o)->σ' d=some x):fj w mb σ':=by
 obtain⟨l,c,f⟩:=h;refine⟨l,b _ _ c (by simp[m8]) (by simp[m8]) (by simp[m8]) (by simp[m8]),λp a g=>?_⟩
 grind
abbrev pf(l:ade):AV:=.sl 2 (l.map kQ) .any
theorem zN(Q:m.solo=true){w fb mb i}(hO:w.Open)(hi:0<=i/\i<6)(hB:fj w mb σ)(h:∀σ',fj w mb σ'->fQ mb σ σ'->KF (.val (pf (cQ w i))) σ'):az prog m 99 [ny,Cx fb mb w i] σ KF:=by
 have hlen:=qZ w i 74;refine az.start lay [2] [] 2 Tryz.func99 rfl rfl (by rfl) (by kernel_rfl) ?_
 simp[Tryz.f99];refine bS.intro λc hc=>?_
 simp;refine aa.rangeFunc rfl λR r l S T s=>?_
 obtain⟨r1,r2,S⟩:=ab.aQ S;obtain⟨B,l2,T⟩:=ab.aQ T;generalize C:wM.mk _ _ _ _ _ _ _ _ _=al;have nm:∀d,σ d=none->d≠mb:=λd hd e=>by obtain⟨x,q,_⟩:=hB;simp_all
 have cm:=nm c hc;have lm:=nm l T;have rm:=nm r S;refine eC Tryz.func100 rfl rfl rfl (A7 Q hO hi (y:=.fn (.yield l) [] []) (I:=λk σ'=>fj w mb σ'/\σ' l=some (.loop al)/\σ' r=some (.raw (.deferred (some [])))/\∃a,σ' c=some (.cells [a])/\Tok (σ'.off a) σ' a 2 (((cQ w i).take k).map kQ)/\fQ mb σ (σ'.off a)) ⟨rfl,rfl⟩ ?_ ?_ ?_ ?_ ?_)
 . rintro k f ad ⟨D,z,E,a,F,g,G⟩ t U
   refine⟨U,t _ _ z lm,t _ _ E rm,a,t _ _ F cm,tN g λb e o=>t b _ o λq=>(sf w mb).mb D e (q ▸ o),λd x H hd=>?_⟩
   have J:=G d x H hd;have V:bt a≠some d:=λe=>by obtain⟨n,_⟩:=g.aZ e;simp_all
   rw[ab.dT V]at J ⊢;exact t _ _ J hd
 . simp_all
 . rintro k t f K ⟨D,z,E,a,F,g,G⟩ hK
   have Y:=g.cells;subst C;refine cr.xl (hold:=[]) R Tryz.func99 z rfl ?_;apply rn;simp[m7];refine bS.intro λq hq=>?_
   simp
   change aa _ _ _ _ _ _ _ _ _
   refine aa.runN lay [] 1 ?_;simp
   change aa _ _ _ _ _ _ _ _ _
   refine aa.bd 5 (b:=q) (kQ (cQ w i)[k]) (ab.ai _ _ _) (by simp) rfl ?_
   rw[eE hq];refine aa.beginRound z rfl ?_;have cl:∀x,(f.set l x) c=some (.cells [a]):=λx=>(ab.ah _ _ (zj B)).trans F
   apply rn;simp[cl];have H:∀X,Tok ((f.set l X).off a) (f.set l X) a 2 (((cQ w i).take k).map kQ):=λX=>tN g λb e o=>(ab.ah _ _ (λq=>by simp_all)).trans o
   have Q:((cQ w i).take (k+1)).map kQ=((cQ w i).take k).map kQ++[kQ (cQ w i)[k]]:=by rw[zG t,aaY];rfl
   refine aP lay rfl rfl rfl Vt rfl Vt rfl Xx (by decide) (by simp only[abi,abO,abl,abD];unfold cQ;omega) (es:=((cQ w i).take k).map kQ) (xs:=[kQ (cQ w i)[k]]) (H _) (.inr ⟨_,by simp;rfl⟩) λZ u j=>?_
   rw[<-Q]at j;have L:=j.cells;have a7:bt a≠some c:=λe=>by obtain⟨_,_,q⟩:=g.aZ e;simp_all
   have t3:u c=some (.cells [a]):=j.1 _ _ (by rw[ab.dT a7];exact cl _)
   have a8:bt a≠some l:=λe=>by obtain⟨_,_,q⟩:=g.aZ e;simp_all
   have t4:=λ(X:sn) (hX:((f.set l X).off a).Le u)=>hX l X (by rw[ab.dT a8];simp_all)
   have t4:=t4 _ j.1;refine aa.run lay [2] ?_;simp[t3,L.1,L.2,aM];refine⟨rfl,rfl,_,(ab.ah _ _ B).trans t4,?_⟩
   have M:∀X d x,d≠l->d≠c->bt a≠some d->f d=some x->((u.set c (.cells [Z])).set l X) d=some x:=λX d x d1 d2 d3 hd=>by rw[ab.ah _ _ d1,ab.ah _ _ d2];exact j.1 _ _ (by rw[ab.dT d3,ab.ah _ _ d1];exact hd)
   refine hK _ ⟨D.mono λd x hd O h2 h3 _=>M _ d x (λe=>by grind) (λe=>by grind) (λe=>by obtain⟨_,_,q⟩:=g.aZ e;grind) hd,ab.ai _ _ _,M _ r _ s r1 (λe=>by obtain⟨_,_,q⟩:=g.aZ e;simp_all) E,Z,(ab.ah _ _ (zj B)).trans (ab.ai _ _ _),tN j λb e o=>?_,λd x H hd=>?_⟩
   . have v:b≠l:=λq=>by grind
     have A:b≠c:=λq=>by grind
     rw[ab.ah _ _ v];exact(ab.ah _ _ A).trans o
   . have v:d≠l:=λq=>by grind
     have A:d≠c:=λq=>by grind
     have J:=G d x H hd;have P:bt a≠some d:=λe=>by obtain⟨n,_⟩:=g.aZ e;grind
     rw[ab.dT P]at J
     have n4:bt Z≠some d:=λe=>by obtain⟨n,_⟩:=j.aZ e;rw[ab.dT P,ab.ah _ _ v,J]at n;cases n
     rw[ab.dT n4]
     grind
 . have N:∀d x,σ d=some x->(((σ.set c (.cells [ny])).set r (.raw (.deferred (some [])))).set l (.loop al)) d=some x:=λd x hd=>by
    have v:d≠l:=λq=>by simp_all
    have A:d≠r:=λq=>by simp_all
    have P:d≠c:=λq=>by simp_all
    rw[ab.ah _ _ v,ab.ah _ _ A,ab.ah _ _ P];exact hd
   exact⟨hB.mono λd x hd _ _ _ _=>N d x hd,ab.ai _ _ _,(ab.ah _ _ s).trans (ab.ai _ _ _),AV.nil,(ab.ah _ _ (zj B)).trans ((ab.ah _ _ (zj r1)).trans (ab.ai _ _ _)),Tok.nil _ 2,λd x hd _=>N d x hd⟩
 . rintro f ⟨D,z,E,a,F,g,G⟩
   have Y:=g.cells;rw[aaQ]at g;subst C;refine⟨_,z,by simp,rfl,?_⟩
   have a9:(f.del l) c=some (.cells [a]):=by simp only[ab.del,zj B,aaH];exact F
   refine aa.run lay [2] ?_;simp[a9];refine⟨by simp only[ab.del,s,aaH];exact E,?_⟩
   have p:∀{d x},d≠l->d≠r->(f.off a) d=some x->(((f.off a).del l).del r) d=some x:=λO h2 h3=>by simp only[ab.del,O,h2,aaH];exact h3
   refine .om g.W (.less (λd x hd=>?_) (.done (h (((f.off a).del l).del r) (D.mono λd x hd O h2 h3 h4=>p (λe=>by grind) (λe=>by grind) (GP g hd O)) λd x hd hm=>p (λq=>by simp_all) (λq=>by simp_all) (G d x hd hm))))
   simp only[ab.del]at hd;split at hd
   . cases hd
   next v=>
   split at hd
   . cases hd
   next A=>
   rw[ab.ah _ _ v];simp only[ab.del,A,aaH];exact ab.RR hd
theorem EX(a:m.solo=true){w fb mb i}(b:w.Open)(hi:0<=i/\i<6)(c:fj w mb σ)(h:∀σ',fj w mb σ'->fQ mb σ σ'->KF (.val (pf (cQ w i))) σ'):az prog m 57 [Cx fb mb w i] σ KF:=by
 refine fs [] Tryz.func57 rfl (by kernel_rfl) ?_;simp[Tryz.f57];refine cf Tryz.func99 rfl (zN a b hi c λσ' d e=>?_);apply rn;simp;exact .done (h σ' d e)
theorem Kl(a:m.solo=true){w}(f:w.qz)(g:w.Open){i}(hi:0<=i/\i<6)(b:fh w [] [i] []≠0->KF (.val (.cA [ny,int (fh w [] [i] [])])) σ)(h:fh w [] [i] []=0->KF (.val (.cA [pf (cQ w i),int 0])) σ):az prog m 23 [dP w,int i] σ KF:=by
 have j:Wl [dP w,ny,.sl 1 [int i] .exact,ny] [dP w,ints [],ints [i],ints []]:=Rw (.refl _) (fK 1) (fL 1 _ _) (fK 1);obtain⟨e,k⟩:∃e,e=fh w [] [i] []:=⟨_,rfl⟩;refine fs [] Tryz.func23 rfl (by kernel_rfl) ?_;simp[Tryz.f23];refine bK Tryz.func41 rfl rfl j (kG a f (by simp) (λq=>?_) λq l fb mb c=>?_)
 . rw[<-k]at q b ⊢
   have d:(e !=0)=true:=by grind
   apply rn;simp[d];exact .done (b q)
 . apply rn
   simp;refine cf Tryz.func58 rfl (A8 ?_);apply rn;simp;refine cf Tryz.func57 rfl (EX a g hi c.yL λn d o=>?_);apply rn;simp;exact .less (c.less o) (.done (h q))
def tO(l:ade):Int:=l.foldl (λn r=>n+(r.2-r.1+1)) 0
def jd(w:gO)(k:Nat):Int:=(List.range k).foldl (λ(n:Int) (i:Nat)=>n+tO (cQ w (i:Int))) 0
theorem qD  w   i :∀h ,h<=74->∀r∈(bW w i h).2,(0<=r.1/\r.1<=1048576)/\-1<=r.2/\r.2<=73
 |0,_,r,a=>by simp[bW]at a
 | h + 1,b,r,a=>by
   have:=Cw w i h;unfold bW at a;split at a
   . exact qD w i h (by omega) r a
   split at a
   . rcases aaN.1 a with a|a
     . exact qD w i h (by omega) r a
     grind
   . exact qD w i h (by omega) r a
theorem Km  l   r :tO (l++[r])=tO l+(r.2-r.1+1):=by unfold tO;simp_all
theorem Ib{l}(a:∀r∈l,(0<=r.1/\r.1<=1048576)/\-1<=r.2/\r.2<=73):-(2000000*(l.length:Int))<=tO l/\tO l<=2000000*l.length:=by
 have key:∀(l:ade) (n:Int),(∀r∈l,(0<=r.1/\r.1<=1048576)/\-1<=r.2/\r.2<=73)->n-2000000*l.length<=l.foldl (λn r=>n+(r.2-r.1+1)) n/\l.foldl (λn r=>n+(r.2-r.1+1)) n<=n+2000000*l.length:=λl=>by
  induction l with
  |nil=>simp_all
  | cons r l b=>
    intro n h;have d:=h r (by simp);have e:=b (n+(r.2-r.1+1)) λx c=>h x (by simp[c])
    grind
 have:=key l 0 a;unfold tO;omega
theorem EY  w :∀k:Nat,-(200000000*(k:Int))<=jd w k/\jd w k<=200000000*k
 |0=>by simp[jd]
 | k+1=>by
   have a:=EY w k;have b:=Ib (qD w k 74 (by omega))
   have c:=qZ w k 74;have e:jd w (k+1)=jd w k+tO (cQ w k):=by unfold jd;rw[aaZ,abo];rfl
   rw[e];unfold cQ;omega
theorem A9{P}(L:jo P){rs env a}:∀(ds:adB)  σ ,ds.Nodup->(∀r∈ds,σ r=some (.raw (.deferred (some []))))->(∀σ',(∀d,d∉ds->σ' d=σ d)->KI L m rs env KF [] a σ')->KI L m rs env KF (ds.map .mark) a σ
 |[],σ,_,_,h=>h σ λ_ _=>rfl
 | r ::ds,σ,b,c,h=>⟨c r (by simp),A9 L ds _ (abK.1 b).2 (λd hd=>by
     have n:d≠r:=λe=>(abK.1 b).1 (by simp_all)
     rw[ab.ah _ _ n]
     simp_all) λσ' f=>h σ' λd hd=>by
     have n:d≠r:=λe=>hd (by simp[e])
     rw[f d λq=>hd (by simp[q]),ab.ah _ _ n]⟩
theorem Kn(hs:m.solo=true){w}(hw:w.qz)(hO:w.Open)(he:fh w [] [] []=0)(hK:KF (.val (.cA [int (jd w w.fair.aA.length),int 0])) σ):az prog m 25 [dP w] σ KF:=by
 have hW:Wl [dP w,ny,ny,ny] [dP w,ints [],ints [],ints []]:=Rw (.refl _) (fK 1) (fK 1) (fK 1);have h6:=hO.pI.1;refine fs [] Tryz.func25 rfl (by kernel_rfl) ?_
 simp[Tryz.f25];refine bK Tryz.func41 rfl rfl hW (kG hs hw (by simp) (λq=>absurd he q) λq o fb mb v=>?_)
 have E:=v.yL;have F:∀d,o d=none->d≠mb:=λd hd e=>by obtain⟨x,q,_⟩:=E;simp_all
 apply rn;simp;refine bS.intro λc hc=>?_
 simp;have cm:=F c hc;refine aa.loop w.fair.aA.length (λk s=>∃env a ds,s=⟨env,a,List.map zk.mark ds,.no⟩/\(env 1=.cp (dP w) 0/\env 4=uP fb mb w 0/\env 6=.ref c 0/\env 20=int w.fair.aA.length/\env 21=int k)/\fj w mb a/\a c=some (.cells [int (jd w k)])/\ds.Nodup/\(∀r∈ds,a r=some (.raw (.deferred (some [])))/\o r=none)/\fQ mb o a) ⟨_,_,[],rfl,by simp,E.mono λd x hd _ _ _ _=>(ab.ah _ _ λe=>by simp_all).trans hd,ab.ai _ _ _,by simp,by simp,λd x hd _=>(ab.ah _ _ λe=>by simp_all).trans hd⟩ ?_
 rintro c0 k _ P ⟨env,a,ds,rfl,⟨e1,e4,U,zt,vY⟩,hB,G,H,z,A⟩ ih
 apply rn;simp[zt,vY];apply aG.intro<;>intro g1<;>simp at g1<;>simp[e4,U,vY,g1,G]
 . refine cf Tryz.func58 rfl (A8 ?_)
   apply rn;simp;refine aa.rangeFunc rfl λV r l Q R B=>?_
   change a r=none at Q
   change a l=none at R
   have nm:∀d,a d=none->d≠mb:=λd hd e=>by obtain⟨x,q,_⟩:=hB;grind
   have lm:=nm l R;have rm:=nm r Q;have lc:l≠c:=λe=>by grind
   have rc:r≠c:=λe=>by grind
   have J:=qD w k 74 (by omega)
   have hlen:=qZ w k 74;have ax:=EY w k
   have W:o r=none:=by
    cases e:o r with
    |none=>rfl
    |some x=>have:=A r x e rm;grind
   have a7:jd w (k+1)=jd w k+tO (cQ w k):=by unfold jd;rw[aaZ,abo];rfl
   generalize L:wM.mk _ _ _ _ _ _ _ _ _=al;refine eC Tryz.func100 rfl rfl rfl (A7 hs hO (i:=(k:Int)) (by omega) (y:=.fn (.yield l) [] []) (I:=λj f=>fj w mb f/\f l=some (.loop al)/\f c=some (.cells [int (jd w k+tO ((cQ w k).take j))])/\∀d x,(a.set r (.raw (.deferred (some [])))) d=some x->d≠mb->d≠c->f d=some x) ⟨rfl,rfl⟩ ?_ ?_ ?_ ?_ ?_)
   . rintro j f a8 ⟨T,t,u,D⟩ P a9
     exact⟨a9,P _ _ t lm,P _ _ u cm,λd x g p h=>P _ _ (D d x g p h) p⟩
   . grind
   . rintro j hj f K ⟨T,t,u,D⟩ ad
     have M:=J _ (zs hj);have av:=Ib (l:=(cQ w k).take j) λx hx=>J x (acA hx)
     have ay:((cQ w k).take j).length<=74:=aaR (List.length_take_le _ _) (by unfold cQ at hj;omega)
     have C:tO ((cQ w k).take (j+1))=tO ((cQ w k).take j)+((cQ w k)[j].2-(cQ w k)[j].1+1):=by rw[zG hj,Km]
     generalize tO ((cQ w k).take j)=S at u av C;obtain⟨x1,x2⟩:∃r:Int × Int,r=(cQ w k)[j]:=⟨_,rfl⟩;rw[<-x2]at M C ⊢;obtain⟨ra,rb⟩:=x1;simp only at M C;subst L;refine cr.xl (hold:=[]) V Tryz.func25 t rfl ?_;apply rn;simp[m7];refine bS.intro λq hq=>?_
     simp
     change aa _ _ _ _ _ _ _ _ _
     refine aa.runN lay [] 1 ?_;simp
     change aa _ _ _ _ _ _ _ _ _
     refine aa.bd 8 (b:=q) (kQ (ra,rb)) (ab.ai _ _ _) (by simp) rfl ?_
     rw[eE hq];refine aa.beginRound t rfl ?_;have cl:∀x,(f.set l x) c=some (.cells [int (jd w k+S)]):=λx=>(ab.ah _ _ (zj lc)).trans u
     apply rn;simp[cl,U];refine⟨by omega,by omega,by omega,?_⟩
     refine⟨rfl,rfl,_,(ab.ah _ _ lc).trans (ab.ai _ _ _),?_⟩
     have N:∀X Y Z d x,d≠l->d≠c->f d=some x->(((f.set l X).set c Y).set l Z) d=some x:=λX Y Z d x g p h=>by rw[ab.ah _ _ g,ab.ah _ _ p,ab.ah _ _ g];exact h
     refine ad _ ⟨T.mono λd x hd _ p h _=>N _ _ _ d x (λe=>by rw[e,t]at hd;exact h _ (abd hd).symm) (λe=>by rw[e,u]at hd;exact p _ (abd hd).symm) hd,ab.ai _ _ _,(ab.ah _ _ (zj lc)).trans ((ab.ai _ _ _).trans (by grind)),λd x g p h=>?_⟩
     have dl:d≠l:=λe=>by rw[e,ab.ah _ _ (zj B),R]at g;cases g
     exact N _ _ _ d x dl h (D d x g p h)
   . have O:∀d x,a d=some x->((a.set r (.raw (.deferred (some [])))).set l (.loop al)) d=some x:=λd x hd=>by
      have n1:d≠l:=λe=>by grind
      have n2:d≠r:=λe=>by grind
      rw[ab.ah _ _ n1,ab.ah _ _ n2];exact hd
     refine⟨hB.mono λd x hd _ _ _ _=>O d x hd,ab.ai _ _ _,(O _ _ G).trans (by simp[tO]),λd x g _ _=>?_⟩
     exact(ab.ah _ _ λe=>by rw[e,ab.ah _ _ (zj B),R]at g;cases g).trans g
   . rintro f ⟨T,t,u,D⟩
     rw[aaQ,<-a7]at u;subst L;refine⟨_,t,by simp,rfl,?_⟩
     apply rn;simp[vY];have n:∀d x,d≠l->f d=some x->(f.del l) d=some x:=λd x g p=>by simp only[ab.del,g,aaH];exact p
     have hold:∀d x,a d=some x->d≠mb->d≠c->(f.del l) d=some x:=λd x g p h=>n d x (λe=>by grind) (D d x ((ab.ah _ _ λe=>by grind).trans g) p h)
     refine⟨by omega,ih _ (by omega) ⟨_,_,r::ds,rfl,by simp[e1,e4,U,zt],T.mono λd x hd _ _ h _=>n d x (λe=>by rw[e,t]at hd;exact h _ (abd hd).symm) hd,n _ _ (zj lc) u,abK.2 ⟨λq=>?_,H⟩,λd hd=>?_,λd x hd hm=>?_⟩⟩
     . grind
     . rcases abf.1 hd with rfl|hd
       . exact⟨n _ _ B (D _ _ (ab.ai _ _ _) rm rc),W⟩
       . obtain⟨q1,q2⟩:=z d hd
         exact⟨hold d _ q1 (F d q2) (λe=>by grind),q2⟩
     . exact hold d x (A d x hd hm) hm (λe=>by grind)
 . have ek:k=w.fair.aA.length:=by omega
   subst ek;refine A9 lay ds _ H (λr Q=>(z r Q).1) λa8 h=>⟨[int (jd w w.fair.aA.length),int 0],by simp[eQ],?_⟩
   refine .less (λd x hd=>?_) (.done hK)
   have q1:=v.less A d x hd;rw[h d λq=>?_]
   . exact q1
   . have:=(z d q).2
     have h0:=v.less (.refl mb o) d x hd
     grind
theorem Cy{a b}(t:a.length<1152921504606846976)(hb:b.length<1152921504606846976)(h:KF (.val (bool (decide (a=b)))) σ):az prog m 47 [ints a,ints b] σ KF:=by
 refine fs XE Tryz.func47 rfl (by kernel_rfl) ?_;simp[Tryz.f47];apply aG.intro<;>intro d<;>simp at d<;>simp[d]
 . have:a≠b:=λe=>d (by rw[e])
   simp[this]at h;exact .done h
 refine aa.loop a.length (λk s=>∃env,s=⟨env,σ,[],.no⟩/\env 0=ints a/\env 1=ints b/\env 12=int a.length/\env 13=int k/\a.take k=b.take k) ⟨_,rfl,by simp[d]⟩ ?_;rintro u k _ v ⟨env,rfl,l,n,fq,c,f⟩ p;have r:a.length=b.length:=by omega
 apply rn;simp[fq,c];apply aG.intro<;>intro g<;>simp at g<;>simp[l,n,c,g]
 . have o:k<b.length:=by omega
   simp[o];apply rn;simp;by_cases i:a[k]=b[k]
   . have q:(a[k]!=b[k])=false:=by simp[i]
     simp[c,q];refine⟨by omega,p _ (by omega) ⟨_,rfl,by simp[l],by simp[n],by simp[fq],by simp,?_⟩⟩;rw[zG g,zG o,f,i]
   . have q:(a[k] !=b[k])=true:=by simp[i]
     have j:a≠b:=λe=>by simp_all
     simp[j]at h;simp[q];exact .done h
 . have ek:k=a.length:=by omega
   subst ek;rw[aaQ,r,aaQ]at f;simp[f]at h;exact .done h
def foundAt(w:gO)(c:Int)(h i:Nat):Prop:=ia w h i c=1/\∀a b:Nat,(a<h\/a=h/\b<i)->b<w.fair.aA.length->ia w a b c≠1
theorem Ko(z:m.solo=true){w}(F:w.qz)(A:w.Open){c}(G:0<=c/\c<3)(H:fh w [] [] [c]=0)(I:∀h i ,h<73->i<w.fair.aA.length->foundAt w c h i->KF (.val (.cA [int h,int i,int 0])) σ)
 (J:(∀e b:Nat,e<73->b<w.fair.aA.length->ia w e b c≠1)->KF (.val (.cA [int 0,int 0,int 11])) σ):az prog m 31 [dP w,int c] σ KF:=by
 have K:Wl [dP w,ny,ny,.sl 1 [int c] .exact] [dP w,ints [],ints [],ints [c]]:=Rw (.refl _) (fK 1) (fK 1) (fL 1 _ _);have S:=A.pI.1;refine fs [] Tryz.func31 rfl (by kernel_rfl) ?_;simp[Tryz.f31];refine bK Tryz.func41 rfl rfl K (kG z F (by simp) (λq=>absurd H q) λq g fb mb u=>?_);apply rn;simp;refine aa.loop 73 (λk s=>∃env a,s=⟨env,a,[],.no⟩/\(env 1=int c/\env 2=.cp (dP w) 0/\env 9=.fn (.func 67) [uP fb mb w 0] []/\env 24=int k)/\fj w mb a/\fQ mb g a/\∀e b:Nat,e<k->b<w.fair.aA.length->ia w e b c≠1) ⟨_,_,rfl,by simp,u.yL,.refl mb g,λe b q=>absurd q (Nat.not_lt_zero _)⟩ ?_;rintro T k _ L ⟨env,a,rfl,⟨n,o,p,IG⟩,t,d,v⟩ M;apply rn;simp[IG];apply aG.intro<;>intro B<;>simp at B<;>simp[o,IG,B]
 . refine aa.loop w.fair.aA.length (λj s=>∃env a,s=⟨env,a,[],.no⟩/\(env 1=int c/\env 2=.cp (dP w) 0/\env 9=.fn (.func 67) [uP fb mb w 0] []/\env 24=int k/\env 10=int k/\env 30=int w.fair.aA.length/\env 31=int j)/\fj w mb a/\fQ mb g a/\∀b:Nat,b<j->ia w k b c≠1) ⟨_,_,rfl,by simp[n,o,p,IG],t,d,λb q=>absurd q (Nat.not_lt_zero _)⟩ ?_
   rintro U j _ V ⟨env,a,rfl,⟨n,o,p,IG,cX,r,l⟩,t,d,C⟩ x;apply rn;simp[r,l];apply aG.intro<;>intro D<;>simp at D<;>simp[n,p,IG,cX,l,D]
   . refine eC Tryz.func67 rfl rfl rfl (EP z A (by omega) G t λy N O=>?_)
     have f:=d.trans O;by_cases E:ia w k j c=1
     . rw[show yI (ia w k j c)=.mr 125 (.agg [])by rw[E];rfl]
       apply rn;simp[cX];refine .less (u.less f) (.done (I k j (by omega) (by omega) ⟨E,λe b q P=>?_⟩))
       grind
     . have Q:AY (ia w k j c)≠125:=by unfold AY;grind
       apply rn;simp[l,Q];refine⟨by omega,x _ (by omega) ⟨_,y,rfl,(by simp[n,o,p,IG,cX,r]),N,f,λb q=>?_⟩⟩
       grind
   . have R:j=w.fair.aA.length:=by omega
     subst R;refine⟨by omega,M _ (by omega) ⟨_,a,rfl,(by simp[n,o,p]),t,d,λe b q P=>?_⟩⟩
     grind
 . have ek:k=73:=by omega
   subst ek;exact .less (u.less d) (.done (J v))
theorem Ba  w   h :(kX w h).length<=w.fair.aA.length:=by
 unfold kX
 grind
def gO.only(w:gO)(l:adA):gO:={w with aD:=l.filterMap λc=>w.aD[c.toNat]?}
abbrev yN(w:gO)(a:AV):adF:=[jF w.fair.aA,rows w.fair.roads,int w.fair.aT,int w.fair.eL,int w.fair.cB,int w.fair.aY,int w.bf,uN w.ways,a]
theorem Ow  w   a b :(yN w a).set 8 b=yN w b:=rfl
theorem Kr{w wb a}(b:σ wb=some (.cells (yN w a)))(h:KF (.val (.cA [])) (σ.set wb (.cells (EG w)))):az prog m 88 [.cp (kW w.aD) 0,.cp (.ref wb 0) 0] σ KF:=by
 refine fs [] Tryz.func88 rfl (by kernel_rfl) ?_;simp[Tryz.f88];simp[b];exact .done h
namespace CW
abbrev XO:adr:=[⟨7,.take [0,1,2,3,5,6,7,8,11,12] false (.both 4 (.one 9 (.one 10 (.one 13 (.done)))) (.one 9 (.take [4] true (.one 10 (.one 13 (.done))))))⟩]
abbrev XP:adr:=[⟨0,.take [3] false (.one 0 (.one 1 (.one 2 (.one 4 (.one 5 (.done))))))⟩]
theorem Ox{w wb l}(M:∀c∈l,0<=c/\c<w.aD.length)(S:l.length<=1000){F t}(I:adD)(C:σ wb=some (.cells (EG w)))
 (N:∀a g K,Tok (σ.del wb) g a 8 ((w.only l).aD.map iv)->g wb=some (.cells (yN w a))->(∀σ2,σ2 wb=some (.cells (yN w a))->I σ2->K (.val (.cA [])) σ2)->cr prog m (.fn F [] t) [] g K)
 (h:∀σ2,I σ2->KF (.val (.cA [])) (σ2.set wb (.cells (EG w)))):az prog m 45 [.ref wb 0,ints l,.fn F [] t] σ KF:=by
 refine az.F5 lay [] XO 12 3 Tryz.func45 rfl rfl (by rfl) (by kernel_rfl) ?_
 simp[Tryz.f45,C];refine bS.intro λD u=>?_
 have T:wb≠D:=λe=>by simp_all
 simp
 change aa _ _ _ _ _ _ _ _ _
 refine aa.bd 6 (b:=D) (kW w.aD) (ab.ai _ _ _) (by simp) rfl ?_
 rw[eE u];apply rn;simp;refine aa.defer rfl rfl rfl rfl (by simp) rfl ?_
 apply rn;simp[C];refine aa.loop l.length (λk s=>∃env d a,s=⟨env,d,[.call (.func 88) [.cp (kW w.aD) 0,.cp (.ref wb 0) 0] []],.no⟩/\(env 2=.fn F [] t/\env 3=.cp (.ref wb 0) 0/\env 6=.cp (kW w.aD) 0/\env 17=ints l/\env 18=int l.length/\env 19=int k)/\Tok (σ.del wb) d a 8 ((w.only (l.take k)).aD.map iv)/\d wb=some (.cells (yN w a))) ⟨_,_,.lit (.slice none 0 0),rfl,by simp,⟨?_,.inl ⟨rfl,by simp[gO.only]⟩⟩,ab.ai _ _ _⟩ ?_
 . intro c x v
   have E:c≠wb:=λe=>by subst e;simp[ab.del]at v
   simp only[ab.del,E,aaH]at v;rw[ab.ah _ _ E];exact v
 rintro U k _ V ⟨env,d,a,rfl,⟨G,H,J,j,tT,Pq⟩,n,i⟩ O
 apply rn;simp[tT,Pq];apply aG.intro<;>intro r<;>simp at r<;>simp[G,H,J,j,Pq,r]
 . have P:=M l[k] (zs r)
   have y:((w.only (l.take k)).aD.map iv).length<=k:=by
    rw[abi];refine aaR (List.length_filterMap_le _ _) ?_
    grind
   have z:(w.only (l.take (k+1))).aD.map iv=(w.only (l.take k)).aD.map iv++[iv w.aD[l[k].toNat]]:=by simp only[gO.only];rw[zG r,List.filterMap_append,aaY];simp[zU (show l[k].toNat<w.aD.length by omega)]
   have A:bt a≠some wb:=λe=>by obtain⟨_,x,q⟩:=n.aZ e;simp_all
   simp[i,P];refine⟨?_,?_⟩
   all_goals
    refine aP lay rfl rfl rfl Qb rfl Qb rfl Vr (by decide) (by simp only[abi,abl,abD]at y ⊢;omega) (σ0:=d.off a) (es:=(w.only (l.take k)).aD.map iv) (xs:=[iv w.aD[l[k].toNat]]) (by simpa using n.here.1) (.inr ⟨_,rfl⟩) λL σ2 f=>?_
    rw[<-z]at f;have o:σ2 wb=some (.cells (yN w a)):=f.1 _ _ ((ab.dT A).trans i);have B:=f.cells;have p:bt L≠some wb:=λe=>by obtain⟨_,x,q⟩:=f.aZ e;rw[o]at q;cases q
    apply pg;simp[o,B];apply rn;simp[Pq];refine⟨by omega,O _ (by omega) ⟨_,_,L,rfl,by simp[G,H,J,j,tT],(f.base n.here.2).beside (by simp[ab.del]) p,ab.ai _ _ _⟩⟩
 . have ek:k=l.length:=by omega
   subst ek;rw[aaQ]at n;refine N a d _ n i λσ2 Q R=>?_
   apply rn;simp;refine rp.func Tryz.func88 rfl rfl (Kr Q ?_);exact⟨[],rfl,.done (h σ2 R)⟩
theorem V'{w l a}(d:a.W (kW (w.only l).aD)):(AV.agg (yN w a)).W (dP (w.only l)):=qm rfl λi x y c b=>by
 change (yN w (kW (w.only l).aD))[i]?=some y at b;rw[<-Ow w a]at b;by_cases e:i=8
 . simp_all
 . rw[abA (zj e),c]at b
   cases b;exact .refl _
theorem Cz(f:m.solo=true){w wb c a l e x}(g:(w.only l).Open)(d:w.ways.length<1152921504606846976/\(∀x∈w.ways,tH w.bf x)/\1<=w.bf/\w.bf<=4)(k:yH (w.only l))(t:e.length<1000000)(n:σ wb=some (.cells (yN w a)))(o:a.W (kW (w.only l).aD))(p:σ c=some (.cells [x]))
 (h:∀σ2,σ.Le σ2->KF (.val (.cA [])) (σ2.set c (.cells [bool (decide (kX (w.only l) 72=e))]))):az prog m 46 [.ref wb 0,.cp (ints e) 0,.ref c 0] σ KF:=by
 have u:=g.pI.1;have i:=Ba (w.only l) 72;have q:Wl [.agg (yN w a)] [dP (w.only l)]:=.cons (V' o) .nil;refine fs XP Tryz.func46 rfl (by kernel_rfl) ?_;simp[Tryz.f46];simp[n];refine bK Tryz.func48 rfl rfl q (tK f d.1 d.2.1 d.2.2 k λr fb mb j=>?_);apply pg;simp;refine cf Tryz.func42 rfl (yK f g j.yL λσ2 v s=>?_);apply pg;simp;have b:=j.less s;refine cf Tryz.func47 rfl (Cy (by omega) (by omega) ?_);apply pg;simp[b _ _ p];apply rn;simp;exact .done (h σ2 b)
end CW
theorem EZ(v:m.solo=true){w wb l e}(y:(w.only l).Open)(z:w.ways.length<1152921504606846976/\(∀x∈w.ways,tH w.bf x)/\1<=w.bf/\w.bf<=4)(A:yH (w.only l))(B:e.length<1000000)(k:∀c∈l,0<=c/\c<w.aD.length)(C:l.length<=1000)(D:σ wb=some (.cells (EG w)))
 (h:KF (.val (bool (decide (kX (w.only l) 72=e)))) σ):az prog m 44 [ints l,.ref wb 0,.cp (ints e) 0] σ KF:=by
 refine az.start lay [5] [] 3 Tryz.func44 rfl rfl (by rfl) (by kernel_rfl) ?_;simp[Tryz.f44];refine bS.intro λf E=>?_
 have j:wb≠f:=λe=>by simp_all
 simp;have o:(σ.set f (.cells [bool false])) wb=some (.cells (EG w)):=(ab.ah _ _ j).trans D;refine cf Tryz.func45 rfl (CW.Ox k C (λb=>∃d:ab,(∀c x,σ c=some x->c≠wb->d c=some x)/\b=d.set f (.cells [bool (decide (kX (w.only l) 72=e))])) o (λa p K r g F=>?_) ?_)
 . have s:p f=some (.cells [bool false]):=r.1 _ _ (by simp[ab.del,zj j])
   refine eC Tryz.func46 rfl rfl rfl (CW.Cz v y z A B g r.W s λb i=>?_);refine F _ ((ab.ah _ _ j).trans (i _ _ g)) ⟨b,λc x u n=>i _ _ (r.1 _ _ ?_),rfl⟩;have t:c≠f:=λe=>by simp_all
   simp only[ab.del,n,aaH];exact(ab.ah _ _ t).trans u
 . rintro b ⟨d,q,rfl⟩
   have G:((d.set f (.cells [bool (decide (kX (w.only l) 72=e))])).set wb (.cells (EG w))) f=some (.cells [bool (decide (kX (w.only l) 72=e))]):=(ab.ah _ _ (zj j)).trans (ab.ai _ _ _);refine aa.run lay [5] ?_;simp[G];refine .less (λc x u=>?_) (.done h);have t:c≠f:=λe=>by simp_all
   by_cases e:c=wb
   . simp_all
   . rw[ab.ah _ _ e,ab.ah _ _ t];simp_all
def cZ(x:adA):Nat:=match x.getLast? with|none=>0|some v=>v.toNat+1
def nxt(n:Nat)(x:adA):adg:=(List.range' (cZ x) (n-cZ x)).map λ(j:Nat)=>x++[(j:Int)]
def vU(n:Nat):Nat->adg
 |0=>[[]]
 |k+1=>(vU n k).flatMap (nxt n)
theorem Oy  n :∀k,∀x∈vU n k,x.length=k/\(∀c∈x,0<=c/\c<n)/\cZ x<=n
 | 0,x,a=>by
   have:x=[]:=by simpa[vU]using a
   subst this;simp[cZ]
 | k+1,x,a=>by
   simp only[vU,acb,nxt,aaU,List.mem_range'_1]at a;obtain⟨y,b,j,e,rfl⟩:=a;obtain⟨d,f,g⟩:=Oy n k y b;refine⟨by simp[d],λc h=>?_,?_⟩
   . grind
   . simp[cZ];omega
theorem yO  n :∀M:adg,(M.flatMap (nxt n)).length<=M.length*n
 |[]=>by simp
 | x::M=>by
   have:=yO n M;rw[acu,aaV,abl,acB];have:(nxt n x).length<=n:=by simp[nxt]
   omega
theorem Ic  n :∀k,(vU n k).length<=n ^ k
 |0=>by simp[vU]
 |k+1=>by have a:=yO n (vU n k);have b:=Ic n k;rw[Nat.pow_succ];exact aaR a (abB n b)
theorem GQ{x}(h:0<x.length)(a:∀c∈x,0<=c):x[x.length-1]?=some ((cZ x:Int)-1):=by
 have b:=a x[x.length-1] (zs _);unfold cZ
 grind
def GR(n:Nat)(G:adA->Bool):adA:=(((List.range (n+1)).flatMap (vU n)).find? G).getD (nz n)
theorem Qw{n k i G}(a:k<n+1)  hi  (b:∀k'<k,∀x∈vU n k',G x=false) (c:∀x∈(vU n k).take i,G x=false) (h:G (vU n k)[i]=true):GR n G=(vU n k)[i]:=by
 unfold GR
 have e:List.range (n+1)=List.range k++k::List.range' (k+1) (n-k):=by rw[List.range_eq_range',List.range_eq_range',show n+1=k+(n-k+1)by omega,<-List.range'_append_1,abU];rfl
 have d:((List.range k).flatMap (vU n)).find? G=none:=List.find?_eq_none.2 λx f=>by grind
 have g:(vU n k).find? G=some (vU n k)[i]:=by
  have j:vU n k=(vU n k).take i++(vU n k)[i]::(vU n k).drop (i+1):=by simp_all
  grind
 grind
theorem Qx{n G}(a:∀k'<n+1,∀x∈vU n k',G x=false):GR n G=nz n:=by
 unfold GR;rw[List.find?_eq_none.2 λx b=>by grind];rfl
abbrev mY(M:adg):adF:=M.map ints
theorem cr.z7{P m b args args' σ KF}(h:cr P m b args' σ KF)(c:Wl args args'):cr P m b args σ KF:=λQ k O cf a fr cs d e f g i j l n=>h Q k O cf a fr cs d (e.z7 c) f g i j l n
theorem Ks{n:Nat}(hn:n<=3){G f}(b0:f.cells=[f])(a7:f.flat=true)(hf:∀  l   σ'   K ,(∀c∈l,0<=c/\c<(n:Int))->l.length<=n->σ.Le σ'->K (.val (bool (G l))) σ'->cr prog m f [ints l] σ' K){xs:adA}(hx:xs.length=n)(a8:∀  j  (q:j<xs.length),xs[j]=j)(h:KF (.val (ints (GR n G))) σ):az prog m 43 [.agg [f],ints xs] σ KF:=by
 refine fs [] Tryz.func43 rfl (by kernel_rfl) ?_
 simp[Tryz.f43];refine⟨a7,by omega,?_⟩
 refine aa.KM 5 (a':=.sl 1 (mY (vU n 0)) .any) ?_ ?_
 . change AV.W (.sl 1 [.nil] .exact) (.sl 1 [ints []] .any)
   exact Sj rfl (by simp) (by simp) λi a a' h1 h2=>by
    cases i with
    |zero=>cases h1;cases h2;exact fK 1
    |succ i=>simp at h1
 refine aa.loop (n+1) (λk s=>∃env σ',s=⟨env,σ',[],.no⟩/\(env 1=ints xs/\env 2=.cp (.agg [f]) 0/\env 5=.sl 1 (mY (vU n k)) .any/\env 17=int ((n:Int)+1)/\env 18=int k)/\σ.Le σ'/\∀k'<k,∀x∈vU n k',G x=false) ⟨_,_,rfl,by simp[hx],ab.le_refl _,by simp⟩ ?_
 rintro c0 k _ hk ⟨env,σ',rfl,⟨o,r,e5,g,tT⟩,J,L⟩ ih
 have hM:=Oy n k;obtain⟨M,B⟩:∃M,M=vU n k:=⟨_,rfl⟩;rw[<-B]at hM e5;apply rn;simp[g,tT];apply aG.intro<;>intro g1<;>simp at g1<;>simp[o,e5,g1]
 . have b1:M.length<=27:=by
    rw[B];exact aaR (Ic n k) (aaR (Nat.pow_le_pow_left hn k) (Nat.pow_le_pow_right (n:=3) (by decide) (show k<=3 by omega)))
   refine aa.loop M.length (λi s=>∃env σ' a,s=⟨env,σ',[],.no⟩/\(env 1=ints xs/\env 2=.cp (.agg [f]) 0/\env 17=int ((n:Int)+1)/\env 18=int k/\env 20=.sl 1 (mY M) .any/\env 21=int M.length/\env 22=int i/\env 6=a)/\Tok σ σ' a 1 (mY ((M.take i).flatMap (nxt n)))/\∀x∈M.take i,G x=false) ⟨_,_,.nil,rfl,by simp[o,r,g,tT],⟨J,.inl ⟨rfl,by simp⟩⟩,by simp⟩ ?_
   rintro c1 i _ hi ⟨env,σ',a,rfl,⟨o,r,g,tT,zt,vY,vZ,u⟩,Z,v⟩ a9
   apply rn;simp[vY,vZ];apply aG.intro<;>intro N<;>simp at N<;>simp[tT,zt,vZ,u,N]
   . obtain ⟨ad,C,al⟩:=hM _ (zs N)
     have av:=yO n (M.take i);have aO:((M.take i).flatMap (nxt n)).length<=200:=aaR av (aaR (Nat.mul_le_mul (by rw[abO];omega:(M.take i).length<=27) hn) (by decide))
     obtain⟨x,D⟩:∃x,x=M[i]:=⟨_,rfl⟩;rw[<-D]at ad C al;simp only[<-D];refine aa.loop x.length (λj s=>∃env t b,s=⟨env,t,[],.no⟩/\(env 1=ints xs/\env 2=.cp (.agg [f]) 0/\env 17=int ((n:Int)+1)/\env 18=int k/\env 20=.sl 1 (mY M) .any/\env 21=int M.length/\env 22=int i/\env 6=a/\env 8=ints x/\env 26=ints x/\env 27=int x.length/\env 28=int j/\env 9=b)/\Tok σ' t b 1 ((x.take j).map int)) ⟨_,_,.nil,rfl,by simp[o,r,g,tT,zt,vY,vZ,u],.nil σ' 1⟩ ?_
     rintro c2 j _ hj ⟨env,t,b,rfl,⟨o,r,g,tT,zt,vY,vZ,u,A,O,P,F,e9⟩,w⟩ ax
     apply rn;simp[P,F];apply aG.intro<;>intro g3<;>simp at g3<;>simp[o,r,O,F,e9,g3]
     . have g4:=C _ (zs g3)
       have g5:x[j].toNat<xs.length:=by omega
       have g6:(xs[x[j].toNat]:Int)=x[j]:=by rw[a8 _ g5];omega
       have g7:x[j]<(xs.length:Int):=by omega
       simp[g4,g7,g6];have H:(x.take (j+1)).map int=(x.take j).map int++[int x[j]]:=by rw[zG g3,aaY];rfl
       refine aP lay rfl rfl rfl dD rfl dD rfl rH (by decide) (by simp only[abi,abO,abl,abD];omega) (σ0:=σ') (es:=(x.take j).map int) (xs:=[int x[j]]) (by simpa using w) (.inr ⟨_,rfl⟩) λa' p Q=>?_
       rw[<-H]at Q;apply rn;simp[F];refine⟨by omega,ax _ (by omega) ⟨_,_,a',rfl,by simp[o,r,g,tT,zt,vY,vZ,u,A,O,P],Q⟩⟩
     . have ej:j=x.length:=by omega
       subst ej;rw[aaQ]at w;have R:=Z.up w.1;have E:=R.1;refine cr.z7 (hf x t _ C (by omega) E ?_) (.cons w.W .nil)
       have S:G x=true->ints (GR n G)=ints x:=λq=>by
        rw[Qw (i:=i) (by omega) (by grind) L (by rw[<-B];exact v) (by grind)]
        grind
       cases hG:G x with
       |true=>rw[S hG]at h;apply rn;simp[e9,aG];refine .om w.W (.less E (.done h))
       | false=>
         by_cases gl:0<x.length
         have ay:=GQ gl λc hc=>(C c hc).1
         have gx:0<=(x.length:Int)-1/\(x.length:Int)-1<x.length/\1<=(x.length:Int):=by omega
         apply rn;simp[A,aG,gl,gx,ay];refine⟨by omega,by omega,?_⟩
         refine aa.jQ (λe s=>(e 1=ints xs/\e 2=.cp (.agg [f]) 0/\e 17=int ((n:Int)+1)/\e 18=int k/\e 20=.sl 1 (mY M) .any/\e 21=int M.length/\e 22=int i/\e 6=a/\e 8=ints x/\e 13=int (cZ x))/\s=t) ⟨by simp[o,r,g,tT,zt,vY,vZ,u,A],rfl⟩ ?_
         rotate_left
         have aC:cZ x=0:=by
          have:x=[]:=acp.1 (by omega)
          subst this;rfl
         apply rn;simp[A,aG,gl];refine aa.jQ (λe s=>(e 1=ints xs/\e 2=.cp (.agg [f]) 0/\e 17=int ((n:Int)+1)/\e 18=int k/\e 20=.sl 1 (mY M) .any/\e 21=int M.length/\e 22=int i/\e 6=a/\e 8=ints x/\e 13=int (cZ x))/\s=t) ⟨by simp[o,r,g,tT,zt,vY,vZ,u,A,aC],rfl⟩ ?_
         rotate_left
         all_goals
          rintro env _ ⟨⟨o,r,g,tT,zt,vY,vZ,u,A,z⟩,rfl⟩
          refine aa.loop (n-cZ x) (λd s=>∃env p a',s=⟨env,p,[],.no⟩/\(env 1=ints xs/\env 2=.cp (.agg [f]) 0/\env 17=int ((n:Int)+1)/\env 18=int k/\env 20=.sl 1 (mY M) .any/\env 21=int M.length/\env 22=int i/\env 6=a'/\env 8=ints x/\env 13=int ((cZ x:Int)+d))/\Tok σ p a' 1 (mY ((M.take i).flatMap (nxt n)++(List.range' (cZ x) d).map λ(j:Nat)=>x++[(j:Int)]))) ⟨_,_,a,rfl,by simp[o,r,g,tT,zt,vY,vZ,u,A,z],by simpa using R⟩ ?_
          rintro c3 d _ hd ⟨env,p,a',rfl,⟨o,r,g,tT,zt,vY,vZ,u,A,z⟩,T⟩ aE
          apply rn;simp[o,z];apply aG.intro<;>intro g6<;>simp at g6<;>simp[vZ,u,A,g6]
          . refine u' lay rfl dD rfl rH (es:=x.map int) (sp:=.any) (l:=0) (h:=x.length) (by simp) (λcap U=>⟨⟨⟨.i64,by simp⟩,by simpa using U⟩,⟨⟨.i64,by simp⟩,aaP _⟩,rfl⟩) (by simp) λb2 V=>?_
            have X:Tok p p b2 1 (x.map int):=by
             rw[List.drop_zero,abM (by simp)]at V
             rcases V with rfl|⟨e,rfl⟩
             . exact .exact _ _ _
             . rw[e];exact .nil _ _
            apply rn;simp[z];refine aP lay rfl rfl rfl dD rfl dD rfl rH (by decide) (by simp only[abi,abl,abD];omega) (σ0:=p) (es:=x.map int) (xs:=[int ((cZ x:Int)+d)]) (by simpa using X) (.inr ⟨_,rfl⟩) λa2 b3 I=>?_
            have H:x.map int++[int ((cZ x:Int)+d)]=(x++[((cZ x+d:Nat):Int)]).map int:=by rw[aaY,Int.natCast_add];rfl
            rw[H]at I;refine aa.KM 71 (a':=ints (x++[((cZ x+d:Nat):Int)])) (show AV.W a2 _ from I.W) ?_
            apply rn;simp
            have aL:mY ((M.take i).flatMap (nxt n)++(List.range' (cZ x) (d+1)).map λ(j:Nat)=>x++[(j:Int)])=mY ((M.take i).flatMap (nxt n)++(List.range' (cZ x) d).map λ(j:Nat)=>x++[(j:Int)])++[ints (x++[((cZ x+d:Nat):Int)])]:=by rw[List.range'_1_concat,aaY,<-List.append_assoc,mY,aaY];rfl
            refine aP lay rfl rfl rfl qe rfl qe rfl dD (by decide) (by simp only[abi,aaV,List.length_range',abl,abD];omega) (σ0:=σ) (es:=mY ((M.take i).flatMap (nxt n)++(List.range' (cZ x) d).map λ(j:Nat)=>x++[(j:Int)])) (xs:=[ints (x++[((cZ x+d:Nat):Int)])]) (by simpa using T.up I.1) (.inr ⟨_,rfl⟩) λa3 b4 Y=>?_
            rw[<-aL]at Y;apply rn;simp[z];refine⟨by omega,aE _ (by omega) ⟨_,_,a3,rfl,by simp[o,r,g,tT,zt,vY,vZ,A,Int.add_assoc],Y⟩⟩
          . have ed:d=n-cZ x:=by omega
            subst ed;refine⟨by omega,a9 _ (by omega) ⟨_,_,a',rfl,by simp[o,r,g,tT,zt,vY,u],?_,λy hy=>?_⟩⟩
            . rw[zG N,acf,List.flatMap_singleton,<-D]
              exact T
            . rw[zG N,<-D]at hy
              rcases aaN.1 hy with hy|hy
              . exact v y hy
              . rw[lb.1 hy];exact hG
   . have ei:i=M.length:=by omega
     subst ei;rw[aaQ]at Z v;refine⟨by omega,?_⟩
     refine aa.KM 5 (a':=.sl 1 (mY (vU n (k+1))) .any) ?_ (ih _ (by omega) ⟨_,_,rfl,by simp[o,r,g],Z.1,λk' q x hx=>?_⟩)
     . change AV.W a _
       have:=Z.W;rw[B]at this;exact this
     grind
 . have ek:k=n+1:=by omega
   subst ek;have e:xs=nz n:=List.ext_getElem (by grind) λj q1 q2=>by grind
   rw[Qx L,<-e]at h;exact .less J (.done h)
def Ie(w:gO):adA:=GR w.aD.length λl=>decide (kX (w.only l) 72=kX w 72)
theorem Kt{w:gO}(a:w.Valid){l}(b:l.length<=w.aD.length):yH (w.only l):=by
 refine⟨aaR (List.length_filterMap_le _ _) (aaR b a.GK.1),λc d=>a.GK.2 c ?_⟩;obtain⟨i,_,h⟩:=List.mem_filterMap.1 d
 grind
theorem GU(g:m.solo=true){w}(h:w.qz)(o:w.Open)(hSub:∀l ,(∀c∈l,0<=c/\c<(w.aD.length:Int))->l.length<=w.aD.length->(w.only l).Open)(p:fh w [] [] []=0)(v:KF (.val (.cA [ints (Ie w),int 0])) σ):az prog m 12 [dP w] σ KF:=by
 have y:Wl [dP w,ny,ny,ny] [dP w,ints [],ints [],ints []]:=Rw (.refl _) (fK 1) (fK 1) (fK 1);have z:=o.pI;have r:=Ba w 72;refine az.start lay [1] [] 1 Tryz.func12 rfl rfl (by rfl) (by kernel_rfl) ?_;simp[Tryz.f12];refine bS.intro λwb A=>?_
 simp;refine bK Tryz.func41 rfl rfl y (kG g h (by simp) (λq=>absurd p q) λq B fb mb s=>?_);refine aa.run lay [1] ?_;simp;refine cf Tryz.func42 rfl (yK g o s.yL λi I C=>?_);have a:=s.less C;refine aa.runN lay [1] 3 ?_;simp;refine bS.intro λD k=>?_
 simp;change aa _ _ _ _ _ _ _ _ _;refine aa.bd 6 (b:=D) (ints (kX w 72)) (ab.ai _ _ _) (by simp) rfl ?_;rw[eE k];have d:i wb=some (.cells (EG w)):=a _ _ (ab.ai _ _ _);refine aa.run lay [1] ?_;simp[d];refine cf Tryz.func49 rfl (uO (by omega) ?_);refine aa.run lay [1] ?_;simp;have n:w.Valid:=gO.valid h (by unfold fh at p;omega);refine cf Tryz.func43 rfl (Ks z.2 rfl (by simp) (G:=λl=>decide (kX (w.only l) 72=kX w 72)) (λl E K t u f F=>eC Tryz.func44 rfl rfl rfl (EZ g (hSub l t u) ⟨h.ways,n.cY,n.bf⟩ (Kt n u) (by omega) t (by omega) (f _ _ d) F)) (Cu _) (λj q=>by grind) ?_);refine aa.run lay [1] ?_;simp;exact .less (λc x H=>a _ _ ((ab.ah _ _ λe=>by simp_all).trans H)) (.done v)
end
open Go.cz Go.Conc
theorem yP  p :∀n ,n<=6->(0<=aR ((nz n).filter p)/\aR ((nz n).filter p)<64)/\aB (aR ((nz n).filter p))=(nz n).filter p
 | 0,_=>by
   show(0<=aR []/\aR []<64)/\aB (aR [])=[];decide
 | n + 1,h=>by
   obtain⟨a,b⟩:=yP p n (by omega);rw[nX];split
   . rw[nv]
     exact⟨(Gv a (by omega)).1,by rw[AQ a (by omega) λe c=>by grind,b]⟩
   simp_all
section
variable{w:gO}
abbrev rN(w:gO)(es cs:adA):adA:=es++cs.map λ(c:Int)=>c+(w.fair.aA.length:Int)
theorem Oz{i:Int}(h:0<=i/\i<w.fair.aA.length):aJ (ji w) i=aJ w.fair i:=by
 have:i.toNat<w.fair.aA.length:=by omega
 unfold aJ ji
 grind
theorem OA{c:Int}(h:0<=c/\c<w.aD.length):aJ (ji w) (c+w.fair.aA.length)=(uQ w c).lost:=by
 have a:c.toNat<w.aD.length:=by omega
 have e:(c+w.fair.aA.length).toNat=w.fair.aA.length+c.toNat:=by omega
 unfold aJ ji uQ
 simp_all
theorem Wa:(ji w).aA.length=w.fair.aA.length+w.aD.length:=by simp_all
theorem yQ{es cs:adA}(b:∀i∈es,0<=i/\i<w.fair.aA.length)(d:∀i∈cs,0<=i/\i<w.aD.length):o6 (ji w) (bR w es cs) (rN w es cs):=
 ⟨rfl,rfl,rfl,rfl,acL _,λi a=>by
   grind,by
   show _=(es++cs.map λ(c:Int)=>c+(w.fair.aA.length:Int)).map (aJ (ji w));rw[aaY,acV];show es.map (aJ w.fair)++_=_;rw[acg (g:=aJ (ji w)) λi a=>(Oz (b i a)).symm];congr 1
   . exact acg λi a=>(OA (d i a)).symm⟩
theorem Bb(b:w.Valid){es cs:adA}(f:∀i∈es,0<=i/\i<w.fair.aA.length)(g:∀i∈cs,0<=i/\i<w.aD.length)(j:es.length+cs.length<=6):(bR w es cs).Good:=by
 have a:=mq b.Oi b.pI;have c:=yQ f g
 have d:∀e∈(bR w es cs).aA,e∈(ji w).aA:=λe q=>by rw[c.qV]at q;obtain⟨i,h,rfl⟩:=aaU.1 q;exact fI (c.SC i h)
 have hlen:(bR w es cs).aA.length=es.length+cs.length:=by grind
 exact⟨⟨by omega,a.fits.roads,a.fits.row,λe q=>a.fits.marks e (d e q)⟩,a.fr,a.to,a.le,a.cB,a.aY,by omega,λe q=>a.qV e (d e q),a.KN⟩
theorem jY{h i}(hi:i∈fY w h):0<=i/\i<w.fair.aA.length:=Ct (abv.1 hi).1
theorem lK{h i}(hi:i∈ew w h):0<=i/\i<w.aD.length:=Ct (abv.1 hi).1
theorem GV  w   h :(fY w h).length<=w.fair.aA.length:=by
 have:=abJ (pE w h) (nz w.fair.aA.length)
 rwa [Cu]at this
theorem yR  w   h :(ew w h).length<=w.aD.length:=by
 have:=abJ (pC w h) (nz w.aD.length)
 rwa [Cu]at this
theorem gO.Valid.kE(a:w.Valid)(h:Int):aB (kE w h)=fY w h:=(yP _ _ (by have:=a.pI;omega)).2
theorem gO.Valid.kC(a:w.Valid)(h:Int):aB (kC w h)=ew w h:=(yP _ _ (by have:=a.pI;omega)).2
abbrev vF(w:gO)(h:Int):Fr:=bR w (fY w h) (ew w h)
abbrev rO(w:gO)(h:Int):adA:=rN w (fY w h) (ew w h)
theorem Bc  w   h :o6 (ji w) (vF w h) (rO w h):=yQ (λ_=>jY) λ_=>lK
theorem yS(a:w.Valid)  h :(vF w h).Good:=Bb a (λ_=>jY) (λ_=>lK) (by have:=GV w h;have:=yR w h;have:=a.pI;omega)
theorem gO.Valid.open(a:w.Valid):w.Open:=by
 have c:=a.pI;refine⟨⟨by omega,a.GK.1⟩,λh=>?_⟩;have hb:=yS a h;obtain⟨v,b⟩:=abG _ a.some;obtain⟨u,d,_⟩:=(Bc w h).cY (mq a.Oi c) hb b;refine⟨?_,?_,?_,?_⟩<;>simp only[a.kE,a.kC]
 . exact λ_=>jY
 . exact λ_=>lK
 . exact hb
 grind
end
