import Derived.Test.YtkcceaplmgdnfaaGreatDoorC18
set_option linter.all false
set_option maxHeartbeats 1000000
set_option maxRecDepth 4000
namespace Go.Proofs.YtkcceaplmgdnfaaGreatDoor
open Go.Proofs.Tryz (prog)
abbrev acB:=List Way
section
open Go.cC Go.Conc
variable{m:Mo}{σ:ab}{KF:ach}
theorem Nn:lY prog nn:=⟨⟨_,_,Tryz.func93,rfl,rfl,rfl⟩,⟨_,_,Tryz.func94,rfl,rfl,rfl⟩⟩
def yn(w:iw):Prop:=w.aB.length<=3/\∀c∈w.aB,(0<=c.town/\c.town<w.aS)/\0<=c.hour/\c.hour<=72
def DZ(w:iw)(c:N5):Int:=(fN w.ways w.aS.toNat c.town c.hour).getD 0 0
def ew(w:iw)(j:Nat):Int:=match w.aB[j]? with|some c=>DZ w c|none=>0
abbrev uq(fb mb:Nat)(w:iw)(o:Nat):AV:=Pw fb mb w (int (ew w 0)) (int (ew w 1)) (int (ew w 2)) [9,10] o
structure Js(σ:ab)  fb mb  (w:iw)  σ' :Prop where
 f0:σ fb=none
 m0:σ mb=none
 ne:fb≠mb
 eq:σ'=(σ.set mb (mT (po .u8) [])).set fb (.part (bG 9))
def vb(n:Nat):acz:=[9,10]++(List.range n).map (11+·)
abbrev Ww(mb:Nat)(w:iw):acE:=[iZ w.fair.aD,rows w.fair.roads,int w.fair.aP,int w.fair.dH,int w.fair.cL,int w.fair.aW,int w.aS,uk w.ways,eQ w.aB,.lit (.int .i32 0),.lit (.int .u32 0),int 0,int 0,int 0,.map mb]
abbrev RA(fb mb:Nat)(w:iw)(o:Nat):AV:=Pw fb mb w (int 0) (int 0) (int 0) (vb w.aB.length) o
def SI(n:Nat):Nat->aci:=λi=>if i=9 then some (.int .i32 0)else if i=10 then some (.int .u32 0)else if 11<=i/\i<11+n then some (.int .i64 0)else none
theorem nE{n i}:i∈vb n↔i=9\/i=10\/11<=i/\i<11+n:=by
 unfold vb;rw[ZQ,aad];constructor
 . grind
 . rintro(h|h|h)
   . simp_all
   . simp_all
   . exact .inr ⟨i-11,ZN.2 (by omega),by omega⟩
theorem No{n i}(h:i∈vb n):9<=i:=by have:=nE.1 h;omega
theorem RB{n mb w}(h:n<=3)  i   v  (a:SI n i=some v):(Ww mb w)[i]?=some (.lit v):=by
 unfold SI at a;split at a
 . simp_all
 split at a
 . simp_all
 split at a
 . next e=>
   cases a;have:i=11\/i=12\/i=13:=by omega
   rcases this with rfl|rfl|rfl<;>rfl
 . cases a
theorem Np  n i :SI n i=none↔i∉vb n:=by
 rw[nE];unfold SI
 grind
theorem sY{w}(hs:m.solo=true)(hl:w.ways.length<1152921504606846976)(hw:∀x∈w.ways,sW w.aS x)(hn:1<=w.aS/\w.aS<=4)(hc:yn w)(hK:∀σ' fb mb,Js σ fb mb w σ'->KF (.val (uq fb mb w 0)) σ'):az prog m 48 [dz w] σ KF:=by
 have h3:=hc.1;refine az.start lay [10] [] 1 Tryz.func48 rfl rfl (by rfl) (by kernel_rfl) ?_;simp[Tryz.f48];refine uM (po .u8) rfl λmb B7=>?_
 refine aa.run lay [10] ?_;simp[aG];refine bI.intro λfb S=>?_
 simp;obtain⟨fm,mf,I⟩:=ab.aM S;refine bI.intro λbw B=>?_
 obtain⟨wf,T,B⟩:=ab.aM B;obtain⟨wm,mw,B⟩:=ab.aM B;simp;refine bI.intro λgb o=>?_
 obtain⟨gw,wg,o⟩:=ab.aM o;obtain⟨gf,U,o⟩:=ab.aM o;obtain⟨gm,mg,o⟩:=ab.aM o;simp[wf,T,wm,mw,gw,wg,gf,U,gm,mg,fm,mf,ab.ah];refine aa.part fb (Ww mb w) (vb w.aB.length) (SI w.aB.length) (bw:=bw) (l1:=[.ref fb 0]) (l2:=[RA fb mb w 0]) (by simp[ab.ah,T,U]) (RB h3) (Np w.aB.length) (λt=>.inl rfl) wf (by simp[ab.ah,wg]) rfl (λi a a' W h2=>?_) ?_
 . match i with
   |0=>simp at W h2;subst W;subst h2;exact .inr ⟨0,rfl,rfl⟩
   |i+1=>simp at W
 refine aa.bt 3 (b:=bw) (RA fb mb w 0) (ab.ai _ _ _) (by simp) rfl ?_;refine aa.eu (λe σ'=>(e 3=.cp (RA fb mb w 0) 0/\e 4=.ref gb 0/\e 15=eQ w.aB/\e 16=int w.aB.length/\e 17=int 0)/\σ' fb=some (.part (SI w.aB.length))/\σ' gb=some (.cells [.lit (.int .u64 0),.lit (.int .u32 0)])/\σ' mb=some (mT (po .u8) [])/\∀c x,σ c=some x->c≠fb/\c≠mb/\c≠gb/\σ' c=some x) ⟨by simp,by simp[ab.del,ab.set,T],by simp[ab.del,ab.set,gw,gf],by simp[ab.del,ab.set,mw,mf,mg],λc x C=>?_⟩ ?_
 . have D:c≠fb:=λe=>by simp_all
   have E:c≠mb:=λe=>by simp_all
   have P:c≠gb:=λe=>by simp_all
   have X:c≠bw:=λe=>by simp_all
   exact⟨D,E,P,by simp[ab.del,ab.set,D,E,P,X,C]⟩
 rintro env al ⟨⟨g,h,Ba,wY,d⟩,F,s2,s3,H⟩;refine aa.Uh hs (n:=w.aB.length) (fo:=9) (GI:=λx=>x=.map []) (λj=>.int .i64 (ew w j)) Qs Qt Ad Ae Nn (by omega) U fm gm s2 F rfl rfl (λj Q q=>(Np _ _).1 q (nE.2 (.inr (.inr (by omega))))) s3 rfl rfl rfl ?_;rintro A ⟨J,rfl,Y,rfl,rfl,K,p,y,L,G⟩ Fin kd Z k0 M;refine aa.eu (λe σ'=>(e 3=.cp (RA A.fb A.mb w 0) 0/\e 4=.ref A.gb 0/\e 15=eQ w.aB/\e 16=int w.aB.length/\e 17=int 0)/\σ' A.fb=some .gY/\∀c x,σ c=some x->c≠A.fb/\c≠A.mb/\σ' c=some x) ⟨⟨g,h,Ba,wY,d⟩,ab.ai _ _ _,λc x C=>?_⟩ ?_
 . obtain⟨D,E,P,X⟩:=H c x C
   exact⟨D,E,by simp[ab.del,ab.set,D,E,P,X]⟩
 rintro env av ⟨⟨g,h,Ba,wY,d⟩,F,H⟩;refine aa.Ug (λk s=>∃e σ',s=⟨e,σ',[],.told kd Z k0⟩/\(e 3=.cp (RA A.fb A.mb w 0) 0/\e 4=.ref A.gb 0/\e 15=eQ w.aB/\e 16=int w.aB.length/\e 17=int k)/\σ' A.fb=some .gY/\∀c x,σ c=some x->c≠A.fb/\c≠A.mb/\σ' c=some x) ⟨_,_,rfl,⟨g,h,Ba,wY,d⟩,F,H⟩ ?_ ?_
 . rintro r k _ hk ⟨env,σ',rfl,⟨g,h,Ba,wY,d⟩,F,H⟩ ih
   rw[J]at hk;have z:k<w.aB.length:=by omega
   have f:(k:Int)<w.aB.length:=by omega
   refine aa.runN lay [] 17 ?_;simp[g,h,Ba,wY,d,z,f];refine bI.intro λD ax=>?_
   simp[g,h,Ba,wY,d,z,f];refine bI.intro λE N=>?_
   obtain⟨n1,n2,N⟩:=ab.aM N;simp[g,h,Ba,wY,d,z,f,n1,n2,ab.ah];change aa _ _ _ _ _ _ _ _ _;refine aa.runN lay [] 4 ?_;simp[g,h,Ba,wY,d,z,f,n1,n2,ab.ah];change aa _ _ _ _ _ _ _ _ _;refine aa.bt 6 (b:=E) (gg w.aB[k]) (ab.ai _ _ _) (by simp) rfl ?_;refine aa.bt 5 (b:=D) (int k) (by simp[ab.del,ab.set,n1,n2]) (by simp) rfl ?_;refine aa.Ls rfl (by rw[p];rfl) rfl (by simp) (by rw[p];exact Tryz.func89) rfl rfl (by simp[g,h,Ba,wY,d,z,f]) ?_;refine aa.runN lay [] 4 ?_;simp[g,h,Ba,wY,d,z,f];change aa _ _ _ _ _ _ _ _ _;have Q:A.n-(r+1)=k:=by omega
   have b1:A.fb≠D:=λe=>by simp_all
   have b2:A.fb≠E:=λe=>by simp_all
   have O:=hc.2 _ (zA z);refine aa.PT y (hold':=Uv) (first:=[]) (cap:=[.ref A.gb 0,.cp (RA A.fb A.mb w 0) 0,.cp (gg w.aB[k]) 0,.cp (int k) 0]) rfl rfl rfl (by simp) (by simp[g,h,Ba,wY,d,z,f]) Tryz.func90 rfl rfl (by show(4:Nat)<=25;decide) (by simp[ab.del,ab.set,b1,b2,F]) (by kernel_rfl) (by rw[p];exact Tryz.func91) rfl rfl (by rw[K];exact Tryz.func94) rfl rfl (λk1=>?_) ?_
   . rw[Q]
     exact ym (λi hi=>No hi) ⟨rfl,rfl,Y,K,p,y⟩ (by omega) (λx=>by rw[L]) hl hw hn O.1 O.2 (by rw[G];simp[ew,z,DZ]) rfl
   have f1:-9223372036854775808<=(k:Int)+1/\(k:Int)+1<=9223372036854775807:=by omega
   refine aa.run lay [10] ?_;simp[g,h,Ba,wY,d,z,f,f1.1,f1.2];refine ih _ ⟨_,_,rfl,by simp[g,h,Ba,wY,d,z,f],by simp[ab.del,ab.set,b1,b2,F],λc x C=>?_⟩;obtain⟨x1,x2,x3⟩:=H c x C;have y1:c≠D:=λe=>by grind
   have y2:c≠E:=λe=>by grind
   exact⟨x1,x2,by simp[ab.del,ab.set,y1,y2,x3]⟩
 . rintro _ ⟨env,σ',rfl,⟨g,h,Ba,wY,d⟩,F,H⟩
   rw[J]at d;refine aa.runN lay [] 9 ?_;simp[g,h,Ba,wY,d];change aa _ _ _ _ _ _ _ _ _;refine aa.Ly y ((cC.bb (env.upd 18 (bool false)) (some 25) (.cu [])).upd 3 (.cp (uq A.fb A.mb w 0) 0)) rfl (by rw[p];rfl) rfl (by simp) (by rw[p];exact Tryz.func95) rfl rfl (by simp_all) F rfl M (λkk a7 t v R=>?_) λa ha=>?_
   . change V kk v (cC.bb (env.upd 18 (bool false)) (some 25) (.cu []) t)at R
     by_cases e:t=3
     . subst e
       rw[show(cC.bb (env.upd 18 (bool false)) (some 25) (.cu [])) 3=.cp (RA A.fb A.mb w 0) 0 by simp[g]]at R;rw[show((cC.bb (env.upd 18 (bool false)) (some 25) (.cu [])).upd 3 (.cp (uq A.fb A.mb w 0) 0)) 3=.cp (uq A.fb A.mb w 0) 0 by simp];refine V.YX rfl rfl (λu=>O6 (l:=Ww A.mb w) (hole:=vb w.aB.length) rfl λj Q ay=>?_) R;by_cases hm:j∈vb w.aB.length
       . have aC:11<=j/\j<11+w.aB.length:=by
          have:=nE.1 hm
          simp_all
         refine .inr ⟨.int .i64 (ew w (j-11)),?_,rfl,?_⟩
         . have:=a7 (j-11) (by omega)
           rwa [G,show A.cell (j-11)=j by unfold bJ.cell;omega]at this
         . have:j=11\/j=12\/j=13:=by omega
           rcases this with rfl|rfl|rfl<;>rfl
       . refine .inl ⟨hm,?_⟩
         have aE:j<15:=Q;have hz:∀i,w.aB.length<=i->int (ew w i)=int 0:=λi hi=>by rw[ew,aaK hi]
         have aL:¬(11<=j/\j<11+w.aB.length):=λq=>hm (nE.2 (.inr (.inr q)))
         by_cases a8:j=11
         . subst a8;simp[hz 0 (by omega)]
         by_cases a9:j=12
         . subst a9;simp[hz 1 (by omega)]
         by_cases ad:j=13
         . subst ad;simp[hz 2 (by omega)]
         have:j=0\/j=1\/j=2\/j=3\/j=4\/j=5\/j=6\/j=7\/j=8\/j=9\/j=10\/j=14:=by omega
         rcases this with rfl|rfl|rfl|rfl|rfl|rfl|rfl|rfl|rfl|rfl|rfl|rfl<;>rfl
     . simpa[Env.upd,e]using R
   . rw[L]at ha
     subst ha;refine aa.run lay [10] ?_;simp[g,h,Ba,wY,d];refine .less (σ':=(σ.set A.mb (mT (po .u8) [])).set A.fb (.part (bG 9))) ?_ (.done (hK _ _ _ ⟨I,B7,fm,rfl⟩));intro c x C;by_cases c1:c=A.fb
     . simp_all
     by_cases c2:c=A.mb
     . subst c2
       rw[ab.ah _ _ c1,ab.ai]at C;rw[ab.ah _ _ c1,ab.ai];exact C
     rw[ab.ah _ _ c1,ab.ah _ _ c2]at C ⊢
     simp_all
def fE(w:iw)(ba a aB:acy):Int:=if gX w=0 then(if ba.all (bu · 0 72)=false then 1 else if a.all (bu · 0 (w.fair.aD.length-1))=false then 3 else if aB.all (bu · 0 (w.aB.length-1))=false then 3 else 0)else gX w
theorem mM{α}  g :∀{l:List α},eE g l=0->∀x∈l,g x=0
 |[],_,x,hx=>by simp at hx
 | a ::l,h,x,hx=>by
   unfold eE at h;split at h
   . next e=>
     rcases aae.1 hx with rfl|hx
     . exact e
     . exact mM g h x hx
   omega
theorem uu{t x}(h:ki t x=0):sW t x:=by
 unfold ki at h;split at h
 . cases h
 next a=>
 split at h
 . cases h
 next b=>
 split at h
 . cases h
 split at h
 . cases h
 next c=>
 split at h
 . cases h
 next d=>
 split at h
 . cases h
 next e=>
 have f:=dB (by simpa using a);have g:=dB (by simpa using b);have i:=dB (by simpa using c);have j:=dB (by simpa using d);have k:=dB (by simpa using e);unfold sW;omega
structure iw.Valid(w:iw):Prop where
 BS:w.rH
 aS:1<=w.aS/\w.aS<=4
 cT:∀x∈w.ways,sW w.aS x
 ZK:w.ways.length<=6
 Jt:yn w
 late:∀c∈w.aB,c.lost.hour<=c.hour
 tZ:w.fair.aD.length+w.aB.length<=6
 some:aI (pS w) []≠[]
theorem iw.valid{w}(d:w.rH)(h:gX w=0):w.Valid:=by
 unfold gX at h;split at h
 . cases h
 next f=>
 split at h
 . cases h
 next o=>
 split at h
 . omega
 next p=>
 split at h
 . cases h
 next q=>
 split at h
 . omega
 next g=>
 split at h
 . cases h
 next r=>
 split at h
 . cases h
 next i=>
 have j:=dB (a:=w.aS) (by simpa using f)
 have e:w.fair.aD.length+w.aB.length<=6:=by omega
 have b:∀c∈w.aB,((0<=c.town/\c.town<w.aS)/\0<=c.hour/\c.hour<=72)/\c.lost.hour<=c.hour:=λc b=>by
  have:=mM _ (by simpa using g) c b
  unfold vz at this;split at this
  . cases this
  next k=>
  split at this
  . cases this
  next l=>
  split at this
  . cases this
  next s=>
  have t:=dB (by simpa using k)
  have u:=dB (by simpa using l)
  omega
 have m:=rI d e;have v:gJ (pS w)≠0:=i;refine⟨d,j,λx n=>uu (mM _ (by omega) x n),by omega,⟨by omega,λc h=>(b c h).1⟩,λc h=>(b c h).2,e,(Aj m).1 ?_⟩
 have:0<=gJ (pS w):=by unfold gJ;omega
 omega
theorem F0  p  (l:acy){i}  h :(l.drop i).all p=(p l[i] && (l.drop (i+1)).all p):=by rw[aau h,aaz]
theorem nF{w}(A:m.solo=true)(y:w.rH){ba a aB}(D:ba.length<1000000/\a.length<1000000/\aB.length<1000000)
 (f:fE w ba a aB≠0->KF (.val (.cu [.lit (.pointer none),int (fE w ba a aB)])) σ)
 (r:fE w ba a aB=0->∀σ' fb mb,Js σ fb mb w σ'->KF (.val (.cu [uq fb mb w 0,int 0])) σ'):az prog m 41 [dz w,ints ba,ints a,ints aB] σ KF:=by
 unfold fE at f r;refine fs [] Tryz.func41 rfl (by kernel_rfl) ?_;simp[Tryz.f41];refine cf Tryz.func33 rfl (FZ A y ?_);apply rn;simp;apply aH.intro<;>intro t<;>simp at t<;>simp[t]
 . simp[t]at f
   exact .done f
 have v:=iw.valid y t;have z:=y.ways;have E:=v.tZ;simp only[t,ZR]at f r;refine aa.loop ba.length (λk s=>∃env,s=⟨env,σ,[],.no⟩/\env 2=ints a/\env 3=ints aB/\env 4=.cp (dz w) 0/\env 22=ints ba/\env 23=int ba.length/\env 24=int k/\ba.all (bu · 0 72)=(ba.drop k).all (bu · 0 72)) ⟨_,rfl,by simp⟩ ?_;rintro F k _ x ⟨env,rfl,B,C,q,vF,JL,HP,b⟩ u;apply rn;simp[JL,HP];apply aH.intro<;>intro h<;>simp at h<;>simp[B,C,vF,HP,h]
 . rw[F0 _ _ h]at b
   refine cf Tryz.func71 rfl (dX ?_);apply rn;simp;refine aH.intro (λd=>?_) (λd=>?_)<;>(try simp at d)<;>(try simp[HP,d])
   . rw[d,Bool.true_and]at b
     refine⟨by omega,u _ (by omega) ⟨_,rfl,?_,?_,?_,?_,?_,?_,b⟩⟩<;>simp[B,C,q,vF,JL]
   . simp[b,d]at f
     exact .done f
 have ek:k=ba.length:=by omega
 subst ek;rw[abx,List.all_nil]at b;simp only[b,abg,Rp]at f r;refine aa.tX ?_;apply rn;simp;refine aa.loop a.length (λk s=>∃env,s=⟨env,σ,[],.no⟩/\env 4=.cp (dz w) 0/\env 34=.sl 1 [ints a,ints aB] .exact/\env 35=int 2/\env 36=int 0/\env 13=int 0/\env 41=ints a/\env 42=int a.length/\env 43=int k/\a.all (bu · 0 (w.fair.aD.length-1))=(a.drop k).all (bu · 0 (w.fair.aD.length-1))) ⟨_,rfl,by simp[q]⟩ ?_;rintro G k _ x ⟨env,rfl,q,i,g,j,n,o,p,e,b⟩ u;refine aa.runN lay [] 25 ?_;simp[p,e];apply aH.intro<;>intro h<;>simp at h<;>simp[q,j,o,e,h]
 . rw[F0 _ _ h]at b
   refine aa.op rfl (bW rfl) (by simp) (λc=>by simp) (pI lay rfl Qo rfl rA (l:=[int w.fair.aD.length,int w.aB.length]) (by simp) (by simp[kG,aG]) ?_);apply rn;simp[n];refine⟨by omega,?_⟩;refine cf Tryz.func71 rfl (dX ?_);apply rn;simp;refine aH.intro (λd=>?_) (λd=>?_)<;>(try simp at d)<;>(try simp[e,d])
   . rw[d,Bool.true_and]at b
     refine⟨by omega,u _ (by omega) ⟨_,rfl,?_,?_,?_,?_,?_,?_,?_,?_,b⟩⟩<;>simp[q,i,g,j,n,o,p]
   . rw[d,Bool.false_and]at b
     simp only[b,ZR]at f;exact .done (f (by decide))
 have ek:k=a.length:=by omega
 subst ek;rw[abx,List.all_nil]at b;simp only[b,abg,Rp]at f r;refine aa.again (by kernel_rfl) ?_;apply rn;simp[i,g];refine aa.loop aB.length (λk s=>∃env,s=⟨env,σ,[],.no⟩/\env 4=.cp (dz w) 0/\env 34=.sl 1 [ints a,ints aB] .exact/\env 35=int 2/\env 36=int 1/\env 13=int 1/\env 41=ints aB/\env 42=int aB.length/\env 43=int k/\aB.all (bu · 0 (w.aB.length-1))=(aB.drop k).all (bu · 0 (w.aB.length-1))) ⟨_,rfl,by simp[q,i,g]⟩ ?_;rintro H k _ x ⟨env,rfl,q,i,g,j,n,o,p,e,b⟩ u;refine aa.runN lay [] 25 ?_;simp[p,e];apply aH.intro<;>intro h<;>simp at h<;>simp[q,j,o,e,h]
 . rw[F0 _ _ h]at b
   refine aa.op rfl (bW rfl) (by simp) (λc=>by simp) (pI lay rfl Qo rfl rA (l:=[int w.fair.aD.length,int w.aB.length]) (by simp) (by simp[kG,aG]) ?_);apply rn;simp[n];refine⟨by omega,?_⟩;refine cf Tryz.func71 rfl (dX ?_);apply rn;simp;refine aH.intro (λd=>?_) (λd=>?_)<;>(try simp at d)<;>(try simp[e,d])
   . rw[d,Bool.true_and]at b
     refine⟨by omega,u _ (by omega) ⟨_,rfl,?_,?_,?_,?_,?_,?_,?_,?_,b⟩⟩<;>simp[q,i,g,j,n,o,p]
   . rw[d,Bool.false_and]at b
     simp only[b,ZR]at f;exact .done (f (by decide))
 have ek:k=aB.length:=by omega
 subst ek;rw[abx,List.all_nil]at b;simp only[b,abg,Rp]at f r;refine aa.again (by kernel_rfl) ?_;apply rn;simp[q,g];refine cf Tryz.func48 rfl (sY A z v.cT v.aS v.Jt λσ' fb mb x=>?_);apply rn;simp;exact .done (r trivial σ' fb mb x)
end
section
open Go Go.cC Go.Conc
open Go.Extern
variable{m:Mo}{σ:ab}{KF:ach}
abbrev U1(t:Nat):Value:=.pointer (some ⟨1,t,none⟩)
abbrev U2(t:Nat):AV:=.lT 224 (.agg [.lit (U1 t)])
theorem vd{P}{t f:Nat}{name a a'}(h:∀k v,V k v a->∃r,eT P (Go.method (P.types.size+Made.depth) t v name)=some (f,r)/\V k r a'):nQ P t name f a a':=λk O v K g b c=>by obtain⟨r,d,e⟩:=h k v b;exact oq _ d (c r e)
theorem Ju{t f:Nat}{name}(h:∀h,eT prog (Go.method (prog.types.size+Made.depth) 224 (.agg #[h]) name)=some (f,.agg #[h])):nQ prog 224 name f (.agg [.lit (U1 t)]) (.agg [.lit (U1 t)]):=vd λk v a=>by
 obtain⟨x,rfl,_⟩:=Fq.1 a
 simp_all
theorem RD  k   t :V k (.iface 224 (.agg #[U1 t])) (U2 t):=Qm.2 ⟨_,rfl,Fq.2 ⟨_,rfl,.lit _⟩⟩
abbrev Ap:AV:=.lT 105 (.agg [])
theorem Nq(h:KF (.val (bool false)) σ):az prog m 56 [.lit .nilIface,Ap] σ KF:=by
 refine fs [] Tryz.func56 rfl (by kernel_rfl) ?_;simp[Tryz.f56];refine gN lay rfl G5 rfl (.inl ⟨rfl,rfl⟩) (.inl ⟨rfl,rfl⟩) ?_;apply rn;simp;refine ot (vx:=.nilIface) (vy:=.iface 105 (.agg #[])) (r:=.bool false) rfl (λk v a=>by simpa using z7.1 a) (λk v a=>V.O9 (by simpa using a)) (by kernel_rfl) ?_;apply rn;simp;exact .done h
theorem Nr  h :eT prog (Go.method (prog.types.size+Made.depth) 224 (.agg #[h])  "Comparable")=some (237,.agg #[h]):=by kernel_rfl
theorem Px(h:KF (.val (bool true)) σ):az prog m 98 [Ap,Ap,bool true] σ KF:=by
 refine fs [] Tryz.func98 rfl (by kernel_rfl) ?_;simp[Tryz.f98];refine aa.tX ?_;apply rn;simp;refine ot (vx:=.iface 105 (.agg #[])) (vy:=.iface 105 (.agg #[])) (r:=.bool true) rfl (λk v a=>V.O9 (by simpa using a)) (λk v a=>V.O9 (by simpa using a)) (by kernel_rfl) ?_;apply rn;simp;exact .done h
theorem Hj(h:KF (.val (bool true)) σ):az prog m 56 [Ap,Ap] σ KF:=by
 refine fs [] Tryz.func56 rfl (by kernel_rfl) ?_;simp[Tryz.f56];refine gN lay rfl G5 rfl (.inr ⟨⟨_,_,rfl⟩,rfl⟩) (.inl ⟨rfl,rfl⟩) ?_;apply rn;simp;refine gN lay rfl G5 rfl (.inr ⟨⟨_,_,rfl⟩,rfl⟩) (.inl ⟨rfl,rfl⟩) ?_;apply rn;simp;refine bY.ext Tryz.func97 rfl rfl (by kernel_rfl) (e:=ReflectliteType.typeOf) (by kernel_rfl) (uX.pure (v:=.iface 224 (.agg #[U1 105])) (a:=U2 105) (λk f d=>?_) (λk=>RD k _) ?_)
 . obtain⟨v,b,c⟩:=d.one
   subst b;rw[V.O9 c]
   kernel_rfl
 apply rn;simp;refine aa.O8 rfl rfl (bW rfl) (by simp) rfl (Ju Nr) Tryz.func237 rfl rfl (by kernel_rfl) (e:=ReflectliteType.method λt=>do Rtype.noPackHeld  "Comparable" t;pure (.bool (<-typeInfo t).comparable)) (by kernel_rfl) (uX.pure (v:=.bool true) (a:=bool true) (λk f d=>?_) (λk=>.lit _) ?_)
 . obtain⟨v,b,c⟩:=d.one
   subst b;obtain⟨u,rfl,g⟩:=Fq.1 c;rw[z7.1 g]
   kernel_rfl
 apply rn;simp;refine cf Tryz.func98 rfl (Px ?_);apply rn;simp;exact .done h
theorem ve{w fb mb c}(b:c<3)(h:if 72<ew w c then KF (.val (.cu [int 0,Ap])) σ else KF (.val (.cu [int (ew w c),.lit .nilIface])) σ):az prog m 55 [uq fb mb w 0,int c] σ KF:=by
 have:c=0\/c=1\/c=2:=by omega
 rcases this with rfl|rfl|rfl
 all_goals
  refine fs [] Tryz.func55 rfl (by kernel_rfl) ?_;simp[Tryz.f55];refine aH.intro (λa=>?_) (λa=>?_)<;>(try simp[-Int.not_lt,-Int.not_le]at a)<;>(try simp[a]at h)<;>(try simp[a])<;>(try exact .done h)
 all_goals exact .done h
def pE(w:iw)(h:Int)(i:Int):Bool:=decide ((aX w.fair i).hour<=h)
def pC(w:iw)(h:Int)(i:Int):Bool:=decide (ew w i.toNat<=72) && decide (ew w i.toNat<=h)
def uv(w:iw)(h:Int):acy:=(vS w.fair.aD.length).filter (pE w h)
def yo(w:iw)(h:Int):acy:=(vS w.aB.length).filter (pC w h)
abbrev RE(w:iw)(h:Int):AV:=.agg [u8 (bf (uv w h)),u8 (bf (yo w h))]
theorem D5  k   p :(vS (k+1)).filter p=(vS k).filter p++if p k then[(k:Int)]else[]:=by
 unfold vS;rw[aai,aab,aaT]
 grind
theorem qW  l   n :bf (l++[n])=bR (bf l) n:=by
 unfold bf
 simp_all
namespace CK
abbrev Wx:acn:=[⟨6,.take [0,1,2,3,4,5] true (.one 6 (.done))⟩,⟨13,.take [0,3,6] false (.both 1 (.one 2 (.take [4,5] true (.one 7 (.done)))) (.one 2 (.take [1,4,5] true (.one 7 (.done)))))⟩]
theorem Jv{w fb mb h}(H:w.fair.aD.length<=6)(I:w.aB.length<=3)(z:KF (.val (RE w h)) σ):az prog m 59 [uq fb mb w 0,int h] σ KF:=by
 refine fs Wx Tryz.func59 rfl (by kernel_rfl) ?_
 simp[Tryz.f59];refine bI.intro λb hb=>?_
 simp;refine bI.intro λd hd=>?_
 obtain⟨J,A,hd⟩:=ab.aM hd;simp;refine aa.loop w.fair.aD.length (λk s=>∃env,s=⟨env,(σ.set b (.cells [u8 0,u8 0])).set d (.cells [u8 (bf ((vS k).filter (pE w h))),u8 0]),[],.no⟩/\env 0=uq fb mb w 0/\env 1=int h/\env 4=.ref b 0/\env 5=.ref d 0/\env 16=iZ w.fair.aD/\env 17=int w.fair.aD.length/\env 18=int k) ⟨_,rfl,by simp⟩ ?_
 rintro K k _ B ⟨env,rfl,i,j,n,g,wY,o,th⟩ p
 refine aa.runN lay [] 17 ?_;simp[o,th];apply aH.intro<;>intro r<;>simp at r<;>simp[i,wY,th,r]
 . have C:aX w.fair k=w.fair.aD[k]:=by simp[aX,r]
   refine bI.intro λq D=>?_
   obtain⟨L,M,E⟩:=ab.aM D;obtain⟨N,O,P⟩:=ab.aM E;simp
   change aa _ _ _ _ _ _ _ _ _
   refine aa.runN lay [] 2 ?_;simp
   change aa _ _ _ _ _ _ _ _ _
   refine aa.bt 7 (b:=q) (bn w.fair.aD[k]) (ab.ai _ _ _) (by simp) rfl ?_
   rw[fh (by omega)]
   apply rn;simp[j];have a:=D5 k (pE w h);have t:pE w h k=decide (w.fair.aD[k].hour<=h):=by unfold pE;rw[C]
   apply aH.intro<;>intro u<;>simp at u<;>simp[g,th,u,sO]
   . rw[t,show decide (w.fair.aD[k].hour<=h)=true by grind,ZS rfl]at a
     apply rn;simp[th];refine⟨by omega,p _ (by omega) ⟨_,by rw[a,qW];rfl,by simp[i,j,n,g,wY,o]⟩⟩
   . rw[t,show decide (w.fair.aD[k].hour<=h)=false by grind,ZM (by simp),aay]at a
     refine⟨by omega,p _ (by omega) ⟨_,by rw[a],by simp[i,j,n,g,wY,o]⟩⟩
 have ek:k=w.fair.aD.length:=by omega
 subst ek;rw[show(vS w.fair.aD.length).filter (pE w h)=uv w h from rfl]
 apply rn;simp;refine aa.loop w.aB.length (λk s=>∃env,s=⟨env,(σ.set b (.cells [u8 0,u8 0])).set d (.cells [u8 (bf (uv w h)),u8 (bf ((vS k).filter (pC w h)))]),[],.no⟩/\env 0=uq fb mb w 0/\env 1=int h/\env 4=.ref b 0/\env 5=.ref d 0/\env 39=int w.aB.length/\env 40=int k) ⟨_,rfl,by simp[i,j,n,g]⟩ ?_
 rintro v k _ B ⟨env,rfl,i,j,n,g,l,f⟩ p
 apply rn;simp[l,f];apply aH.intro<;>intro r<;>simp at r<;>simp[i,n,g,f,r,A,ab.ah]
 . have a:=D5 k (pC w h)
   have t:pC w h k=(decide (ew w k<=72) && decide (ew w k<=h)):=rfl;refine cf Tryz.func55 rfl (ve (by omega) ?_)
   split
   . next u=>
     apply rn;simp;refine cf Tryz.func56 rfl (Hj ?_);apply rn;simp[f];rw[t,show decide (ew w k<=72)=false by simp;omega,Bool.false_and,ZM (by simp),aay]at a
     refine⟨by omega,p _ (by omega) ⟨_,by rw[a],by simp[i,j,n,g,l]⟩⟩
   . next u=>
     apply rn;simp;refine cf Tryz.func56 rfl (Nq ?_);apply rn;simp[j];rw[t,show decide (ew w k<=72)=true by simp;omega,Bool.true_and]at a
     apply aH.intro<;>intro y<;>simp at y<;>simp[g,f,y]
     . rw[show decide (ew w k<=h)=true by grind,ZS rfl]at a
       have:k=0\/k=1\/k=2:=by omega
       refine⟨?_,?_⟩
       all_goals
        refine cf Tryz.func101 rfl (Nl ?_)
        rcases this with rfl|rfl|rfl
       all_goals
        apply pg;simp[sO];apply rn;simp[f]
       all_goals exact p _ (by omega) ⟨_,by rw[a,qW];rfl,by simp[i,j,n,g,l]⟩
     . rw[show decide (ew w k<=h)=false by grind,ZM (by simp),aay]at a
       refine⟨by omega,p _ (by omega) ⟨_,by rw[a],by simp[i,j,n,g,l]⟩⟩
 . have ek:k=w.aB.length:=by omega
   subst ek;rw[show(vS w.aB.length).filter (pC w h)=yo w h from rfl]
   refine .less (λc x F=>?_) (.done z)
   have v:c≠b:=λe=>by grind
   have G:c≠d:=λe=>by grind
   rw[ab.ah _ _ v,ab.ah _ _ G,ab.ah _ _ v];exact F
end CK
theorem pT{b o l n}(a:σ b=some (.cells l))(c:l[o]?=some (.lit (.int .u32 n)))(h:KF (.val (bool (n !=0))) σ):az prog m 178 [.ref b o] σ KF:=by
 refine fs [] Tryz.func178 rfl (by kernel_rfl) ?_;simp[Tryz.f178];refine bY.ext Tryz.func199 rfl rfl (by kernel_rfl) (e:=Atomic.loadT (.int .u32)) (by kernel_rfl) (Fs (om b o) a c ?_);apply rn;simp;exact .done h
theorem RF(h:KF (.val (.lit (.int .u32 1))) σ):az prog m 208 [bool true] σ KF:=by
 refine fs [] Tryz.func208 rfl (by kernel_rfl) ?_;simp[Tryz.f208];exact .done h
theorem BT{b o l}(a:σ b=some (.cells l))(c:o<l.length)(h:KF (.val (.cu [])) (σ.set b (.cells (l.set o (.lit (.int .u32 1)))))):az prog m 200 [.ref b o,bool true] σ KF:=by
 refine fs UG Tryz.func200 rfl (by kernel_rfl) ?_;simp[Tryz.f200];refine cf Tryz.func208 rfl (RF ?_);apply pg;simp;refine bY.ext Tryz.func207 rfl rfl (by kernel_rfl) (e:=Atomic.storeT) (by kernel_rfl) (Dq (om b o) a c ?_);apply pg;simp;apply rn;simp;exact .done h
theorem D9{b l f}(a:σ b=some (.cells l))(c:l[0]?=some (.lit (.int .u32 1)))(h:KF (.val (.cu [])) σ):az prog m 146 [.ref b 0,f] σ KF:=by
 refine fs [] Tryz.func146 rfl (by kernel_rfl) ?_;simp[Tryz.f146];refine cf Tryz.func178 rfl (pT a c ?_);apply rn;simp;exact .done h
theorem Ea(c:m.solo=true){b l f}(a:σ b=some (.cells l))(o:l[0]?=some (.lit (.int .u32 0)))(d:l[1]?=some (.lit (.int .i32 0)))(e:l[2]?=some (.lit (.int .u32 0)))
 (g:∀K ,(∀σ' l',σ' b=some (.cells l')->l'[0]?=some (.lit (.int .u32 0))->l'[1]?=some (.lit (.int .i32 1))->l'[2]?=some (.lit (.int .u32 0))->KF (.val (.cu [])) (σ'.set b (.cells ((l'.set 0 (.lit (.int .u32 1))).set 1 (.lit (.int .i32 0)))))->K (.val (.cu [])) σ')->bY prog m f [] (σ.set b (.cells (l.set 1 (.lit (.int .i32 1))))) K):
 az prog m 179 [.ref b 0,f] σ KF:=by
 refine fs [] Tryz.func179 rfl (by kernel_rfl) ?_;simp[Tryz.f179];refine cf Tryz.func93 rfl (Fc Ad Ae Nn c (om b 1) a d e ?_);apply rn;simp;refine aa.defer rfl rfl rfl rfl (by simp) rfl ?_;apply rn;simp;have h:(σ.set b (.cells (l.set 1 (.lit (.int .i32 1))))) b=some (.cells (l.set 1 (.lit (.int .i32 1)))):=ab.ai _ _ _;have i:(l.set 1 (.lit (.int .i32 1)))[0]?=some (.lit (.int .u32 0)):=by simp_all
 refine cf Tryz.func178 rfl (pT h i ?_);apply rn;simp;refine aa.defer rfl rfl rfl rfl (by simp) rfl ?_;apply rn;simp;refine g _ λσ' l' j k p q n=>?_
 apply rn;simp;refine qF.func Tryz.func200 rfl rfl (BT j (ZO.1 k).1 ?_);refine qF.func Tryz.func94 rfl rfl (By Ad Ae Nn c (om b 1) (ab.ai _ _ _) (by simp_all) (by simp_all) ?_);rw[ab.set_set];exact⟨[],rfl,.done n⟩
theorem BU(d:m.solo=true){b l f}(a:σ b=some (.cells l))(c:l[0]?=some (.lit (.int .u32 0)))(e:l[1]?=some (.lit (.int .i32 0)))(g:l[2]?=some (.lit (.int .u32 0)))
 (h:∀K ,(∀σ' l',σ' b=some (.cells l')->l'[0]?=some (.lit (.int .u32 0))->l'[1]?=some (.lit (.int .i32 1))->l'[2]?=some (.lit (.int .u32 0))->KF (.val (.cu [])) (σ'.set b (.cells ((l'.set 0 (.lit (.int .u32 1))).set 1 (.lit (.int .i32 0)))))->K (.val (.cu [])) σ')->bY prog m f [] (σ.set b (.cells (l.set 1 (.lit (.int .i32 1))))) K):
 az prog m 146 [.ref b 0,f] σ KF:=by
 refine az.thaw ?_;refine fs [] Tryz.func146 rfl (by kernel_rfl) ?_;simp[Tryz.f146];refine cf Tryz.func178 rfl (pT a c ?_);apply rn;simp;refine cf Tryz.func179 rfl (Ea d a c e g λK i=>h K λσ' l' j k n o p=>i σ' l' j k n o ?_);apply rn;simp;exact .done (.done p)
end
open Go Go.cC Go.Conc
variable{m:Mo}{σ:ab}{KF:ach}
def F1(w:iw)(c:Int):N5:=w.aB.getD c.toNat ⟨⟨0,0,0,[],0,0⟩,0,0⟩
abbrev eU(w:iw)(es cs:acy):Fr:={w.fair with aD:=es.map (aX w.fair)++cs.map λc=>(F1 w c).lost}
abbrev Hk(f:Fr):acE:=[rows f.roads,int f.aP,int f.dH,int f.cL,int f.aW]
abbrev F3:acE:=[.lit (.slice none 0 0),.lit (.slice none 0 0),int 0,int 0,int 0,int 0]
theorem Ns{a a' l}(h:a.W a'):(AV.agg (a::l)).W (.agg (a'::l)):=lR rfl λi x y c b=>by
 cases i with
 |zero=>simp_all
 |succ i=>simp at c b;rw[c]at b;cases b;exact .refl _
namespace CF
abbrev Wy:acn:=[⟨6,.take [0,2,3,4,5,6,7,8,9,10,13] false (.both 1 (.one 11 (.one 12 (.one 14 (.done)))) (.one 11 (.take [1] true (.one 12 (.one 14 (.done))))))⟩,⟨11,.take [1,2,3,4,5,6,7,8,9] false (.both 0 (.one 10 (.one 11 (.one 12 (.done)))) (.one 10 (.take [0] true (.one 11 (.one 12 (.done))))))⟩]
theorem Nt{w fb mb x y}(U:∀i∈aA x,0<=i/\i<w.fair.aD.length)(V:∀i∈aA y,0<=i/\i<w.aB.length)(h:KF (.val (cM (eU w (aA x) (aA y)))) σ):az prog m 65 [uq fb mb w 0,.agg [u8 x,u8 y]] σ KF:=by
 have X:=nC x;have Y:=nC y;refine fs Wy Tryz.func65 rfl (by kernel_rfl) ?_
 simp[Tryz.f65];refine bI.intro λb hb=>?_
 simp;refine bI.intro λd l=>?_
 obtain⟨n1,n2,hd⟩:=ab.aM l;simp;refine cf Tryz.func60 rfl (pR ?_);apply rn;simp
 refine aa.loop (aA x).length (λk s=>∃env f a,s=⟨env,f,[],.no⟩/\env 0=uq fb mb w 0/\env 3=.cp (.agg [u8 x,u8 y]) 0/\env 4=.ref b 0/\env 5=.ref d 0/\env 18=ints (aA x)/\env 19=int (aA x).length/\env 20=int k/\f d=some (.cells (a::Hk w.fair))/\Tok (σ.set b (.cells F3)) f a 6 (((aA x).take k).map λi=>bn (aX w.fair i))) ⟨_,_,_,rfl,by simp,by simp,by simp,by simp,by simp,by simp,by simp,ab.ai _ _ _,(Tok.nil _ _).beside l (by simp[bp])⟩ ?_
 rintro c0 k _ Z ⟨env,f,a,rfl,E,S,F,n,th,Oq,yO,p,g⟩ K
 have L:=g.cells;apply rn;simp[Oq,yO];apply aH.intro<;>intro o<;>simp at o<;>simp[E,S,n,th,yO,o]
 . obtain⟨i,r⟩:∃i,(aA x)[k]=i:=⟨_,rfl⟩
   have t:=U i (r ▸ zA o);have j:i.toNat<w.fair.aD.length:=by omega
   have M:aX w.fair i=w.fair.aD[i.toNat]:=by simp[aX,j]
   simp only[r];have u:w.fair.aD[i.toNat]?=some w.fair.aD[i.toNat]:=KD j;refine⟨t.1,?_⟩;simp[n,p,u]
   have N:((aA x).take (k+1)).map (λi=>bn (aX w.fair i))=((aA x).take k).map (λi=>bn (aX w.fair i))++[bn w.fair.aD[i.toNat]]:=by rw[zD o,aab,r,<-M];rfl
   have O:bp a≠some d:=λe=>by obtain⟨_,_,q⟩:=g.aR e;simp_all
   refine⟨?_,?_⟩
   all_goals
    refine aN lay rfl rfl rfl lM rfl lM rfl xN (by decide) (by simp only[ZZ,aaP,aao,aaN];omega) (σ0:=f.off a) (es:=((aA x).take k).map λi=>bn (aX w.fair i)) (xs:=[bn w.fair.aD[i.toNat]]) (by simpa using g.here.1) (.inr ⟨_,by simp;rfl⟩) λa' P A=>?_
    have G:=A.cells;have T:P d=some (.cells (a::Hk w.fair)):=A.1 _ _ (by rw[ab.du O];exact p)
    have B:=A.base g.here.2;rw[<-N]at B;apply pg;simp[T,G.1,G.2,aG];apply rn;simp[yO];refine⟨by omega,K _ (by omega) ⟨_,_,a',rfl,by simp[E],by simp[S],by simp[F],by simp[n],by simp[th],by simp[Oq],by simp,ab.ai _ _ _,B.beside l (λe=>by obtain⟨_,_,q⟩:=B.aR e;rw[T]at q;cases q)⟩⟩
 . have ek:k=(aA x).length:=by omega
   subst ek;rw[ZY]at g;refine cf Tryz.func60 rfl (pR ?_);apply rn;simp
   have H:a.W (iZ ((aA x).map (aX w.fair)++(((aA y).take 0).map λc=>(F1 w c).lost))):=by simp only[List.take_zero,List.map_nil,aay];have:=g.W;show a.W (.sl 6 (((aA x).map (aX w.fair)).map bn) .any);rw[List.map_map];exact this
   refine aa.loop (aA y).length (λk s=>∃env f z,s=⟨env,f,[],.no⟩/\env 0=uq fb mb w 0/\env 4=.ref b 0/\env 5=.ref d 0/\env 41=ints (aA y)/\env 42=int (aA y).length/\env 43=int k/\f d=some (.cells (z::Hk w.fair))/\(z.cells=[z]/\z.flat=true)/\z.W (iZ ((aA x).map (aX w.fair)++(((aA y).take k).map λc=>(F1 w c).lost)))/\(σ.set b (.cells F3)).Le f) ⟨_,_,a,rfl,by simp[E],by simp[F],by simp[n],by simp,by simp,by simp,p,L,H,g.1⟩ ?_
   rintro Q k _ Z ⟨env,f,z,rfl,E,F,n,I,J,C,p,R,H,D⟩ K
   have qb:f b=some (.cells F3):=D _ _ (ab.ai _ _ _);apply rn;simp[J,C];apply aH.intro<;>intro o<;>simp at o<;>simp[E,F,n,I,C,p,qb,R.2,o,aG]
   . obtain⟨i,r⟩:∃i,(aA y)[k]=i:=⟨_,rfl⟩
     have t:=V i (r ▸ zA o);have j:i.toNat<w.aB.length:=by omega
     have M:F1 w i=w.aB[i.toNat]:=by simp[F1,j]
     simp only[r];have u:w.aB[i.toNat]?=some w.aB[i.toNat]:=KD j;refine⟨t.1,?_⟩;simp[n,p,u]
     have N:((aA y).take (k+1)).map (λc=>(F1 w c).lost)=((aA y).take k).map (λc=>(F1 w c).lost)++[w.aB[i.toNat].lost]:=by rw[zD o,aab,r,<-M];rfl
     have hW:Wl [AV.agg (z::Hk w.fair),.sl 6 [bn w.aB[i.toNat].lost] .exact] [cM (eU w (aA x) ((aA y).take k)),iZ [w.aB[i.toNat].lost]]:=.cons (Ns H) (.cons (ik _ _ _) .nil);refine⟨?_,?_⟩
     all_goals
      refine bU Tryz.func75 rfl rfl hW (DY (by simp only[ZU,ZZ,aaP,aao,aaN];omega) ?_)
      rw[aaV,<-N];apply pg;simp[n,p];apply rn;simp[C];refine⟨by omega,K _ (by omega) ⟨_,_,_,rfl,by simp[E],by simp[F],by simp[n],by simp[I],by simp[J],by simp,ab.ai _ _ _,⟨rfl,rfl⟩,by simp only[List.map_take];exact .refl _,ab.ez D l⟩⟩
   . have ek:k=(aA y).length:=by omega
     subst ek;rw[ZY]at H;refine .na (Ns H) (.less (λc v hv=>?_) (.done h))
     have Q:c≠b:=λe=>by grind
     rw[ab.ah _ _ Q];exact D _ _ (by rw[ab.ah _ _ Q];exact hv)
end CF
def yp(f:Fr)(x y:Int):Int:=lf (((aI f []).filter (lQ x y)).length:Int) (aI f []).length
def Aq(n:Int):Nat:=if n=1 then 125 else if n=3 then 284 else 195
abbrev yq(n:Int):AV:=.lT (Aq n) (.agg [])
def sZ(n:Int):AV:=if n=0 then .lit .nilIface else yq n
def Nu(f:Fr)(es cs:acy)(x:Nat)(N:acy):acy:=(List.range cs.length).foldl (λN y=>N.set (3*(es.getD x 0).toNat+(cs.getD y 0).toNat) (yp f x ((es.length:Int)+y))) N
def Nv(f:Fr)(es cs:acy):acy:=(List.range es.length).foldl (λN x=>Nu f es cs x N) (List.replicate 18 0)
abbrev vf(a b:Int)(N:acy):acE:=[.lit (.int .u32 a),.lit (.int .i32 b),.lit (.int .u32 0)]++N.map sZ
theorem Nw  f   x y :yp f x y≠0:=by unfold yp lf;omega
theorem jv{σ:ab}{b x}(h:σ b=some x):σ.set b x=σ:=by
 funext c;by_cases e:c=b
 . simp_all
 . simp[ab.set,e]
theorem Nx  f   es cs   x   N :(Nu f es cs x N).length=N.length:=by
 have key:∀(l:acz) (N:acy),(l.foldl (λN y=>N.set (3*(es.getD x 0).toNat+(cs.getD y 0).toNat) (yp f x ((es.length:Int)+y))) N).length=N.length:=λl=>by
  induction l with
  |nil=>simp_all
  |cons a l b=>simp_all
 exact key _ N
theorem Eb{a b c}{N:acy}{i j n}(d:3*i+j<N.length)(f:n≠0):aG (a::b::c::N.map sZ) (3+i*3+j) [yq n]=a::b::c::(N.set (3*i+j) n).map sZ:=by
 have e:3+i*3+j=3*i+j+1+1+1:=by omega
 rw[e];generalize 3*i+j=p at d ⊢;unfold aG;simp only[List.take_succ_cons,aao,aaN,aaW,List.drop_succ_cons,List.cons_append];rw[abt,abm,ZS (by simp_all)];simp[sZ,f]
theorem Ny(Q:m.solo=true){w fb mb bk x y}(K:∀i∈aA x,0<=i/\i<w.fair.aD.length)(L:∀i∈aA y,0<=i/\i<w.aB.length)(D:(eU w (aA x) (aA y)).Good)(R:aI (eU w (aA x) (aA y)) []≠[])(h6:w.fair.aD.length<=6/\w.aB.length<=3)
 (hb:σ bk=some (.cells (vf 0 1 (List.replicate 18 0)))) (h:KF (.val (.cu [])) (σ.set bk (.cells (vf 0 1 (Nv (eU w (aA x) (aA y)) (aA x) (aA y)))))):
 az prog m 147 [.cp (uq fb mb w 0) 0,.cp (.agg [u8 x,u8 y]) 0,.cp (.ref bk 0) 0] σ KF:=by
 have S:=nC x;have T:=nC y;refine fs Ux Tryz.func147 rfl (by kernel_rfl) ?_;simp[Tryz.f147]
 repeat' first
  |refine⟨?_,?_⟩
  | (refine cf Tryz.func65 rfl (CF.Nt K L ?_)
     apply pg;simp)
  | (refine cf Tryz.func60 rfl (pR ?_)
     apply pg;simp)
  | (refine qA.intro λd hd=>?_
     simp)
 all_goals
  refine aa.bt 3 (b:=d) (cM (eU w (aA x) (aA y))) (ab.ai _ _ _) (by simp) rfl ?_;rw[fh hd];apply rn;simp;refine aa.loop (aA x).length (λk s=>∃env N,s=⟨env,σ.set bk (.cells (vf 0 1 N)),[],.no⟩/\N.length=18/\N=(List.range k).foldl (λN i=>Nu (eU w (aA x) (aA y)) (aA x) (aA y) i N) (List.replicate 18 0)/\env 2=.cp (.ref bk 0) 0/\env 3=.cp (cM (eU w (aA x) (aA y))) 0/\env 4=ints (aA x)/\env 5=ints (aA y)/\env 21=ints (aA x)/\env 22=int (aA x).length/\env 23=int k) ⟨_,List.replicate 18 0,by rw[jv hb],rfl,rfl,by simp⟩ ?_;rintro c0 k _ hk ⟨env,N,rfl,U,p,q,r,u,v,vE,vF,JL⟩ V;apply rn;simp[vF,JL];apply aH.intro<;>intro B<;>simp at B<;>simp[v,vE,JL,B]
  . obtain⟨i,E⟩:∃i,(aA x)[k]=i:=⟨_,rfl⟩
    have W:=K i (E ▸ zA B);have F:(aA x).getD k 0=i:=by simp[zG,B,E]
    refine aa.loop (aA y).length (λj s=>∃env g,s=⟨env,σ.set bk (.cells (vf 0 1 g)),[],.no⟩/\g.length=18/\g=(List.range j).foldl (λN M=>N.set (3*i.toNat+((aA y).getD M 0).toNat) (yp (eU w (aA x) (aA y)) k (((aA x).length:Int)+M))) N/\env 2=.cp (.ref bk 0) 0/\env 3=.cp (cM (eU w (aA x) (aA y))) 0/\env 4=ints (aA x)/\env 5=ints (aA y)/\env 21=ints (aA x)/\env 22=int (aA x).length/\env 23=int k/\env 6=int k/\env 7=int i/\env 28=ints (aA y)/\env 29=int (aA y).length/\env 30=int j) ⟨_,N,rfl,U,rfl,by simp[q,r,u,v,vE,vF,JL,E]⟩ ?_;rintro c1 j _ hj ⟨env,g,rfl,l,e,q,r,u,v,vE,vF,JL,O,P,z,A,n⟩ G;apply rn;simp[A,n];apply aH.intro<;>intro C<;>simp at C<;>simp[r,u,JL,O,z,n,C]
    . obtain⟨c,o⟩:∃c,(aA y)[j]=c:=⟨_,rfl⟩
      have X:=L c (o ▸ zA C);have H:(aA y).getD j 0=c:=by simp[zG,C,o]
      have Y:(eU w (aA x) (aA y)).aD.length=(aA x).length+(aA y).length:=by simp
      simp only[o];refine⟨by omega,?_⟩;refine cf Tryz.func148 rfl (Po (f:=eU w (aA x) (aA y)) Q D.fits D.Cq ⟨by omega,by omega⟩ ⟨by omega,by omega⟩ R (Nat.lt_of_le_of_lt (BO D _) (by decide)) ?_);apply rn;simp[q,P];refine⟨by omega,by omega,?_⟩;refine cf Tryz.func149 rfl (FY (t:=Aq (yp (eU w (aA x) (aA y)) k (((aA x).length:Int)+j))) rfl ?_);have I:3+i.toNat*3+c.toNat<=20:=by omega
      have J:=λa b d=>Eb (a:=a) (b:=b) (c:=d) (N:=g) (i:=i.toNat) (j:=c.toNat) (by omega) (Nw (eU w (aA x) (aA y)) k (((aA x).length:Int)+j))
      apply pg;simp[l,I,J];apply rn;simp[n];simp only[<-List.map_set];refine⟨by omega,G _ (by omega) ⟨_,g.set (3*i.toNat+c.toNat) (yp (eU w (aA x) (aA y)) k (((aA x).length:Int)+j)),rfl,by rw[aaq];exact l,?_,by simp[q,r,u,v,vE,vF,JL,O,P,z,A]⟩⟩;rw[aai,aaE,<-e];simp only[aaB,List.foldl_nil,H]
    . have Z:j=(aA y).length:=by omega
      subst Z;refine⟨by omega,V _ (by omega) ⟨_,g,rfl,l,?_,by simp[q,r,u,v,vE,vF]⟩⟩;rw[aai,aaE,<-p];simp only[aaB,List.foldl_nil];unfold Nu;rw[F];exact e
  . have ek:k=(aA x).length:=by omega
    subst ek;refine .done ?_;rw[p];exact h
theorem Qv:Cr prog 156 112 193 110 .u8:=.of (by kernel_rfl) (by kernel_rfl) (by kernel_rfl) (by kernel_rfl)
abbrev yr(w:iw)(p:Int × Int):acy:=Nv (eU w (aA p.1) (aA p.2)) (aA p.1) (aA p.2)
def eY(w:iw)(mb:Nat)(σ:ab):Prop:=∃l,σ mb=some (mT (po .u8) l)/\∀p a,di l p=some a->∃bk,a=.ref bk 0/\bk≠mb/\σ bk=some (.cells (vf 1 0 (yr w p)))
def fF(mb:Nat)(σ σ':ab):Prop:=∀c x,σ c=some x->c≠mb->σ' c=some x
theorem fF.refl  mb   σ :fF mb σ σ:=λ_ _ h _=>h
theorem fF.trans{mb a b c}(h:fF mb a b)(e:fF mb b c):fF mb a c:=λd x q n=>e d x (h d x q n) n
structure iw.Bk(w:iw)  x y :Prop where
 hx:∀i∈aA x,0<=i/\i<w.fair.aD.length
 hy:∀i∈aA y,0<=i/\i<w.aB.length
 pJ:(eU w (aA x) (aA y)).Good
 some:aI (eU w (aA x) (aA y)) []≠[]
theorem F4{l}{p q:Int × Int}{a b}(h:di (l++[(q,b)]) p=some a):di l p=some a\/p=q/\a=b:=by
 unfold di at h ⊢;rw[List.find?_append]at h;cases e:l.find? (λr=>p==r.1)with
 |some r=>simp_all
 |none=>grind
theorem Nz(J:m.solo=true){w fb mb x y}(hb:w.Bk x y)(P:w.fair.aD.length<=6/\w.aB.length<=3)(Q:eY w mb σ)
 (h:∀bk σ',eY w mb σ'->fF mb σ σ'->σ' bk=some (.cells (vf 1 0 (yr w (x,y))))->KF (.val (.ref bk 0)) σ'):az prog m 110 [uq fb mb w 0,.agg [u8 x,u8 y]] σ KF:=by
 obtain⟨l,s,A⟩:=Q;refine az.start lay [15] Uw 2 Tryz.func110 rfl rfl (by rfl) (by kernel_rfl) ?_
 simp[Tryz.f110]
 have f:∀{o:Oper}{env:Env}{σ:ab}{K R:acg},o.op=.lookup 156 (.tmp 9) (.tmp 10) false->env 9=.map mb->env 10=po .u8 (x,y)->σ mb=some (mT (po .u8) l)->K ((di l (x,y)).getD (.lit (.pointer none))) σ->aJ prog o env σ K R:=λS T E U F=>wP lay (Qv.key lay LC rfl) S Uq T E U F
 have t:di l (x,y)=none\/∃bk,di l (x,y)=some (.ref bk 0)/\bk≠mb/\σ bk=some (.cells (vf 1 0 (yr w (x,y)))):=by
  cases e:di l (x,y)with
  |none=>simp_all
  |some a=>simp_all
 rcases t with j|⟨bk,j,V,B⟩
 . refine⟨f rfl (by simp) (by simp[po]) s ?_,?_⟩
   rotate_left
   refine qA.intro λd hd=>?_
   have u:mb≠d:=λe=>by simp_all
   simp;refine f rfl (by simp) (by simp[po]) (by simp[ab.ah,u,s]) ?_
   rw[j];refine aK.go lay [15] ?_;simp
   rotate_left
   rw[j];refine aK.go lay [15] ?_;simp;refine qA.intro λd hd=>?_
   have u:mb≠d:=λe=>by simp_all
   simp
   all_goals
    refine aa.run lay [15] ?_;simp;refine ot (vx:=.pointer none) (vy:=.pointer none) (r:=.bool true) rfl (λk v g=>by simpa using z7.1 g) (λk v g=>by simpa using z7.1 g) (by kernel_rfl) ?_
    refine aa.run lay [15] ?_;simp;refine bI.intro λbk C=>?_
    obtain⟨W,X,i⟩:=ab.aM C;have D:mb≠bk:=λe=>by rw[<-e,s]at i;cases i
    simp[X,ab.ah];refine qI (Qv.key lay LC rfl) rfl (b:=mb) (l:=l) (n:=(x,y)) (a:=.ref bk 0) (by simp) (by simp[po]) (by simp) (by simp[ab.set,u,D,s]) j ?_
    refine aK.go lay [15] ?_;simp;refine aa.bt 5 (b:=d) (.ref bk 0) (by simp[ab.set,za u]) (by simp) rfl ?_
    refine aa.eu (λe q=>(e 2=.cp (uq fb mb w 0) 0/\e 3=.cp (.agg [u8 x,u8 y]) 0/\e 5=.cp (.ref bk 0) 0)/\q mb=some (mT (po .u8) (l++[((x,y),.ref bk 0)]))/\q bk=some (.cells (vf 0 0 (List.replicate 18 0)))/\fF mb σ q) ⟨by simp,by simp[ab.set,ab.del,u],by simp[ab.set,ab.del,W,za D,List.replicate,sZ],λc v g z=>?_⟩ ?_
    . have Y:c≠d:=λe=>by rw[e,hd]at g;cases g
      have G:c≠bk:=λe=>by rw[e,i]at g;cases g
      simp[ab.set,ab.del,Y,G,z,g]
    rintro env q ⟨⟨Z,e3,L⟩,q1,q2,M⟩
    refine aa.run lay [15] ?_;simp[Z,e3,L];refine cf Tryz.func146 rfl (BU J q2 rfl rfl rfl λK F=>dY Tryz.func147 rfl rfl rfl (Ny J hb.hx hb.hy hb.pJ hb.some P (ab.ai _ _ _) (F _ _ (ab.ai _ _ _) rfl rfl rfl ?_)))
    simp only[ab.set_set];refine aa.run lay [15] ?_;simp[L];refine .done (h bk _ ⟨_,(ab.ah _ _ D).trans q1,λp a H=>?_⟩ (λc v g z=>?_) (ab.ai _ _ _))
    . rcases F4 H with H|⟨rfl,rfl⟩
      . obtain⟨N,rfl,O,I⟩:=A _ _ H
        have h3:N≠bk:=λe=>by rw[e,i]at I;cases I
        exact⟨N,rfl,O,(ab.ah _ _ h3).trans (M _ _ I O)⟩
      . exact⟨bk,rfl,za D,ab.ai _ _ _⟩
    . have G:c≠bk:=λe=>by rw[e,i]at g;cases g
      exact(ab.ah _ _ G).trans (M _ _ g z)
 . refine⟨f rfl (by simp) (by simp[po]) s ?_,?_⟩
   rotate_left
   refine qA.intro λd hd=>?_
   have u:mb≠d:=λe=>by simp_all
   simp;refine f rfl (by simp) (by simp[po]) (by simp[ab.ah,u,s]) ?_
   rw[j];refine aK.go lay [15] ?_;simp
   rotate_left
   rw[j];refine aK.go lay [15] ?_;simp;refine qA.intro λd hd=>?_
   simp
   all_goals
    refine aa.bt 5 (b:=d) (.ref bk 0) (ab.ai _ _ _) (by simp) rfl ?_
    rw[fh hd];refine aa.run lay [15] ?_;simp;refine ot (vx:=.pointer (some ⟨bk,0,none⟩)) (vy:=.pointer none) (r:=.bool false) rfl (λk v g=>by simpa using Uf.1 g) (λk v g=>by simpa using z7.1 g) (by kernel_rfl) ?_
    refine aa.run lay [15] ?_;simp;refine cf Tryz.func146 rfl (D9 B rfl ?_);refine aa.run lay [15] ?_;simp;exact .done (h bk σ ⟨l,s,A⟩ (.refl mb σ) B)
abbrev kE(w:iw)(h:Int):Int:=bf (uv w h)
abbrev kC(w:iw)(h:Int):Int:=bf (yo w h)
structure iw.Open(w:iw):Prop where
 tZ:w.fair.aD.length<=6/\w.aB.length<=3
 bk:∀h,w.Bk (kE w h) (kC w h)
def jI(w:iw)(h i c:Int):Int:=(yr w (kE w h,kC w h)).getD (3*i.toNat+c.toNat) 0
theorem Jw  f   es cs :(Nv f es cs).length=18:=by
 have key:∀(l:acz) (N:acy),(l.foldl (λN x=>Nu f es cs x N) N).length=N.length:=λl=>by
  induction l with
  |nil=>simp_all
  |cons a l b=>exact λN=>(b _).trans (Nx ..)
 exact key _ _
theorem Ec(p:m.solo=true){w fb mb h i c}(b:w.Open)(hi:0<=i/\i<6)(f:0<=c/\c<3)(q:eY w mb σ)(d:∀σ',eY w mb σ'->fF mb σ σ'->KF (.val (yq (jI w h i c))) σ'):az prog m 67 [uq fb mb w 0,int h,int i,int c] σ KF:=by
 refine fs [] Tryz.func67 rfl (by kernel_rfl) ?_
 simp[Tryz.f67];refine cf Tryz.func59 rfl (CK.Jv b.tZ.1 b.tZ.2 ?_);apply rn;simp;refine cf Tryz.func110 rfl (Nz p (b.bk h) b.tZ q λbk σ' g j k=>?_)
 have hlen:=Jw (eU w (aA (kE w h)) (aA (kC w h))) (aA (kE w h)) (aA (kC w h));obtain⟨N,l⟩:∃N,N=yr w (kE w h,kC w h):=⟨_,rfl⟩;have r:N.length=18:=by simp_all
 have s:jI w h i c=N.getD (3*i.toNat+c.toNat) 0:=by rw[l];rfl
 rw[<-l]at k
 have a:(AV.lit (.int .u32 1)::.lit (.int .i32 0)::.lit (.int .u32 0)::N.map sZ)[3+i.toNat*3+c.toNat]?=some (sZ (jI w h i c)):=by
  have e:3+i.toNat*3+c.toNat=3*i.toNat+c.toNat+3:=by omega
  have t:3*i.toNat+c.toNat<N.length:=by omega
  simp_all
 generalize jI w h i c=n at d a;apply rn;simp[k,hi.1,hi.2,f.1,f.2,a]
 by_cases o:n=0
 . subst o
   refine gN lay rfl Qn rfl (.inl ⟨by simp[sZ],rfl⟩) (.inr ⟨rfl,rfl⟩) ?_
   apply rn;simp;exact .done (d σ' g j)
 . have e:sZ n=yq n:=ZM o
   rw[e];refine gN lay rfl Qn rfl (.inr ⟨⟨Aq n,.agg [],by simp⟩,rfl⟩) (.inr ⟨rfl,rfl⟩) ?_
   apply rn;simp;exact .done (d σ' g j)
def F5(n:Int):Bool:=n==1||n==3
theorem uw{t f:Nat}(h:eT prog (Go.method (prog.types.size+Made.depth) t (.agg #[])  "palfrey/cry.holds")=some (f,.agg #[])):nQ prog t  "palfrey/cry.holds" f (.agg []) (.agg []):=vd λk v b=>by
 cases b with
 | agg c l d e=>
   obtain⟨c⟩:=c
   match c,d with
   |[],_=>exact⟨_,h,.agg _ _ rfl λi v a h=>by simp at h⟩
theorem Ed(h:KF (.val (bool true)) σ):az prog m 232 [.agg []] σ KF:=by
 refine fs [] Tryz.func232 rfl (by kernel_rfl) ?_;simp[Tryz.f232];exact .done h
theorem Ee(h:KF (.val (bool true)) σ):az prog m 258 [.agg []] σ KF:=by
 refine fs [] Tryz.func258 rfl (by kernel_rfl) ?_;simp[Tryz.f258];exact .done h
theorem Ef(h:KF (.val (bool false)) σ):az prog m 233 [.agg []] σ KF:=by
 refine fs [] Tryz.func233 rfl (by kernel_rfl) ?_;simp[Tryz.f233];exact .done h
theorem NA(b:m.solo=true){w fb mb h i c}(d:w.Open)(hi:0<=i/\i<6)(f:0<=c/\c<3)(g:eY w mb σ)(a:∀σ',eY w mb σ'->fF mb σ σ'->KF (.val (bool (F5 (jI w h i c)))) σ'):az prog m 102 [int c,.cp (uq fb mb w 0) 0,.cp (int h) 0,.cp (int i) 0] σ KF:=by
 refine fs [] Tryz.func102 rfl (by kernel_rfl) ?_
 simp[Tryz.f102];refine cf Tryz.func67 rfl (Ec b d hi f g λσ' j k=>?_)
 have a:=a σ' j k;generalize jI w h i c=n at a;unfold F5 at a
 by_cases l:n=1
 . subst l
   apply rn;simp;refine aa.invoke rfl rfl rfl (by simp) rfl (uw (by kernel_rfl)) Tryz.func232 rfl rfl (Ed ?_)
   apply rn;simp;exact .done a
 by_cases o:n=3
 . subst o
   apply rn;simp;refine aa.invoke rfl rfl rfl (by simp) rfl (uw (by kernel_rfl)) Tryz.func258 rfl rfl (Ee ?_)
   apply rn;simp;exact .done a
 have e:yq n=.lT 195 (.agg []):=by unfold yq Aq;simp_all
 rw[e];apply rn;simp;refine aa.invoke rfl rfl rfl (by simp) rfl (uw (by kernel_rfl)) Tryz.func233 rfl rfl (Ef ?_)
 apply rn;simp;rw[show(n==1)=false by simp_all,show(n==3)=false by simp_all]at a
 exact .done a
theorem s8{σ0 σ σ2 a kk es}(h:Tok σ0 σ a kk es)(d:∀b e,σ b=some (.tail e)->σ2 b=some (.tail e)):Tok (σ2.off a) σ2 a kk es:=by
 rcases h.2 with⟨rfl,rfl⟩|rfl|⟨b,e,_,rfl,f⟩
 . exact⟨ab.le_refl _,.inl ⟨rfl,rfl⟩⟩
 . exact⟨ab.le_refl _,.inr (.inl rfl)⟩
 . refine⟨λc x g=>?_,.inr (.inr ⟨b,e,by simp[ab.off,bp,ab.del],rfl,d b e f⟩)⟩
   simp only[ab.off,bp,ab.del]at g
   simp_all
structure U3(I:acC)  mb :Prop where
 le:∀{σ σ'},I σ->(∀c x,σ c=some x->(∀e,x≠.tail e)->σ' c=some x)->I σ'
 mb:∀{σ},I σ->∀e,σ mb≠some (.tail e)
theorem F6{σ0 σ a kk es}(h:Tok σ0 σ a kk es){c x}(b:σ c=some x)(d:∀e,x≠.tail e):(σ.off a) c=some x:=by
 rw[ab.du λe=>?_]
 . exact b
 . obtain⟨_,n,q⟩:=h.aR e
   grind
theorem Qw{I mb}(z:U3 I mb){f l p}(T:l.length<=1000)(A:f.flat=true)
 (P:∀x∈l,∀  σ   K ,I σ->(∀σ',I σ'->fF mb σ σ'->K (.val (bool (p x))) σ')->bY prog m f [int x] σ K)
 (Q:I σ) (h:∀σ',I σ'->fF mb σ σ'->KF (.val (ints (l.filter p))) σ'):az prog m 86 [.agg [f],ints l] σ KF:=by
 refine fs [] Tryz.func86 rfl (by kernel_rfl) ?_
 simp[Tryz.f86];refine⟨A,?_⟩;refine aa.loop l.length (λk s=>∃env σ' a,s=⟨env,σ',[],.no⟩/\env 2=.cp (.agg [f]) 0/\env 8=ints l/\env 9=int l.length/\env 10=int k/\env 5=a/\I σ'/\Tok (σ'.off a) σ' a 1 (((l.take k).filter p).map int)/\fF mb σ (σ'.off a)) ?_ ?_
 . refine⟨_,σ,AV.nil,rfl,?_,?_,?_,?_,?_,Q,Tok.nil σ 1,fF.refl mb σ⟩<;>simp
 rintro U k _ V ⟨env,σ',a,rfl,B,C,D,cd,v,E,d,hb⟩ L
 apply rn;simp[D,cd];apply aH.intro<;>intro w<;>simp at w<;>simp[B,C,cd,v,w]
 . have F:(l.take (k+1)).filter p=(l.take k).filter p++if p l[k]then[l[k]]else[]:=by
    rw[zD w,aaT]
    grind
   have R:((l.take k).filter p).length<=k:=ZV (abw _ _) (by grind)
   refine P _ (zA w) _ _ E λσ2 M j=>?_
   have o:=s8 d (σ2:=σ2) (λb e r=>j b _ r λq=>z.mb E e (q ▸ r))
   have g:fF mb σ (σ2.off a):=λc x i y=>by
    have N:=hb c x i y;have G:bp a≠some c:=λe=>by obtain⟨n,_⟩:=d.aR e;grind
    rw[ab.du G]at N ⊢;exact j c x N y
   apply rn;simp;cases O:p l[k]
   . rw[O,ZM (by simp),aay]at F
     simp[cd];refine⟨by omega,L _ (by omega) ⟨_,σ2,a,rfl,?_,?_,?_,?_,?_,M,by grind,g⟩⟩<;>simp[B,C,D,v]
   . rw[O,ZS rfl]at F
     simp[v];refine aN lay rfl rfl rfl dG rfl dG rfl rA (by decide) (by grind) (σ0:=σ2.off a) (es:=((l.take k).filter p).map int) (xs:=[int l[k]]) (by simpa[v]using o) (.inr ⟨_,by simp;rfl⟩) λS H t=>?_
     apply rn;simp[cd];have u:=t.here;refine⟨by omega,L _ (by omega) ⟨_,H,S,rfl,?_,?_,?_,?_,?_,z.le M λc x i J=>t.1 _ _ (F6 o i J),by rw[F,aab];exact u.1,λc x i y=>u.2 _ _ (g c x i y)⟩⟩<;>simp[B,C,D]
 . have ek:k=l.length:=by omega
   subst ek;rw[ZY]at d;refine .na d.W (.less d.1 (.done (h _ (z.le E λc x i J=>F6 d i J) hb)))
theorem rJ  w   mb :U3 (eY w mb) mb where
 le h hk:=by
  obtain⟨l,b,c⟩:=h;refine⟨l,hk _ _ b (by simp[mT]),λp a d=>?_⟩
  grind
 mb h e q:=by obtain⟨l,b,_⟩:=h;rw[b]at q;simp[mT]at q
theorem Vr{n x}(h:x∈vS n):0<=x/\x<n:=by grind
theorem Py  n :(vS n).length=n:=by grind
def Pz(w:iw)(h i:Int):acy:=(vS w.aB.length).filter λc=>F5 (jI w h i c)
def lS(w:iw)(h:Int):acy:=(vS w.fair.aD.length).filter λi=>decide (0<(Pz w h i).length)
theorem Hl(c:m.solo=true){w fb mb h i}(b:w.Open)(hi:0<=i/\i<6)(d:eY w mb σ)(a:∀σ',eY w mb σ'->fF mb σ σ'->KF (.val (ints (Pz w h i))) σ'):az prog m 61 [uq fb mb w 0,int h,int i] σ KF:=by
 have j:=b.tZ.2;refine fs [] Tryz.func61 rfl (by kernel_rfl) ?_;simp[Tryz.f61];refine cf Tryz.func49 rfl (uo (by omega) ?_);apply rn;simp;refine cf Tryz.func86 rfl (Qw (rJ w mb) (by grind) rfl (λx k σ K e a=>dY Tryz.func102 rfl rfl rfl (NA c b hi (by grind) e a)) d λσ' f g=>?_);apply rn;simp;exact .done (a σ' f g)
theorem NB(a:m.solo=true){w fb mb h i}(b:w.Open)(hi:0<=i/\i<6)(c:eY w mb σ)(d:∀σ',eY w mb σ'->fF mb σ σ'->KF (.val (bool (decide (0<(Pz w h i).length)))) σ'):az prog m 87 [int i,.cp (uq fb mb w 0) 0,.cp (int h) 0] σ KF:=by
 refine fs [] Tryz.func87 rfl (by kernel_rfl) ?_;simp[Tryz.f87];refine cf Tryz.func61 rfl (Hl a b hi c λσ' e f=>?_);apply rn;simp;refine .done ?_
 simp_all
theorem ys(c:m.solo=true){w fb mb h}(b:w.Open)(d:eY w mb σ)(a:∀σ',eY w mb σ'->fF mb σ σ'->KF (.val (ints (lS w h))) σ'):az prog m 42 [uq fb mb w 0,int h] σ KF:=by
 have i:=b.tZ.1;refine fs [] Tryz.func42 rfl (by kernel_rfl) ?_;simp[Tryz.f42];refine cf Tryz.func49 rfl (uo (by omega) ?_);apply rn;simp;refine cf Tryz.func86 rfl (Qw (rJ w mb) (by grind) rfl (λx j σ K e a=>dY Tryz.func87 rfl rfl rfl (NB c b (by grind) e a)) d λσ' f g=>?_);apply rn;simp;exact .done (a σ' f g)
theorem Js.Ar{σ σ' fb mb w}(h:Js σ fb mb w σ'):eY w mb σ':=⟨[],by rw[h.eq,ab.ah _ _ (za h.ne),ab.ai],λp a b=>by simp[di]at b⟩
theorem Js.less{σ σ' σ2 fb mb w}(h:Js σ fb mb w σ')(hb:fF mb σ' σ2):σ.Le σ2:=λc x a=>by
 have d:c≠fb:=λe=>by rw[e,h.f0]at a;cases a
 have b:c≠mb:=λe=>by rw[e,h.m0]at a;cases a
 exact hb c x (by rw[h.eq,ab.ah _ _ d,ab.ah _ _ b];exact a) b
abbrev oY:AV:=.lit (.slice none 0 0)
theorem SJ{a b c d a' b' c' d'}(e:a.W a')(f:b.W b')(g:c.W c')(h:d.W d'):Wl [a,b,c,d] [a',b',c',d']:=.cons e (.cons f (.cons g (.cons h .nil)))
theorem mN(e:m.solo=true){w}(f:w.rH){c:Nat}(h:c<3)(i:fE w [] [] [(c:Int)]=0)(b:if 72<ew w c then KF (.val (.cu [int 0,int 11])) σ else KF (.val (.cu [int (ew w c),int 0])) σ):az prog m 22 [dz w,int c] σ KF:=by
 have j:Wl [dz w,oY,oY,.sl 1 [int c] .exact] [dz w,ints [],ints [],ints [(c:Int)]]:=SJ (.refl _) (gn 1) (gn 1) (ik 1 _ _);refine fs [] Tryz.func22 rfl (by kernel_rfl) ?_;simp[Tryz.f22];refine bU Tryz.func41 rfl rfl j (nF e f (by simp) (λq=>absurd i q) λ_ d fb mb k=>?_);have a:=k.less (.refl mb d);apply rn;simp;refine cf Tryz.func55 rfl (ve h ?_);split at b
 . next g=>rw[ZS g];apply rn;simp;refine cf Tryz.func56 rfl (Hj ?_);apply rn;simp;exact .less a (.done b)
 . next g=>rw[ZM g];apply rn;simp;refine cf Tryz.func56 rfl (Nq ?_);apply rn;simp;exact .less a (.done b)
theorem NC(a:m.solo=true){w}(f:w.rH)(g:w.Open){h}(b:fE w [h] [] []≠0->KF (.val (.cu [oY,int (fE w [h] [] [])])) σ)(i:fE w [h] [] []=0->KF (.val (.cu [ints (lS w h),int 0])) σ):az prog m 11 [dz w,int h] σ KF:=by
 have j:Wl [dz w,.sl 1 [int h] .exact,oY,oY] [dz w,ints [h],ints [],ints []]:=SJ (.refl _) (ik 1 _ _) (gn 1) (gn 1);obtain⟨e,k⟩:∃e,e=fE w [h] [] []:=⟨_,rfl⟩;refine fs [] Tryz.func11 rfl (by kernel_rfl) ?_;simp[Tryz.f11];refine bU Tryz.func41 rfl rfl j (nF a f (by simp) (λq=>?_) λq l fb mb c=>?_)
 . rw[<-k]at q b ⊢
   have d:(e !=0)=true:=by grind
   apply rn;simp[d];exact .done (b q)
 . apply rn
   simp;refine cf Tryz.func42 rfl (ys a g c.Ar λn d o=>?_);apply rn;simp;exact .less (c.less o) (.done (i q))
def yt(w:iw)(h i:Int):Bool:=decide (0<(Pz w h i).length)
def bT(w:iw)(i:Int):Nat->Int × List (Int × Int)
 |0=>(1048576,[])
 |h+1=>if(h:Int)<=72/\yt w h i=true then(if(h:Int)<(bT w i h).1 then(h:Int)else(bT w i h).1,(bT w i h).2)else if(bT w i h).1<1048576 then(1048576,(bT w i h).2++[((bT w i h).1,(h:Int)-1)])else(1048576,(bT w i h).2)
def cI(w:iw)(i:Int):abY:=(bT w i 74).2
abbrev kD(r:Int × Int):AV:=.agg [int r.1,int r.2]
theorem BV  w   i :∀h ,0<=(bT w i h).1/\(bT w i h).1<=1048576
 |0=>by simp[bT]
 | h+1=>by
   have:=BV w i h;unfold bT
   grind
theorem Eg  w   i :∀d h ,(bT w i h).2 <+: (bT w i (h+d)).2
 |0,h=>List.prefix_refl _
 | d+1,h=>by
   refine(Eg w i d h).trans ?_;show _ <+: (bT w i ((h+d)+1)).2
   conv=>rhs;unfold bT
   grind
theorem Hm{w i h}(d:h<74){r}(b:(bT w i (h+1)).2=(bT w i h).2++[r]):∃f ,(cI w i)[(bT w i h).2.length]=r:=by
 have a:=Eg w i (73-h) (h+1);rw[show h+1+(73-h)=74 by omega,b]at a;obtain⟨t,c⟩:=a;have e:cI w i=(bT w i h).2++[r]++t:=c.symm
 grind
theorem As(C:m.solo=true){w fb mb i}(D:w.Open)(hi:0<=i/\i<6){y}{I:Nat->acC}(E:y.cells=[y]/\y.flat=true)
 (t:∀k σ σ',I k σ->fF mb σ σ'->eY w mb σ'->I k σ') (hb:∀k σ,I k σ->eY w mb σ)
 (B:∀k  F   σ   K ,I k σ->(∀σ',I (k+1) σ'->K (.val (bool true)) σ')->bY prog m y [kD (cI w i)[k]] σ K)
 (G:I 0 σ) (h:∀σ',I (cI w i).length σ'->KF (.val (.cu [])) σ'):az prog m 100 [y,.cp (uq fb mb w 0) 0,.cp (int i) 0] σ KF:=by
 refine fs [] Tryz.func100 rfl (by kernel_rfl) ?_;simp[Tryz.f100];refine aa.loop 74 (λk s=>∃env σ',s=⟨env,σ',[],.no⟩/\env 0=y/\env 1=.cp (uq fb mb w 0) 0/\env 2=.cp (int i) 0/\env 4=int (bT w i k).1/\env 7=int k/\I (bT w i k).2.length σ') ⟨_,_,rfl,by simp,by simp,by simp,by simp[bT],by simp,G⟩ ?_;rintro N k _ F ⟨env,σ',rfl,c,j,l,r,d,n⟩ o;have H:=BV w i k;apply rn;simp[d];apply aH.intro<;>intro p<;>simp at p<;>simp[d,p]
 . have p : k<74:=by omega
   refine uK.intro (λu=>?_) (λu=>?_)<;>(try simp[-Int.not_lt,-Int.not_le]at u)<;>(try simp[j,l,r,u])
   . refine cf Tryz.func61 rfl (Hl C D hi (hb _ _ n) λJ L M=>?_)
     have n:=t _ _ _ n M L;apply rn;simp;apply aH.intro<;>intro v<;>simp at v<;>simp[r,d,v]
     . have b:bT w i (k+1)=(if (k:Int)<(bT w i k).1 then (k:Int)else (bT w i k).1,(bT w i k).2):=by
        conv=>lhs;unfold bT
        rw[ZS ⟨by omega,by unfold yt;simp_all⟩]
       refine⟨by omega,o _ (by omega) ⟨_,_,rfl,by simp[c],by simp[j],by simp[l],by rw[b];simp,by simp,by grind⟩⟩
     . have x:¬((k:Int)<=72/\yt w k i=true):=λq=>by have:=q.2;simp[yt,v]at this
       refine uK.intro (λe=>?_) (λe=>?_)<;>(try simp[-Int.not_lt,-Int.not_le]at e)<;>(try simp[c,r,d,e])
       . have b:bT w i (k+1)=(1048576,(bT w i k).2++[((bT w i k).1,(k:Int)-1)]):=by
          conv=>lhs;unfold bT
          grind
         obtain⟨z,f⟩:=Hm (w:=w) (i:=i) p (by rw[b]);have a:=B _ z;rw[f]at a;refine⟨by omega,?_⟩;refine a _ _ n λg A=>?_
         apply rn;simp[d];refine⟨by omega,o _ (by omega) ⟨_,g,rfl,by simp[c],by simp[j],by simp[l],by rw[b];simp,by simp,by grind⟩⟩
       . have b:bT w i (k+1)=(1048576,(bT w i k).2):=by
          conv=>lhs;unfold bT
          grind
         refine⟨by omega,o _ (by omega) ⟨_,_,rfl,?_,?_,?_,by simp_all,?_,by simp_all⟩⟩<;>simp[c,j,l]
   . have x:¬((k:Int)<=72/\yt w k i=true):=λq=>by omega
     refine uK.intro (λe=>?_) (λe=>?_)<;>(try simp[-Int.not_lt,-Int.not_le]at e)<;>(try simp[c,r,d,e])
     . have b:bT w i (k+1)=(1048576,(bT w i k).2++[((bT w i k).1,(k:Int)-1)]):=by
        conv=>lhs;unfold bT
        grind
       obtain⟨z,f⟩:=Hm (w:=w) (i:=i) p (by rw[b]);have a:=B _ z;rw[f]at a;refine⟨by omega,?_⟩;refine a _ _ n λg A=>?_
       apply rn;simp[d];refine⟨by omega,o _ (by omega) ⟨_,g,rfl,?_,?_,?_,by simp_all,?_,by simp_all⟩⟩<;>simp[c,j,l]
     . have b:bT w i (k+1)=(1048576,(bT w i k).2):=by
        conv=>lhs;unfold bT
        grind
       refine⟨by omega,o _ (by omega) ⟨_,_,rfl,?_,?_,?_,by simp_all,?_,by simp_all⟩⟩<;>simp[c,j,l]
 . have ek:k=74:=by omega
   subst ek;exact .done (h _ n)
abbrev BW(fb mb:Nat)(w:iw)(i:Int):AV:=.fn (.func 100) [] [.cp (uq fb mb w 0) 0,.cp (int i) 0]
theorem Au{w fb mb i}(h:KF (.val (BW fb mb w i)) σ):az prog m 58 [uq fb mb w 0,int i] σ KF:=by
 refine fs [] Tryz.func58 rfl (by kernel_rfl) ?_;simp[Tryz.f58];exact .done h
theorem qz  w   i :∀h ,(bT w i h).2.length<=h
 |0=>by simp[bT]
 | h+1=>by
   have:=qz w i h;unfold bT
   grind
theorem eY.mono{w mb σ σ'}(h:eY w mb σ)(b:∀d x,σ d=some x->(∀e,x≠.tail e)->(∀a,x≠.cells [a])->(∀y,x≠.loop y)->(∀o,x≠.raw o)->σ' d=some x):eY w mb σ':=by
 obtain⟨l,c,f⟩:=h;refine⟨l,b _ _ c (by simp[mT]) (by simp[mT]) (by simp[mT]) (by simp[mT]),λp a g=>?_⟩
 grind
abbrev oC(l:abY):AV:=.sl 2 (l.map kD) .any
theorem zc(Q:m.solo=true){w fb mb i}(hO:w.Open)(hi:0<=i/\i<6)(hB:eY w mb σ)(h:∀σ',eY w mb σ'->fF mb σ σ'->KF (.val (oC (cI w i))) σ'):az prog m 99 [oY,BW fb mb w i] σ KF:=by
 have hlen:=qz w i 74;refine az.start lay [2] [] 2 Tryz.func99 rfl rfl (by rfl) (by kernel_rfl) ?_
 simp[Tryz.f99];refine bI.intro λc hc=>?_
 simp;refine aa.rangeFunc rfl λR r l S T s=>?_
 obtain⟨r1,r2,S⟩:=ab.aM S;obtain⟨B,l2,T⟩:=ab.aM T;generalize C:vZ.mk _ _ _ _ _ _ _ _ _=al;have nm:∀d,σ d=none->d≠mb:=λd hd e=>by obtain⟨x,q,_⟩:=hB;simp_all
 have cm:=nm c hc;have lm:=nm l T;have rm:=nm r S;refine dY Tryz.func100 rfl rfl rfl (As Q hO hi (y:=.fn (.yield l) [] []) (I:=λk σ'=>eY w mb σ'/\σ' l=some (.loop al)/\σ' r=some (.raw (.deferred (some [])))/\∃a,σ' c=some (.cells [a])/\Tok (σ'.off a) σ' a 2 (((cI w i).take k).map kD)/\fF mb σ (σ'.off a)) ⟨rfl,rfl⟩ ?_ ?_ ?_ ?_ ?_)
 . rintro k f ad ⟨D,z,E,a,F,g,G⟩ t U
   refine⟨U,t _ _ z lm,t _ _ E rm,a,t _ _ F cm,s8 g λb e o=>t b _ o λq=>(rJ w mb).mb D e (q ▸ o),λd x H hd=>?_⟩
   have J:=G d x H hd;have V:bp a≠some d:=λe=>by obtain⟨n,_⟩:=g.aR e;simp_all
   rw[ab.du V]at J ⊢;exact t _ _ J hd
 . simp_all
 . rintro k t f K ⟨D,z,E,a,F,g,G⟩ hK
   have Y:=g.cells;subst C;refine bY.wM (hold:=[]) R Tryz.func99 z rfl ?_;apply rn;simp[mS];refine bI.intro λq hq=>?_
   simp
   change aa _ _ _ _ _ _ _ _ _
   refine aa.runN lay [] 1 ?_;simp
   change aa _ _ _ _ _ _ _ _ _
   refine aa.bt 5 (b:=q) (kD (cI w i)[k]) (ab.ai _ _ _) (by simp) rfl ?_
   rw[fh hq];refine aa.beginRound z rfl ?_;have cl:∀x,(f.set l x) c=some (.cells [a]):=λx=>(ab.ah _ _ (za B)).trans F
   apply rn;simp[cl];have H:∀X,Tok ((f.set l X).off a) (f.set l X) a 2 (((cI w i).take k).map kD):=λX=>s8 g λb e o=>(ab.ah _ _ (λq=>by simp_all)).trans o
   have Q:((cI w i).take (k+1)).map kD=((cI w i).take k).map kD++[kD (cI w i)[k]]:=by rw[zD t,aab];rfl
   refine aN lay rfl rfl rfl Uo rfl Uo rfl Wg (by decide) (by simp only[ZZ,aaP,aao,aaN];unfold cI;omega) (es:=((cI w i).take k).map kD) (xs:=[kD (cI w i)[k]]) (H _) (.inr ⟨_,by simp;rfl⟩) λZ u j=>?_
   rw[<-Q]at j;have L:=j.cells;have a7:bp a≠some c:=λe=>by obtain⟨_,_,q⟩:=g.aR e;simp_all
   have t3:u c=some (.cells [a]):=j.1 _ _ (by rw[ab.du a7];exact cl _)
   have a8:bp a≠some l:=λe=>by obtain⟨_,_,q⟩:=g.aR e;simp_all
   have t4:=λ(X:rK) (hX:((f.set l X).off a).Le u)=>hX l X (by rw[ab.du a8];simp_all)
   have t4:=t4 _ j.1;refine aa.run lay [2] ?_;simp[t3,L.1,L.2,aG];refine⟨rfl,rfl,_,(ab.ah _ _ B).trans t4,?_⟩
   have M:∀X d x,d≠l->d≠c->bp a≠some d->f d=some x->((u.set c (.cells [Z])).set l X) d=some x:=λX d x d1 d2 d3 hd=>by rw[ab.ah _ _ d1,ab.ah _ _ d2];exact j.1 _ _ (by rw[ab.du d3,ab.ah _ _ d1];exact hd)
   refine hK _ ⟨D.mono λd x hd O h2 h3 _=>M _ d x (λe=>by grind) (λe=>by grind) (λe=>by obtain⟨_,_,q⟩:=g.aR e;grind) hd,ab.ai _ _ _,M _ r _ s r1 (λe=>by obtain⟨_,_,q⟩:=g.aR e;simp_all) E,Z,(ab.ah _ _ (za B)).trans (ab.ai _ _ _),s8 j λb e o=>?_,λd x H hd=>?_⟩
   . have v:b≠l:=λq=>by grind
     have A:b≠c:=λq=>by grind
     rw[ab.ah _ _ v];exact(ab.ah _ _ A).trans o
   . have v:d≠l:=λq=>by grind
     have A:d≠c:=λq=>by grind
     have J:=G d x H hd;have P:bp a≠some d:=λe=>by obtain⟨n,_⟩:=g.aR e;grind
     rw[ab.du P]at J
     have n4:bp Z≠some d:=λe=>by obtain⟨n,_⟩:=j.aR e;rw[ab.du P,ab.ah _ _ v,J]at n;cases n
     rw[ab.du n4]
     grind
 . have N:∀d x,σ d=some x->(((σ.set c (.cells [oY])).set r (.raw (.deferred (some [])))).set l (.loop al)) d=some x:=λd x hd=>by
    have v:d≠l:=λq=>by simp_all
    have A:d≠r:=λq=>by simp_all
    have P:d≠c:=λq=>by simp_all
    rw[ab.ah _ _ v,ab.ah _ _ A,ab.ah _ _ P];exact hd
   exact⟨hB.mono λd x hd _ _ _ _=>N d x hd,ab.ai _ _ _,(ab.ah _ _ s).trans (ab.ai _ _ _),AV.nil,(ab.ah _ _ (za B)).trans ((ab.ah _ _ (za r1)).trans (ab.ai _ _ _)),Tok.nil _ 2,λd x hd _=>N d x hd⟩
 . rintro f ⟨D,z,E,a,F,g,G⟩
   have Y:=g.cells;rw[ZY]at g;subst C;refine⟨_,z,by simp,rfl,?_⟩
   have a9:(f.del l) c=some (.cells [a]):=by simp only[ab.del,za B,Rp];exact F
   refine aa.run lay [2] ?_;simp[a9];refine⟨by simp only[ab.del,s,Rp];exact E,?_⟩
   have p:∀{d x},d≠l->d≠r->(f.off a) d=some x->(((f.off a).del l).del r) d=some x:=λO h2 h3=>by simp only[ab.del,O,h2,Rp];exact h3
   refine .na g.W (.less (λd x hd=>?_) (.done (h (((f.off a).del l).del r) (D.mono λd x hd O h2 h3 h4=>p (λe=>by grind) (λe=>by grind) (F6 g hd O)) λd x hd hm=>p (λq=>by simp_all) (λq=>by simp_all) (G d x hd hm))))
   simp only[ab.del]at hd;split at hd
   . cases hd
   next v=>
   split at hd
   . cases hd
   next A=>
   rw[ab.ah _ _ v];simp only[ab.del,A,Rp];exact ab.QP hd
theorem Eh(a:m.solo=true){w fb mb i}(b:w.Open)(hi:0<=i/\i<6)(c:eY w mb σ)(h:∀σ',eY w mb σ'->fF mb σ σ'->KF (.val (oC (cI w i))) σ'):az prog m 57 [BW fb mb w i] σ KF:=by
 refine fs [] Tryz.func57 rfl (by kernel_rfl) ?_;simp[Tryz.f57];refine cf Tryz.func99 rfl (zc a b hi c λσ' d e=>?_);apply rn;simp;exact .done (h σ' d e)
theorem Jx(a:m.solo=true){w}(f:w.rH)(g:w.Open){i}(hi:0<=i/\i<6)(b:fE w [] [i] []≠0->KF (.val (.cu [oY,int (fE w [] [i] [])])) σ)(h:fE w [] [i] []=0->KF (.val (.cu [oC (cI w i),int 0])) σ):az prog m 23 [dz w,int i] σ KF:=by
 have j:Wl [dz w,oY,.sl 1 [int i] .exact,oY] [dz w,ints [],ints [i],ints []]:=SJ (.refl _) (gn 1) (ik 1 _ _) (gn 1);obtain⟨e,k⟩:∃e,e=fE w [] [i] []:=⟨_,rfl⟩;refine fs [] Tryz.func23 rfl (by kernel_rfl) ?_;simp[Tryz.f23];refine bU Tryz.func41 rfl rfl j (nF a f (by simp) (λq=>?_) λq l fb mb c=>?_)
 . rw[<-k]at q b ⊢
   have d:(e !=0)=true:=by grind
   apply rn;simp[d];exact .done (b q)
 . apply rn
   simp;refine cf Tryz.func58 rfl (Au ?_);apply rn;simp;refine cf Tryz.func57 rfl (Eh a g hi c.Ar λn d o=>?_);apply rn;simp;exact .less (c.less o) (.done (h q))
def ta(l:abY):Int:=l.foldl (λn r=>n+(r.2-r.1+1)) 0
def iT(w:iw)(k:Nat):Int:=(List.range k).foldl (λ(n:Int) (i:Nat)=>n+ta (cI w (i:Int))) 0
theorem pU  w   i :∀h ,h<=74->∀r∈(bT w i h).2,(0<=r.1/\r.1<=1048576)/\-1<=r.2/\r.2<=73
 |0,_,r,a=>by simp[bT]at a
 | h + 1,b,r,a=>by
   have:=BV w i h;unfold bT at a;split at a
   . exact pU w i h (by omega) r a
   split at a
   . rcases ZQ.1 a with a|a
     . exact pU w i h (by omega) r a
     grind
   . exact pU w i h (by omega) r a
theorem Jy  l   r :ta (l++[r])=ta l+(r.2-r.1+1):=by unfold ta;simp_all
theorem Hn{l}(a:∀r∈l,(0<=r.1/\r.1<=1048576)/\-1<=r.2/\r.2<=73):-(2000000*(l.length:Int))<=ta l/\ta l<=2000000*l.length:=by
 have key:∀(l:abY) (n:Int),(∀r∈l,(0<=r.1/\r.1<=1048576)/\-1<=r.2/\r.2<=73)->n-2000000*l.length<=l.foldl (λn r=>n+(r.2-r.1+1)) n/\l.foldl (λn r=>n+(r.2-r.1+1)) n<=n+2000000*l.length:=λl=>by
  induction l with
  |nil=>simp_all
  | cons r l b=>
    intro n h;have d:=h r (by simp);have e:=b (n+(r.2-r.1+1)) λx c=>h x (by simp[c])
    grind
 have:=key l 0 a;unfold ta;omega
theorem Ei  w :∀k:Nat,-(200000000*(k:Int))<=iT w k/\iT w k<=200000000*k
 |0=>by simp[iT]
 | k+1=>by
   have a:=Ei w k;have b:=Hn (pU w k 74 (by omega))
   have c:=qz w k 74;have e:iT w (k+1)=iT w k+ta (cI w k):=by unfold iT;rw[aai,aaE];rfl
   rw[e];unfold cI;omega
theorem Av{P}(L:je P){rs env a}:∀(ds:acz)  σ ,ds.Nodup->(∀r∈ds,σ r=some (.raw (.deferred (some []))))->(∀σ',(∀d,d∉ds->σ' d=σ d)->JI L m rs env KF [] a σ')->JI L m rs env KF (ds.map .mark) a σ
 |[],σ,_,_,h=>h σ λ_ _=>rfl
 | r ::ds,σ,b,c,h=>⟨c r (by simp),Av L ds _ (aaL.1 b).2 (λd hd=>by
     have n:d≠r:=λe=>(aaL.1 b).1 (by simp_all)
     rw[ab.ah _ _ n]
     simp_all) λσ' f=>h σ' λd hd=>by
     have n:d≠r:=λe=>hd (by simp[e])
     rw[f d λq=>hd (by simp[q]),ab.ah _ _ n]⟩
theorem Jz(hs:m.solo=true){w}(hw:w.rH)(hO:w.Open)(he:fE w [] [] []=0)(hK:KF (.val (.cu [int (iT w w.fair.aD.length),int 0])) σ):az prog m 25 [dz w] σ KF:=by
 have hW:Wl [dz w,oY,oY,oY] [dz w,ints [],ints [],ints []]:=SJ (.refl _) (gn 1) (gn 1) (gn 1);have h6:=hO.tZ.1;refine fs [] Tryz.func25 rfl (by kernel_rfl) ?_
 simp[Tryz.f25];refine bU Tryz.func41 rfl rfl hW (nF hs hw (by simp) (λq=>absurd he q) λq o fb mb v=>?_)
 have E:=v.Ar;have F:∀d,o d=none->d≠mb:=λd hd e=>by obtain⟨x,q,_⟩:=E;simp_all
 apply rn;simp;refine bI.intro λc hc=>?_
 simp;have cm:=F c hc;refine aa.loop w.fair.aD.length (λk s=>∃env a ds,s=⟨env,a,List.map yI.mark ds,.no⟩/\(env 1=.cp (dz w) 0/\env 4=uq fb mb w 0/\env 6=.ref c 0/\env 20=int w.fair.aD.length/\env 21=int k)/\eY w mb a/\a c=some (.cells [int (iT w k)])/\ds.Nodup/\(∀r∈ds,a r=some (.raw (.deferred (some [])))/\o r=none)/\fF mb o a) ⟨_,_,[],rfl,by simp,E.mono λd x hd _ _ _ _=>(ab.ah _ _ λe=>by simp_all).trans hd,ab.ai _ _ _,by simp,by simp,λd x hd _=>(ab.ah _ _ λe=>by simp_all).trans hd⟩ ?_
 rintro c0 k _ P ⟨env,a,ds,rfl,⟨e1,e4,U,yO,vE⟩,hB,G,H,z,A⟩ ih
 apply rn;simp[yO,vE];apply aH.intro<;>intro g1<;>simp at g1<;>simp[e4,U,vE,g1,G]
 . refine cf Tryz.func58 rfl (Au ?_)
   apply rn;simp;refine aa.rangeFunc rfl λV r l Q R B=>?_
   change a r=none at Q
   change a l=none at R
   have nm:∀d,a d=none->d≠mb:=λd hd e=>by obtain⟨x,q,_⟩:=hB;grind
   have lm:=nm l R;have rm:=nm r Q;have lc:l≠c:=λe=>by grind
   have rc:r≠c:=λe=>by grind
   have J:=pU w k 74 (by omega)
   have hlen:=qz w k 74;have ax:=Ei w k
   have W:o r=none:=by
    cases e:o r with
    |none=>rfl
    |some x=>have:=A r x e rm;grind
   have a7:iT w (k+1)=iT w k+ta (cI w k):=by unfold iT;rw[aai,aaE];rfl
   generalize L:vZ.mk _ _ _ _ _ _ _ _ _=al;refine dY Tryz.func100 rfl rfl rfl (As hs hO (i:=(k:Int)) (by omega) (y:=.fn (.yield l) [] []) (I:=λj f=>eY w mb f/\f l=some (.loop al)/\f c=some (.cells [int (iT w k+ta ((cI w k).take j))])/\∀d x,(a.set r (.raw (.deferred (some [])))) d=some x->d≠mb->d≠c->f d=some x) ⟨rfl,rfl⟩ ?_ ?_ ?_ ?_ ?_)
   . rintro j f a8 ⟨T,t,u,D⟩ P a9
     exact⟨a9,P _ _ t lm,P _ _ u cm,λd x g p h=>P _ _ (D d x g p h) p⟩
   . grind
   . rintro j hj f K ⟨T,t,u,D⟩ ad
     have M:=J _ (zA hj);have av:=Hn (l:=(cI w k).take j) λx hx=>J x (abA hx)
     have ay:((cI w k).take j).length<=74:=ZV (List.length_take_le _ _) (by unfold cI at hj;omega)
     have C:ta ((cI w k).take (j+1))=ta ((cI w k).take j)+((cI w k)[j].2-(cI w k)[j].1+1):=by rw[zD hj,Jy]
     generalize ta ((cI w k).take j)=S at u av C;obtain⟨x1,x2⟩:∃r:Int × Int,r=(cI w k)[j]:=⟨_,rfl⟩;rw[<-x2]at M C ⊢;obtain⟨ra,rb⟩:=x1;simp only at M C;subst L;refine bY.wM (hold:=[]) V Tryz.func25 t rfl ?_;apply rn;simp[mS];refine bI.intro λq hq=>?_
     simp
     change aa _ _ _ _ _ _ _ _ _
     refine aa.runN lay [] 1 ?_;simp
     change aa _ _ _ _ _ _ _ _ _
     refine aa.bt 8 (b:=q) (kD (ra,rb)) (ab.ai _ _ _) (by simp) rfl ?_
     rw[fh hq];refine aa.beginRound t rfl ?_;have cl:∀x,(f.set l x) c=some (.cells [int (iT w k+S)]):=λx=>(ab.ah _ _ (za lc)).trans u
     apply rn;simp[cl,U];refine⟨by omega,by omega,by omega,?_⟩
     refine⟨rfl,rfl,_,(ab.ah _ _ lc).trans (ab.ai _ _ _),?_⟩
     have N:∀X Y Z d x,d≠l->d≠c->f d=some x->(((f.set l X).set c Y).set l Z) d=some x:=λX Y Z d x g p h=>by rw[ab.ah _ _ g,ab.ah _ _ p,ab.ah _ _ g];exact h
     refine ad _ ⟨T.mono λd x hd _ p h _=>N _ _ _ d x (λe=>by rw[e,t]at hd;exact h _ (aag hd).symm) (λe=>by rw[e,u]at hd;exact p _ (aag hd).symm) hd,ab.ai _ _ _,(ab.ah _ _ (za lc)).trans ((ab.ai _ _ _).trans (by grind)),λd x g p h=>?_⟩
     have dl:d≠l:=λe=>by rw[e,ab.ah _ _ (za B),R]at g;cases g
     exact N _ _ _ d x dl h (D d x g p h)
   . have O:∀d x,a d=some x->((a.set r (.raw (.deferred (some [])))).set l (.loop al)) d=some x:=λd x hd=>by
      have n1:d≠l:=λe=>by grind
      have n2:d≠r:=λe=>by grind
      rw[ab.ah _ _ n1,ab.ah _ _ n2];exact hd
     refine⟨hB.mono λd x hd _ _ _ _=>O d x hd,ab.ai _ _ _,(O _ _ G).trans (by simp[ta]),λd x g _ _=>?_⟩
     exact(ab.ah _ _ λe=>by rw[e,ab.ah _ _ (za B),R]at g;cases g).trans g
   . rintro f ⟨T,t,u,D⟩
     rw[ZY,<-a7]at u;subst L;refine⟨_,t,by simp,rfl,?_⟩
     apply rn;simp[vE];have n:∀d x,d≠l->f d=some x->(f.del l) d=some x:=λd x g p=>by simp only[ab.del,g,Rp];exact p
     have hold:∀d x,a d=some x->d≠mb->d≠c->(f.del l) d=some x:=λd x g p h=>n d x (λe=>by grind) (D d x ((ab.ah _ _ λe=>by grind).trans g) p h)
     refine⟨by omega,ih _ (by omega) ⟨_,_,r::ds,rfl,by simp[e1,e4,U,yO],T.mono λd x hd _ _ h _=>n d x (λe=>by rw[e,t]at hd;exact h _ (aag hd).symm) hd,n _ _ (za lc) u,aaL.2 ⟨λq=>?_,H⟩,λd hd=>?_,λd x hd hm=>?_⟩⟩
     . grind
     . rcases aae.1 hd with rfl|hd
       . exact⟨n _ _ B (D _ _ (ab.ai _ _ _) rm rc),W⟩
       . obtain⟨q1,q2⟩:=z d hd
         exact⟨hold d _ q1 (F d q2) (λe=>by grind),q2⟩
     . exact hold d x (A d x hd hm) hm (λe=>by grind)
 . have ek:k=w.fair.aD.length:=by omega
   subst ek;refine Av lay ds _ H (λr Q=>(z r Q).1) λa8 h=>⟨[int (iT w w.fair.aD.length),int 0],by simp[eH],?_⟩
   refine .less (λd x hd=>?_) (.done hK)
   have q1:=v.less A d x hd;rw[h d λq=>?_]
   . exact q1
   . have:=(z d q).2
     have h0:=v.less (.refl mb o) d x hd
     grind
theorem BX{a b}(t:a.length<1152921504606846976)(hb:b.length<1152921504606846976)(h:KF (.val (bool (decide (a=b)))) σ):az prog m 47 [ints a,ints b] σ KF:=by
 refine fs Wn Tryz.func47 rfl (by kernel_rfl) ?_;simp[Tryz.f47];apply aH.intro<;>intro d<;>simp at d<;>simp[d]
 . have:a≠b:=λe=>d (by rw[e])
   simp[this]at h;exact .done h
 refine aa.loop a.length (λk s=>∃env,s=⟨env,σ,[],.no⟩/\env 0=ints a/\env 1=ints b/\env 12=int a.length/\env 13=int k/\a.take k=b.take k) ⟨_,rfl,by simp[d]⟩ ?_;rintro u k _ v ⟨env,rfl,l,n,eZ,c,f⟩ p;have r:a.length=b.length:=by omega
 apply rn;simp[eZ,c];apply aH.intro<;>intro g<;>simp at g<;>simp[l,n,c,g]
 . have o:k<b.length:=by omega
   simp[o];apply rn;simp;by_cases i:a[k]=b[k]
   . have q:(a[k]!=b[k])=false:=by simp[i]
     simp[c,q];refine⟨by omega,p _ (by omega) ⟨_,rfl,by simp[l],by simp[n],by simp[eZ],by simp,?_⟩⟩;rw[zD g,zD o,f,i]
   . have q:(a[k] !=b[k])=true:=by simp[i]
     have j:a≠b:=λe=>by simp_all
     simp[j]at h;simp[q];exact .done h
 . have ek:k=a.length:=by omega
   subst ek;rw[ZY,r,ZY]at f;simp[f]at h;exact .done h
def foundAt(w:iw)(c:Int)(h i:Nat):Prop:=jI w h i c=1/\∀a b:Nat,(a<h\/a=h/\b<i)->b<w.fair.aD.length->jI w a b c≠1
theorem JA(z:m.solo=true){w}(F:w.rH)(A:w.Open){c}(G:0<=c/\c<3)(H:fE w [] [] [c]=0)(I:∀h i ,h<73->i<w.fair.aD.length->foundAt w c h i->KF (.val (.cu [int h,int i,int 0])) σ)
 (J:(∀e b:Nat,e<73->b<w.fair.aD.length->jI w e b c≠1)->KF (.val (.cu [int 0,int 0,int 11])) σ):az prog m 31 [dz w,int c] σ KF:=by
 have K:Wl [dz w,oY,oY,.sl 1 [int c] .exact] [dz w,ints [],ints [],ints [c]]:=SJ (.refl _) (gn 1) (gn 1) (ik 1 _ _);have S:=A.tZ.1;refine fs [] Tryz.func31 rfl (by kernel_rfl) ?_;simp[Tryz.f31];refine bU Tryz.func41 rfl rfl K (nF z F (by simp) (λq=>absurd H q) λq g fb mb u=>?_);apply rn;simp;refine aa.loop 73 (λk s=>∃env a,s=⟨env,a,[],.no⟩/\(env 1=int c/\env 2=.cp (dz w) 0/\env 9=.fn (.func 67) [uq fb mb w 0] []/\env 24=int k)/\eY w mb a/\fF mb g a/\∀e b:Nat,e<k->b<w.fair.aD.length->jI w e b c≠1) ⟨_,_,rfl,by simp,u.Ar,.refl mb g,λe b q=>absurd q (Nat.not_lt_zero _)⟩ ?_;rintro T k _ L ⟨env,a,rfl,⟨n,o,p,HP⟩,t,d,v⟩ M;apply rn;simp[HP];apply aH.intro<;>intro B<;>simp at B<;>simp[o,HP,B]
 . refine aa.loop w.fair.aD.length (λj s=>∃env a,s=⟨env,a,[],.no⟩/\(env 1=int c/\env 2=.cp (dz w) 0/\env 9=.fn (.func 67) [uq fb mb w 0] []/\env 24=int k/\env 10=int k/\env 30=int w.fair.aD.length/\env 31=int j)/\eY w mb a/\fF mb g a/\∀b:Nat,b<j->jI w k b c≠1) ⟨_,_,rfl,by simp[n,o,p,HP],t,d,λb q=>absurd q (Nat.not_lt_zero _)⟩ ?_
   rintro U j _ V ⟨env,a,rfl,⟨n,o,p,HP,cd,r,l⟩,t,d,C⟩ x;apply rn;simp[r,l];apply aH.intro<;>intro D<;>simp at D<;>simp[n,p,HP,cd,l,D]
   . refine dY Tryz.func67 rfl rfl rfl (Ec z A (by omega) G t λy N O=>?_)
     have f:=d.trans O;by_cases E:jI w k j c=1
     . rw[show yq (jI w k j c)=.lT 125 (.agg [])by rw[E];rfl]
       apply rn;simp[cd];refine .less (u.less f) (.done (I k j (by omega) (by omega) ⟨E,λe b q P=>?_⟩))
       grind
     . have Q:Aq (jI w k j c)≠125:=by unfold Aq;grind
       apply rn;simp[l,Q];refine⟨by omega,x _ (by omega) ⟨_,y,rfl,(by simp[n,o,p,HP,cd,r]),N,f,λb q=>?_⟩⟩
       grind
   . have R:j=w.fair.aD.length:=by omega
     subst R;refine⟨by omega,M _ (by omega) ⟨_,a,rfl,(by simp[n,o,p]),t,d,λe b q P=>?_⟩⟩
     grind
 . have ek:k=73:=by omega
   subst ek;exact .less (u.less d) (.done (J v))
theorem Aw  w   h :(lS w h).length<=w.fair.aD.length:=by
 unfold lS
 grind
def iw.only(w:iw)(l:acy):iw:={w with aB:=l.filterMap λc=>w.aB[c.toNat]?}
abbrev yu(w:iw)(a:AV):acE:=[iZ w.fair.aD,rows w.fair.roads,int w.fair.aP,int w.fair.dH,int w.fair.cL,int w.fair.aW,int w.aS,uk w.ways,a]
theorem ND  w   a b :(yu w a).set 8 b=yu w b:=rfl
theorem JB{w wb a}(b:σ wb=some (.cells (yu w a)))(h:KF (.val (.cu [])) (σ.set wb (.cells (DV w)))):az prog m 88 [.cp (eQ w.aB) 0,.cp (.ref wb 0) 0] σ KF:=by
 refine fs [] Tryz.func88 rfl (by kernel_rfl) ?_;simp[Tryz.f88];simp[b];exact .done h
namespace CW
abbrev Wz:acn:=[⟨7,.take [0,1,2,3,5,6,7,8,11,12] false (.both 4 (.one 9 (.one 10 (.one 13 (.done)))) (.one 9 (.take [4] true (.one 10 (.one 13 (.done))))))⟩]
abbrev WG:acn:=[⟨0,.take [3] false (.one 0 (.one 1 (.one 2 (.one 4 (.one 5 (.done))))))⟩]
theorem NF{w wb l}(L:∀c∈l,0<=c/\c<w.aB.length)(R:l.length<=1000){F r}(I:acC)(B:σ wb=some (.cells (DV w)))
 (M:∀a σ1 K,Tok (σ.del wb) σ1 a 8 ((w.only l).aB.map gg)->σ1 wb=some (.cells (yu w a))->(∀σ2,σ2 wb=some (.cells (yu w a))->I σ2->K (.val (.cu [])) σ2)->bY prog m (.fn F [] r) [] σ1 K)
 (h:∀σ2,I σ2->KF (.val (.cu [])) (σ2.set wb (.cells (DV w)))):az prog m 45 [.ref wb 0,ints l,.fn F [] r] σ KF:=by
 refine az.Fi lay [] Wz 12 3 Tryz.func45 rfl rfl (by rfl) (by kernel_rfl) ?_
 simp[Tryz.f45,B];refine bI.intro λC t=>?_
 have S:wb≠C:=λe=>by simp_all
 simp
 change aa _ _ _ _ _ _ _ _ _
 refine aa.bt 6 (b:=C) (eQ w.aB) (ab.ai _ _ _) (by simp) rfl ?_
 rw[fh t];apply rn;simp;refine aa.defer rfl rfl rfl rfl (by simp) rfl ?_
 apply rn;simp[B];refine aa.loop l.length (λk s=>∃env d a,s=⟨env,d,[.call (.func 88) [.cp (eQ w.aB) 0,.cp (.ref wb 0) 0] []],.no⟩/\(env 2=.fn F [] r/\env 3=.cp (.ref wb 0) 0/\env 6=.cp (eQ w.aB) 0/\env 17=ints l/\env 18=int l.length/\env 19=int k)/\Tok (σ.del wb) d a 8 ((w.only (l.take k)).aB.map gg)/\d wb=some (.cells (yu w a))) ⟨_,_,.lit (.slice none 0 0),rfl,by simp,⟨?_,.inl ⟨rfl,by simp[iw.only]⟩⟩,ab.ai _ _ _⟩ ?_
 . intro c x u
   have D:c≠wb:=λe=>by subst e;simp[ab.del]at u
   simp only[ab.del,D,Rp]at u;rw[ab.ah _ _ D];exact u
 rintro T k _ U ⟨env,d,a,rfl,⟨E,G,H,i,th,Oq⟩,j,g⟩ N
 apply rn;simp[th,Oq];apply aH.intro<;>intro p<;>simp at p<;>simp[E,G,H,i,Oq,p]
 . have O:=L l[k] (zA p)
   have v:((w.only (l.take k)).aB.map gg).length<=k:=by
    rw[ZZ];refine ZV (List.length_filterMap_le _ _) ?_
    grind
   have y:(w.only (l.take (k+1))).aB.map gg=(w.only (l.take k)).aB.map gg++[gg w.aB[l[k].toNat]]:=by simp only[iw.only];rw[zD p,List.filterMap_append,aab];simp[KD (show l[k].toNat<w.aB.length by omega)]
   have z:bp a≠some wb:=λe=>by obtain⟨_,x,q⟩:=j.aR e;simp_all
   simp[g,O];refine⟨?_,?_⟩
   all_goals
    refine aN lay rfl rfl rfl Iv rfl Iv rfl Rh (by decide) (by simp only[ZZ,aao,aaN]at v ⊢;omega) (σ0:=d.off a) (es:=(w.only (l.take k)).aB.map gg) (xs:=[gg w.aB[l[k].toNat]]) (by simpa using j.here.1) (.inr ⟨_,rfl⟩) λJ σ2 f=>?_
    rw[<-y]at f;have n:σ2 wb=some (.cells (yu w a)):=f.1 _ _ ((ab.du z).trans g);have A:=f.cells;have o:bp J≠some wb:=λe=>by obtain⟨_,x,q⟩:=f.aR e;rw[n]at q;cases q
    apply pg;simp[n,A];apply rn;simp[Oq];refine⟨by omega,N _ (by omega) ⟨_,_,J,rfl,by simp[E,G,H,i,th],(f.base j.here.2).beside (by simp[ab.del]) o,ab.ai _ _ _⟩⟩
 . have ek:k=l.length:=by omega
   subst ek;rw[ZY]at j;refine M a d _ j g λσ2 P Q=>?_
   apply rn;simp;refine qF.func Tryz.func88 rfl rfl (JB P ?_);exact⟨[],rfl,.done (h σ2 Q)⟩
theorem U4{w l a}(d:a.W (eQ (w.only l).aB)):(AV.agg (yu w a)).W (dz (w.only l)):=lR rfl λi x y c b=>by
 change (yu w (eQ (w.only l).aB))[i]?=some y at b;rw[<-ND w a]at b;by_cases e:i=8
 . simp_all
 . rw[aaF (za e),c]at b
   cases b;exact .refl _
theorem BY(f:m.solo=true){w wb c a l e x}(g:(w.only l).Open)(d:w.ways.length<1152921504606846976/\(∀x∈w.ways,sW w.aS x)/\1<=w.aS/\w.aS<=4)(k:yn (w.only l))(t:e.length<1000000)(n:σ wb=some (.cells (yu w a)))(o:a.W (eQ (w.only l).aB))(p:σ c=some (.cells [x]))
 (h:∀σ2,σ.Le σ2->KF (.val (.cu [])) (σ2.set c (.cells [bool (decide (lS (w.only l) 72=e))]))):az prog m 46 [.ref wb 0,.cp (ints e) 0,.ref c 0] σ KF:=by
 have u:=g.tZ.1;have i:=Aw (w.only l) 72;have q:Wl [.agg (yu w a)] [dz (w.only l)]:=.cons (U4 o) .nil;refine fs WG Tryz.func46 rfl (by kernel_rfl) ?_;simp[Tryz.f46];simp[n];refine bU Tryz.func48 rfl rfl q (sY f d.1 d.2.1 d.2.2 k λr fb mb j=>?_);apply pg;simp;refine cf Tryz.func42 rfl (ys f g j.Ar λσ2 v s=>?_);apply pg;simp;have b:=j.less s;refine cf Tryz.func47 rfl (BX (by omega) (by omega) ?_);apply pg;simp[b _ _ p];apply rn;simp;exact .done (h σ2 b)
end CW
theorem Ej(v:m.solo=true){w wb l e}(y:(w.only l).Open)(z:w.ways.length<1152921504606846976/\(∀x∈w.ways,sW w.aS x)/\1<=w.aS/\w.aS<=4)(A:yn (w.only l))(B:e.length<1000000)(k:∀c∈l,0<=c/\c<w.aB.length)(C:l.length<=1000)(D:σ wb=some (.cells (DV w)))
 (h:KF (.val (bool (decide (lS (w.only l) 72=e)))) σ):az prog m 44 [ints l,.ref wb 0,.cp (ints e) 0] σ KF:=by
 refine az.start lay [5] [] 3 Tryz.func44 rfl rfl (by rfl) (by kernel_rfl) ?_;simp[Tryz.f44];refine bI.intro λf E=>?_
 have j:wb≠f:=λe=>by simp_all
 simp;have o:(σ.set f (.cells [bool false])) wb=some (.cells (DV w)):=(ab.ah _ _ j).trans D;refine cf Tryz.func45 rfl (CW.NF k C (λb=>∃d:ab,(∀c x,σ c=some x->c≠wb->d c=some x)/\b=d.set f (.cells [bool (decide (lS (w.only l) 72=e))])) o (λa p K r g F=>?_) ?_)
 . have s:p f=some (.cells [bool false]):=r.1 _ _ (by simp[ab.del,za j])
   refine dY Tryz.func46 rfl rfl rfl (CW.BY v y z A B g r.W s λb i=>?_);refine F _ ((ab.ah _ _ j).trans (i _ _ g)) ⟨b,λc x u n=>i _ _ (r.1 _ _ ?_),rfl⟩;have t:c≠f:=λe=>by simp_all
   simp only[ab.del,n,Rp];exact(ab.ah _ _ t).trans u
 . rintro b ⟨d,q,rfl⟩
   have G:((d.set f (.cells [bool (decide (lS (w.only l) 72=e))])).set wb (.cells (DV w))) f=some (.cells [bool (decide (lS (w.only l) 72=e))]):=(ab.ah _ _ (za j)).trans (ab.ai _ _ _);refine aa.run lay [5] ?_;simp[G];refine .less (λc x u=>?_) (.done h);have t:c≠f:=λe=>by simp_all
   by_cases e:c=wb
   . simp_all
   . rw[ab.ah _ _ e,ab.ah _ _ t];simp_all
def cW(x:acy):Nat:=match x.getLast? with|none=>0|some v=>v.toNat+1
def nxt(n:Nat)(x:acy):aca:=(List.range' (cW x) (n-cW x)).map λ(j:Nat)=>x++[(j:Int)]
def vA(n:Nat):Nat->aca
 |0=>[[]]
 |k+1=>(vA n k).flatMap (nxt n)
theorem NG  n :∀k,∀x∈vA n k,x.length=k/\(∀c∈x,0<=c/\c<n)/\cW x<=n
 | 0,x,a=>by
   have:x=[]:=by simpa[vA]using a
   subst this;simp[cW]
 | k+1,x,a=>by
   simp only[vA,abc,nxt,aad,List.mem_range'_1]at a;obtain⟨y,b,j,e,rfl⟩:=a;obtain⟨d,f,g⟩:=NG n k y b;refine⟨by simp[d],λc h=>?_,?_⟩
   . grind
   . simp[cW];omega
theorem yv  n :∀M:aca,(M.flatMap (nxt n)).length<=M.length*n
 |[]=>by simp
 | x::M=>by
   have:=yv n M;rw[abp,ZU,aao,abb];have:(nxt n x).length<=n:=by simp[nxt]
   omega
theorem Ho  n :∀k,(vA n k).length<=n ^ k
 |0=>by simp[vA]
 |k+1=>by have a:=yv n (vA n k);have b:=Ho n k;rw[Nat.pow_succ];exact ZV a (aaG n b)
theorem F7{x}(h:0<x.length)(a:∀c∈x,0<=c):x[x.length-1]?=some ((cW x:Int)-1):=by
 have b:=a x[x.length-1] (zA _);unfold cW
 grind
def F8(n:Nat)(G:acy->Bool):acy:=(((List.range (n+1)).flatMap (vA n)).find? G).getD (vS n)
theorem PA{n k i G}(a:k<n+1)  hi  (b:∀k'<k,∀x∈vA n k',G x=false) (c:∀x∈(vA n k).take i,G x=false) (h:G (vA n k)[i]=true):F8 n G=(vA n k)[i]:=by
 unfold F8
 have e:List.range (n+1)=List.range k++k::List.range' (k+1) (n-k):=by rw[List.range_eq_range',List.range_eq_range',show n+1=k+(n-k+1)by omega,<-List.range'_append_1,aaW];rfl
 have d:((List.range k).flatMap (vA n)).find? G=none:=List.find?_eq_none.2 λx f=>by grind
 have g:(vA n k).find? G=some (vA n k)[i]:=by
  have j:vA n k=(vA n k).take i++(vA n k)[i]::(vA n k).drop (i+1):=by simp_all
  grind
 grind
theorem PB{n G}(a:∀k'<n+1,∀x∈vA n k',G x=false):F8 n G=vS n:=by
 unfold F8;rw[List.find?_eq_none.2 λx b=>by grind];rfl
abbrev mO(M:aca):acE:=M.map ints
theorem bY.zu{P m b args args' σ KF}(h:bY P m b args' σ KF)(c:Wl args args'):bY P m b args σ KF:=λQ k O cf a fr cs d e f g i j l n=>h Q k O cf a fr cs d (e.zu c) f g i j l n
theorem JC{n:Nat}(hn:n<=3){G f}(b0:f.cells=[f])(a7:f.flat=true)(hf:∀  l   σ'   K ,(∀c∈l,0<=c/\c<(n:Int))->l.length<=n->σ.Le σ'->K (.val (bool (G l))) σ'->bY prog m f [ints l] σ' K){xs:acy}(hx:xs.length=n)(a8:∀  j  (q:j<xs.length),xs[j]=j)(h:KF (.val (ints (F8 n G))) σ):az prog m 43 [.agg [f],ints xs] σ KF:=by
 refine fs [] Tryz.func43 rfl (by kernel_rfl) ?_
 simp[Tryz.f43];refine⟨a7,by omega,?_⟩
 refine aa.JM 5 (a':=.sl 1 (mO (vA n 0)) .any) ?_ ?_
 . change AV.W (.sl 1 [.nil] .exact) (.sl 1 [ints []] .any)
   exact Rc rfl (by simp) (by simp) λi a a' h1 h2=>by
    cases i with
    |zero=>cases h1;cases h2;exact gn 1
    |succ i=>simp at h1
 refine aa.loop (n+1) (λk s=>∃env σ',s=⟨env,σ',[],.no⟩/\(env 1=ints xs/\env 2=.cp (.agg [f]) 0/\env 5=.sl 1 (mO (vA n k)) .any/\env 17=int ((n:Int)+1)/\env 18=int k)/\σ.Le σ'/\∀k'<k,∀x∈vA n k',G x=false) ⟨_,_,rfl,by simp[hx],ab.le_refl _,by simp⟩ ?_
 rintro c0 k _ hk ⟨env,σ',rfl,⟨o,r,e5,g,th⟩,J,L⟩ ih
 have hM:=NG n k;obtain⟨M,B⟩:∃M,M=vA n k:=⟨_,rfl⟩;rw[<-B]at hM e5;apply rn;simp[g,th];apply aH.intro<;>intro g1<;>simp at g1<;>simp[o,e5,g1]
 . have b1:M.length<=27:=by
    rw[B];exact ZV (Ho n k) (ZV (Nat.pow_le_pow_left hn k) (Nat.pow_le_pow_right (n:=3) (by decide) (show k<=3 by omega)))
   refine aa.loop M.length (λi s=>∃env σ' a,s=⟨env,σ',[],.no⟩/\(env 1=ints xs/\env 2=.cp (.agg [f]) 0/\env 17=int ((n:Int)+1)/\env 18=int k/\env 20=.sl 1 (mO M) .any/\env 21=int M.length/\env 22=int i/\env 6=a)/\Tok σ σ' a 1 (mO ((M.take i).flatMap (nxt n)))/\∀x∈M.take i,G x=false) ⟨_,_,.nil,rfl,by simp[o,r,g,th],⟨J,.inl ⟨rfl,by simp⟩⟩,by simp⟩ ?_
   rintro c1 i _ hi ⟨env,σ',a,rfl,⟨o,r,g,th,yO,vE,vF,u⟩,Z,v⟩ a9
   apply rn;simp[vE,vF];apply aH.intro<;>intro N<;>simp at N<;>simp[th,yO,vF,u,N]
   . obtain ⟨ad,C,al⟩:=hM _ (zA N)
     have av:=yv n (M.take i);have aO:((M.take i).flatMap (nxt n)).length<=200:=ZV av (ZV (Nat.mul_le_mul (by rw[aaP];omega:(M.take i).length<=27) hn) (by decide))
     obtain⟨x,D⟩:∃x,x=M[i]:=⟨_,rfl⟩;rw[<-D]at ad C al;simp only[<-D];refine aa.loop x.length (λj s=>∃env t b,s=⟨env,t,[],.no⟩/\(env 1=ints xs/\env 2=.cp (.agg [f]) 0/\env 17=int ((n:Int)+1)/\env 18=int k/\env 20=.sl 1 (mO M) .any/\env 21=int M.length/\env 22=int i/\env 6=a/\env 8=ints x/\env 26=ints x/\env 27=int x.length/\env 28=int j/\env 9=b)/\Tok σ' t b 1 ((x.take j).map int)) ⟨_,_,.nil,rfl,by simp[o,r,g,th,yO,vE,vF,u],.nil σ' 1⟩ ?_
     rintro c2 j _ hj ⟨env,t,b,rfl,⟨o,r,g,th,yO,vE,vF,u,A,O,P,F,e9⟩,w⟩ ax
     apply rn;simp[P,F];apply aH.intro<;>intro g3<;>simp at g3<;>simp[o,r,O,F,e9,g3]
     . have g4:=C _ (zA g3)
       have g5:x[j].toNat<xs.length:=by omega
       have g6:(xs[x[j].toNat]:Int)=x[j]:=by rw[a8 _ g5];omega
       have g7:x[j]<(xs.length:Int):=by omega
       simp[g4,g7,g6];have H:(x.take (j+1)).map int=(x.take j).map int++[int x[j]]:=by rw[zD g3,aab];rfl
       refine aN lay rfl rfl rfl dG rfl dG rfl rA (by decide) (by simp only[ZZ,aaP,aao,aaN];omega) (σ0:=σ') (es:=(x.take j).map int) (xs:=[int x[j]]) (by simpa using w) (.inr ⟨_,rfl⟩) λa' p Q=>?_
       rw[<-H]at Q;apply rn;simp[F];refine⟨by omega,ax _ (by omega) ⟨_,_,a',rfl,by simp[o,r,g,th,yO,vE,vF,u,A,O,P],Q⟩⟩
     . have ej:j=x.length:=by omega
       subst ej;rw[ZY]at w;have R:=Z.up w.1;have E:=R.1;refine bY.zu (hf x t _ C (by omega) E ?_) (.cons w.W .nil)
       have S:G x=true->ints (F8 n G)=ints x:=λq=>by
        rw[PA (i:=i) (by omega) (by grind) L (by rw[<-B];exact v) (by grind)]
        grind
       cases hG:G x with
       |true=>rw[S hG]at h;apply rn;simp[e9,aH];refine .na w.W (.less E (.done h))
       | false=>
         by_cases gl:0<x.length
         have ay:=F7 gl λc hc=>(C c hc).1
         have gx:0<=(x.length:Int)-1/\(x.length:Int)-1<x.length/\1<=(x.length:Int):=by omega
         apply rn;simp[A,aH,gl,gx,ay];refine⟨by omega,by omega,?_⟩
         refine aa.eu (λe s=>(e 1=ints xs/\e 2=.cp (.agg [f]) 0/\e 17=int ((n:Int)+1)/\e 18=int k/\e 20=.sl 1 (mO M) .any/\e 21=int M.length/\e 22=int i/\e 6=a/\e 8=ints x/\e 13=int (cW x))/\s=t) ⟨by simp[o,r,g,th,yO,vE,vF,u,A],rfl⟩ ?_
         rotate_left
         have aC:cW x=0:=by
          have:x=[]:=abM.1 (by omega)
          subst this;rfl
         apply rn;simp[A,aH,gl];refine aa.eu (λe s=>(e 1=ints xs/\e 2=.cp (.agg [f]) 0/\e 17=int ((n:Int)+1)/\e 18=int k/\e 20=.sl 1 (mO M) .any/\e 21=int M.length/\e 22=int i/\e 6=a/\e 8=ints x/\e 13=int (cW x))/\s=t) ⟨by simp[o,r,g,th,yO,vE,vF,u,A,aC],rfl⟩ ?_
         rotate_left
         all_goals
          rintro env _ ⟨⟨o,r,g,th,yO,vE,vF,u,A,z⟩,rfl⟩
          refine aa.loop (n-cW x) (λd s=>∃env p a',s=⟨env,p,[],.no⟩/\(env 1=ints xs/\env 2=.cp (.agg [f]) 0/\env 17=int ((n:Int)+1)/\env 18=int k/\env 20=.sl 1 (mO M) .any/\env 21=int M.length/\env 22=int i/\env 6=a'/\env 8=ints x/\env 13=int ((cW x:Int)+d))/\Tok σ p a' 1 (mO ((M.take i).flatMap (nxt n)++(List.range' (cW x) d).map λ(j:Nat)=>x++[(j:Int)]))) ⟨_,_,a,rfl,by simp[o,r,g,th,yO,vE,vF,u,A,z],by simpa using R⟩ ?_
          rintro c3 d _ hd ⟨env,p,a',rfl,⟨o,r,g,th,yO,vE,vF,u,A,z⟩,T⟩ aE
          apply rn;simp[o,z];apply aH.intro<;>intro g6<;>simp at g6<;>simp[vF,u,A,g6]
          . refine uG lay rfl dG rfl rA (es:=x.map int) (sp:=.any) (l:=0) (h:=x.length) (by simp) (λcap U=>⟨⟨⟨.i64,by simp⟩,by simpa using U⟩,⟨⟨.i64,by simp⟩,ZX _⟩,rfl⟩) (by simp) λb2 V=>?_
            have X:Tok p p b2 1 (x.map int):=by
             rw[List.drop_zero,aaH (by simp)]at V
             rcases V with rfl|⟨e,rfl⟩
             . exact .exact _ _ _
             . rw[e];exact .nil _ _
            apply rn;simp[z];refine aN lay rfl rfl rfl dG rfl dG rfl rA (by decide) (by simp only[ZZ,aao,aaN];omega) (σ0:=p) (es:=x.map int) (xs:=[int ((cW x:Int)+d)]) (by simpa using X) (.inr ⟨_,rfl⟩) λa2 b3 I=>?_
            have H:x.map int++[int ((cW x:Int)+d)]=(x++[((cW x+d:Nat):Int)]).map int:=by rw[aab,Int.natCast_add];rfl
            rw[H]at I;refine aa.JM 71 (a':=ints (x++[((cW x+d:Nat):Int)])) (show AV.W a2 _ from I.W) ?_
            apply rn;simp
            have aL:mO ((M.take i).flatMap (nxt n)++(List.range' (cW x) (d+1)).map λ(j:Nat)=>x++[(j:Int)])=mO ((M.take i).flatMap (nxt n)++(List.range' (cW x) d).map λ(j:Nat)=>x++[(j:Int)])++[ints (x++[((cW x+d:Nat):Int)])]:=by rw[List.range'_1_concat,aab,<-List.append_assoc,mO,aab];rfl
            refine aN lay rfl rfl rfl oX rfl oX rfl dG (by decide) (by simp only[ZZ,ZU,List.length_range',aao,aaN];omega) (σ0:=σ) (es:=mO ((M.take i).flatMap (nxt n)++(List.range' (cW x) d).map λ(j:Nat)=>x++[(j:Int)])) (xs:=[ints (x++[((cW x+d:Nat):Int)])]) (by simpa using T.up I.1) (.inr ⟨_,rfl⟩) λa3 b4 Y=>?_
            rw[<-aL]at Y;apply rn;simp[z];refine⟨by omega,aE _ (by omega) ⟨_,_,a3,rfl,by simp[o,r,g,th,yO,vE,vF,A,Int.add_assoc],Y⟩⟩
          . have ed:d=n-cW x:=by omega
            subst ed;refine⟨by omega,a9 _ (by omega) ⟨_,_,a',rfl,by simp[o,r,g,th,yO,vE,u],?_,λy hy=>?_⟩⟩
            . rw[zD N,abe,List.flatMap_singleton,<-D]
              exact T
            . rw[zD N,<-D]at hy
              rcases ZQ.1 hy with hy|hy
              . exact v y hy
              . rw[lb.1 hy];exact hG
   . have ei:i=M.length:=by omega
     subst ei;rw[ZY]at Z v;refine⟨by omega,?_⟩
     refine aa.JM 5 (a':=.sl 1 (mO (vA n (k+1))) .any) ?_ (ih _ (by omega) ⟨_,_,rfl,by simp[o,r,g],Z.1,λk' q x hx=>?_⟩)
     . change AV.W a _
       have:=Z.W;rw[B]at this;exact this
     grind
 . have ek:k=n+1:=by omega
   subst ek;have e:xs=vS n:=List.ext_getElem (by grind) λj q1 q2=>by grind
   rw[PB L,<-e]at h;exact .less J (.done h)
def Hp(w:iw):acy:=F8 w.aB.length λl=>decide (lS (w.only l) 72=lS w 72)
theorem JD{w:iw}(a:w.Valid){l}(b:l.length<=w.aB.length):yn (w.only l):=by
 refine⟨ZV (List.length_filterMap_le _ _) (ZV b a.Jt.1),λc d=>a.Jt.2 c ?_⟩;obtain⟨i,_,h⟩:=List.mem_filterMap.1 d
 grind
theorem F9(g:m.solo=true){w}(h:w.rH)(o:w.Open)(hSub:∀l ,(∀c∈l,0<=c/\c<(w.aB.length:Int))->l.length<=w.aB.length->(w.only l).Open)(p:fE w [] [] []=0)(v:KF (.val (.cu [ints (Hp w),int 0])) σ):az prog m 12 [dz w] σ KF:=by
 have y:Wl [dz w,oY,oY,oY] [dz w,ints [],ints [],ints []]:=SJ (.refl _) (gn 1) (gn 1) (gn 1);have z:=o.tZ;have r:=Aw w 72;refine az.start lay [1] [] 1 Tryz.func12 rfl rfl (by rfl) (by kernel_rfl) ?_;simp[Tryz.f12];refine bI.intro λwb A=>?_
 simp;refine bU Tryz.func41 rfl rfl y (nF g h (by simp) (λq=>absurd p q) λq B fb mb s=>?_);refine aa.run lay [1] ?_;simp;refine cf Tryz.func42 rfl (ys g o s.Ar λi I C=>?_);have a:=s.less C;refine aa.runN lay [1] 3 ?_;simp;refine bI.intro λD k=>?_
 simp;change aa _ _ _ _ _ _ _ _ _;refine aa.bt 6 (b:=D) (ints (lS w 72)) (ab.ai _ _ _) (by simp) rfl ?_;rw[fh k];have d:i wb=some (.cells (DV w)):=a _ _ (ab.ai _ _ _);refine aa.run lay [1] ?_;simp[d];refine cf Tryz.func49 rfl (uo (by omega) ?_);refine aa.run lay [1] ?_;simp;have n:w.Valid:=iw.valid h (by unfold fE at p;omega);refine cf Tryz.func43 rfl (JC z.2 rfl (by simp) (G:=λl=>decide (lS (w.only l) 72=lS w 72)) (λl E K t u f F=>dY Tryz.func44 rfl rfl rfl (Ej g (hSub l t u) ⟨h.ways,n.cT,n.aS⟩ (JD n u) (by omega) t (by omega) (f _ _ d) F)) (Py _) (λj q=>by grind) ?_);refine aa.run lay [1] ?_;simp;exact .less (λc x H=>a _ _ ((ab.ah _ _ λe=>by simp_all).trans H)) (.done v)
theorem Ek{P Q:Prop}(f:P->Q)(p:P):Q:=f p
theorem nG{a b c d e l}(h:KF (.val (bn ⟨a,b,c,l,d,e⟩)) σ):az prog m 37 [int a,int b,int c,int d,int e,ints l] σ KF:=by
 refine fs [] Tryz.func37 rfl (by kernel_rfl) ?_;simp[Tryz.f37];refine bI.intro λk f=>?_
 simp;exact .less (by repeat (first|exact ab.le_refl _|assumption|refine ab.ez ?_ (by assumption)|refine ab.lx ?_ (by assumption))) (.done h)
theorem BZ{a b c d e}(h:KF (.val (cU ⟨a,b,c,d,e⟩)) σ):az prog m 68 [int a,int b,int c,int d,int e] σ KF:=by
 refine fs [] Tryz.func68 rfl (by kernel_rfl) ?_;simp[Tryz.f68];refine bI.intro λk f=>?_
 simp[aG];exact .less (by repeat (first|exact ab.le_refl _|assumption|refine ab.ez ?_ (by assumption)|refine ab.lx ?_ (by assumption))) (.done h)
def NH:List xO:=[⟨10,0,1,[0],15,0⟩,⟨12,0,1,[],16,1⟩,⟨14,0,2,[],14,0⟩,⟨16,0,1,[],14,0⟩]
def yw:acB:=[⟨0,1,4,6,20⟩,⟨1,2,1,0,72⟩,⟨2,0,2,0,72⟩]
def U5:Fr:=⟨NH,[[0,2],[2,0]],1,2,3,3⟩
def U6:N5:=⟨⟨4,1,1,[0],15,0⟩,1,5⟩
def lW(n:Nat):iw:=⟨U5,3,yw.take n,[U6]⟩
theorem Ax{n}(z:n<=3)(h:KF (.val (dz (lW n))) σ):az prog m 32 [int n] σ KF:=by
 have v:∀a b c d e:Int,∀l:acy,Wl [int a,int b,int c,int d,int e,.sl 1 (l.map int) .exact] [int a,int b,int c,int d,int e,ints l]:=λa b c d e l=>.cons (.refl _) (.cons (.refl _) (.cons (.refl _) (.cons (.refl _) (.cons (.refl _) (.cons (ik 1 _ .exact) .nil)))))
 have r:∀a b c d e:Int,Wl [int a,int b,int c,int d,int e,.lit (.slice none 0 0)] [int a,int b,int c,int d,int e,ints []]:=λa b c d e=>.cons (.refl _) (.cons (.refl _) (.cons (.refl _) (.cons (.refl _) (.cons (.refl _) (.cons (gn 1) .nil)))))
 refine fs Wj Tryz.func32 rfl (by kernel_rfl) ?_
 simp[Tryz.f32];refine bI.intro λwb t=>?_
 simp;refine bU Tryz.func37 rfl rfl (v 10 0 1 15 0 [0]) (nG ?_);apply rn;simp;refine bU Tryz.func37 rfl rfl (r 12 0 1 16 1) (nG ?_);apply rn;simp;refine bU Tryz.func37 rfl rfl (r 14 0 2 14 0) (nG ?_);apply rn;simp;refine bU Tryz.func37 rfl rfl (r 16 0 1 14 0) (nG ?_);refine aa.runN lay [] 9 ?_;simp[aG];refine bI.intro λfb j=>?_
 obtain⟨A,B,w⟩:=ab.aM j;simp[aG]
 change aa _ _ _ _ _ _ _ _ _
 refine aa.bt 3 (b:=fb) (.agg [.sl 6 (NH.map bn) .exact,.sl 1 [.sl 1 [int 0,int 2] .exact,.sl 1 [int 2,int 0] .exact] .exact,int 1,int 2,int 3,int 3]) (ab.ai _ _ _) (by simp) rfl ?_
 rw[fh j];apply rn;simp;refine cf Tryz.func68 rfl (BZ ?_);apply rn;simp;refine cf Tryz.func68 rfl (BZ ?_);apply rn;simp;refine cf Tryz.func68 rfl (BZ ?_);apply rn;simp;obtain⟨L,x⟩:∃L,L=(yw.take n).map cU:=⟨_,rfl⟩;have u:((yw.map cU).drop 0).take (n-0)=L:=by simp_all
 have Wu:(σ.set wb (.cells [.nil,.nil,int 0,int 0,int 0,int 0,int 0,.nil,.nil])) wb=some (.cells [.nil,.nil,int 0,int 0,int 0,int 0,int 0,.nil,.nil]):=ab.ai _ _ _;have k:n<=(yw.map cU).length:=by simp[yw];omega
 apply Ek
 . intro key
   repeat' first
    |refine⟨?_,?_⟩
    | (refine wG lay rfl Fu rfl Pb (es:=yw.map cU) (sp:=.exact) (l:=0) (h:=n) (by simp[yw]) (λcap o=>⟨rfl,⟨⟨.i64,by simp⟩,ZV k o⟩,rfl⟩) k ?_
       rw[u];apply pg;simp[aG])
    | (refine bU Tryz.func37 rfl rfl (v 4 1 1 15 0 [0]) (nG ?_)
       apply pg;simp[aG])
   all_goals
    refine aa.eu (λe s=>e 2=.ref wb 0/\s=σ.set wb (.cells [.sl 6 (NH.map bn) .exact,.sl 1 [.sl 1 [int 0,int 2] .exact,.sl 1 [int 2,int 0] .exact] .exact,int 1,int 2,int 3,int 3,int 3,.sl 5 L .any,.sl 8 [gg U6] .exact])) ⟨by simp,rfl⟩ ?_
    exact key
 rintro env _ ⟨y,rfl⟩
 apply rn;simp[y]
 have p:(AV.sl 1 [AV.sl 1 [int 0,int 2] .exact,.sl 1 [int 2,int 0] .exact] .exact).W (rows [[0,2],[2,0]]):=UX rfl (λa q=>by simp at q;rcases q with rfl|rfl<;>rfl) (λa q=>by simp at q;rcases q with rfl|rfl<;>rfl) (λi a a' f g=>by
  match i with
  |0=>simp at f g;subst f;subst g;exact ik 1 [int 0,int 2] .exact
  |1=>simp at f g;subst f;subst g;exact ik 1 [int 2,int 0] .exact
  |i+2=>simp at f)
 refine .less (ab.ez (ab.le_refl _) t) (.na (a':=dz (lW n)) (lR rfl λi a a' f g=>?_) (.done h))
 match i with
 |0=>cases f;cases g;exact ik 6 _ .exact
 |1=>cases f;cases g;exact p
 |2=>cases f;cases g;exact .refl _
 |3=>cases f;cases g;exact .refl _
 |4=>cases f;cases g;exact .refl _
 |5=>cases f;cases g;exact .refl _
 |6=>cases f;cases g;exact .refl _
 |7=>cases f;cases g;rw[x];exact .refl _
 |8=>cases f;cases g;exact ik 8 _ .exact
 |i+9=>cases f
