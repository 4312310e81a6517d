import Derived.Test.YtkcceaplmgdnfaaGreatDoorC19
set_option linter.all false
set_option maxHeartbeats 1000000
set_option maxRecDepth 4000
namespace Go.Proofs.YtkcceaplmgdnfaaGreatDoor
open Go.Proofs.Tryz (prog)
section
open Go.cG Go.Conc
theorem yQ{m:aj}{fb mb:Nat}{A:bH}{j:Nat}{w:bY}{c:Kg}{o p q:AV}{hole:adH}(B:∀i∈hole,9<=i)(C:A.fb=fb/\A.mb=mb/\A.fo=9/\A.nm=nn/\A.ng=ng/\A.dir=true)(hj:j<3)(r:∀x,A.GI x↔x=.map [])(D:w.ways.length<1152921504606846976)(s:∀x∈w.ways,uf w.bc x)(E:1<=w.bc/\w.bc<=4)(F:0<=c.town/\c.town<w.bc)(t:0<=c.hour/\c.hour<=72)
 (G:A.val j=.int .i64 ((ru w.ways w.bc.toNat c.town c.hour).getD 0 0)){body:Code}(hb:Tryz.f90.body=some body):
 af prog (iE prog A j) 90 25 none Vx [.code body] ⟨dw [.ref A.gb 0,.cp (Qs fb mb w o p q hole 0) 0,.cp (iy c) 0,.cp (int j) 0],jU A.fb,[],.told .deferred [cE prog] m⟩ (Sg prog A j Tryz.f90):=by
 obtain⟨rfl,rfl,a,e,H,d⟩:=C;simp only[Tryz.f90,kn]at hb;subst hb;apply rn;simp;refine af.defer rfl rfl rfl rfl (by simp) rfl ?_
 apply rn;simp;obtain⟨I,L,M,N,y⟩:=Cq (l:=w.ways) (n:=w.bc.toNat) (town:=c.town) (λx g=>(s x g).2.2.1) t
 rw[y]at G;refine cf Tryz.func92 rfl (GL B D s E F t λh k=>?_)
 have J:h A.fb=some .ig:=k _ _ (by simp[jU])
 rw[y];apply rn;simp;have cell:A.cell j=11+j:=by unfold bH.cell;rw[a]
 have z:=@F9 prog A j d;rw[a,e]at z;refine cf Tryz.func93 rfl (z (by rw[cell];simp<;>omega) J λx v g O=>?_)
 obtain rfl:=(r x).1 g;apply rn;simp;refine af.defer rfl rfl rfl rfl (by simp) rfl ?_
 have K:(j:Int)<3:=by omega
 have P:j<=2:=by omega
 refine af.runN lay [] 1 ?_;simp
 change af _ _ _ _ _ _ _ _ _
 refine af.draw lay (.take [0,1,2,3,4,5] false (.one 6 (.done))) rfl ?_;refine aM.take lay [] ?_;simp[BE,K];refine aM.one rfl (by kernel_rfl) rfl (by simp) ?_
 refine Jc lay (b:=A.fb) (off:=11+j) (u:=.int .i64 I) (v0:=v) (f:=A.own j v) rfl rD rfl ?_ (by simp) rfl (by simp) (by simp[bH.own,cell]) ?_
 . simp
   exact rf _ _ _ _
 . refine iX.done ?_
   apply rn;simp;exact⟨rfl,.inl rfl,⟨m,rfl⟩,Qs A.fb A.mb w o p q hole 9,_,.map [],by rw[a];exact rf _ _ _ _,by grind,aa.an _ _ _,by simp_all,(aa.ai _ _ (za A.d5)).trans (aa.an _ _ _),(r _).2 rfl,rfl⟩
end
section
open Go.cG Go.Conc
variable{m:Mo}{σ:aa}{KF:adl}
theorem Oc:mI prog nn:=⟨⟨_,_,Tryz.func93,rfl,rfl,rfl⟩,⟨_,_,Tryz.func94,rfl,rfl,rfl⟩⟩
def yR(w:bY):Prop:=w.aF.length<=3/\∀c∈w.aF,(0<=c.town/\c.town<w.bc)/\0<=c.hour/\c.hour<=72
def Rr(w:bY)(c:Kg):Int:=(ru w.ways w.bc.toNat c.town c.hour).getD 0 0
def cd(w:bY)(j:Nat):Int:=match w.aF[j]? with|some c=>Rr w c|none=>0
abbrev uw(fb mb:Nat)(w:bY)(o:Nat):AV:=Qs fb mb w (int (cd w 0)) (int (cd w 1)) (int (cd w 2)) [9,10] o
structure Ki(σ:aa)(fb mb:Nat)(w:bY)(σ':aa):Prop where
 f0:σ fb=none
 m0:σ mb=none
 ne:fb≠mb
 eq:σ'=(σ.set mb (ns (p9 .u8) [])).set fb (.part (bE 9))
def vX(n:Nat):adH:=[9,10]++(List.range n).map (11+·)
abbrev XA(mb:Nat)(w:bY):adL:=[jI w.fair.aD,rows w.fair.roads,int w.fair.aU,int w.fair.eZ,int w.fair.cP,int w.fair.aR,int w.bc,vm w.ways,kY w.aF,.lit (.int .i32 0),.lit (.int .u32 0),int 0,int 0,int 0,.map mb]
abbrev SF(fb mb:Nat)(w:bY)(o:Nat):AV:=Qs fb mb w (int 0) (int 0) (int 0) (vX w.aF.length) o
def TM(n:Nat):Nat->adn:=λi=>if i=9 then some (.int .i32 0)else if i=10 then some (.int .u32 0)else if 11<=i/\i<11+n then some (.int .i64 0)else none
theorem oh{n i:Nat}:i∈vX n↔i=9\/i=10\/11<=i/\i<11+n:=by
 unfold vX;rw[aaC,aaL];constructor
 . grind
 . rintro(h|h|h)
   . simp_all
   . simp_all
   . exact .inr ⟨i-11,aax.2 (by omega),by omega⟩
theorem Od{n i:Nat}(h:i∈vX n):9<=i:=by have:=oh.1 h;omega
theorem SG{n mb:Nat}{w:bY}(h:n<=3)(i:Nat)(v:Value)(a:TM n i=some v):(XA mb w)[i]?=some (.lit v):=by
 unfold TM at a;split at a
 . simp_all
 split at a
 . simp_all
 split at a
 . next e=>
   cases a;have:i=11\/i=12\/i=13:=by omega
   rcases this with rfl|rfl|rfl<;>rfl
 . cases a
theorem Oe(n i:Nat):TM n i=none↔i∉vX n:=by
 rw[oh];unfold TM
 grind
theorem uh{w:bY}(hs:m.solo=true)(hl:w.ways.length<1152921504606846976)(hw:∀x∈w.ways,uf w.bc x)(hn:1<=w.bc/\w.bc<=4)(hc:yR w)(hK:∀σ' fb mb,Ki σ fb mb w σ'->KF (.val (uw fb mb w 0)) σ'):aA prog m 48 [dB w] σ KF:=by
 have h3:=hc.1;refine aA.start lay [10] [] 1 Tryz.func48 rfl rfl (by rfl) (by kernel_rfl) ?_;simp[Tryz.f48];refine vG (p9 .u8) rfl λmb CJ=>?_
 refine af.run lay [10] ?_;simp[aK];refine bK.intro λfb S=>?_
 simp;obtain⟨fm,mf,I⟩:=aa.aP S;refine bK.intro λbw B=>?_
 obtain⟨wf,T,B⟩:=aa.aP B;obtain⟨wm,mw,B⟩:=aa.aP B;simp;refine bK.intro λgb o=>?_
 obtain⟨gw,wg,o⟩:=aa.aP o;obtain⟨gf,U,o⟩:=aa.aP o;obtain⟨gm,mg,o⟩:=aa.aP o;simp[wf,T,wm,mw,gw,wg,gf,U,gm,mg,fm,mf,aa.ai];refine af.part fb (XA mb w) (vX w.aF.length) (TM w.aF.length) (bw:=bw) (l1:=[.ref fb 0]) (l2:=[SF fb mb w 0]) (by simp[aa.ai,T,U]) (SG h3) (Oe w.aF.length) (λt=>.inl rfl) wf (by simp[aa.ai,wg]) rfl (λi a a' W h2=>?_) ?_
 . match i with
   |0=>simp at W h2;subst W;subst h2;exact .inr ⟨0,rfl,rfl⟩
   |i+1=>simp at W
 refine af.bq 3 (b:=bw) (SF fb mb w 0) (aa.an _ _ _) (by simp) rfl ?_;refine af.gX (λe σ'=>(e 3=.cp (SF fb mb w 0) 0/\e 4=.ref gb 0/\e 15=kY w.aF/\e 16=int w.aF.length/\e 17=int 0)/\σ' fb=some (.part (TM w.aF.length))/\σ' gb=some (.cells [.lit (.int .u64 0),.lit (.int .u32 0)])/\σ' mb=some (ns (p9 .u8) [])/\∀c x,σ c=some x->c≠fb/\c≠mb/\c≠gb/\σ' c=some x) ⟨by simp,by simp[aa.del,aa.set,T],by simp[aa.del,aa.set,gw,gf],by simp[aa.del,aa.set,mw,mf,mg],λc x C=>?_⟩ ?_
 . have D:c≠fb:=λe=>by simp_all
   have E:c≠mb:=λe=>by simp_all
   have P:c≠gb:=λe=>by simp_all
   have X:c≠bw:=λe=>by simp_all
   exact⟨D,E,P,by simp[aa.del,aa.set,D,E,P,X,C]⟩
 rintro env ad ⟨⟨g,h,pR,xP,d⟩,F,s2,s3,H⟩;refine af.Vh hs (n:=w.aF.length) (fo:=9) (GI:=λx=>x=.map []) (λj=>.int .i64 (cd w j)) Rn Ro AN AO Oc (by omega) U fm gm s2 F rfl rfl (λj Q q=>(Oe _ _).1 q (oh.2 (.inr (.inr (by omega))))) s3 rfl rfl rfl ?_;rintro A ⟨J,rfl,Y,rfl,rfl,K,p,y,L,G⟩ Fin kd Z k0 M;refine af.gX (λe σ'=>(e 3=.cp (SF A.fb A.mb w 0) 0/\e 4=.ref A.gb 0/\e 15=kY w.aF/\e 16=int w.aF.length/\e 17=int 0)/\σ' A.fb=some .ig/\∀c x,σ c=some x->c≠A.fb/\c≠A.mb/\σ' c=some x) ⟨⟨g,h,pR,xP,d⟩,aa.an _ _ _,λc x C=>?_⟩ ?_
 . obtain⟨D,E,P,X⟩:=H c x C
   exact⟨D,E,by simp[aa.del,aa.set,D,E,P,X]⟩
 rintro env al ⟨⟨g,h,pR,xP,d⟩,F,H⟩;refine af.Vg (λk s=>∃e σ',s=⟨e,σ',[],.told kd Z k0⟩/\(e 3=.cp (SF A.fb A.mb w 0) 0/\e 4=.ref A.gb 0/\e 15=kY w.aF/\e 16=int w.aF.length/\e 17=int k)/\σ' A.fb=some .ig/\∀c x,σ c=some x->c≠A.fb/\c≠A.mb/\σ' c=some x) ⟨_,_,rfl,⟨g,h,pR,xP,d⟩,F,H⟩ ?_ ?_
 . rintro r k _ hk ⟨env,σ',rfl,⟨g,h,pR,xP,d⟩,F,H⟩ ih
   rw[J]at hk;have z:k<w.aF.length:=by omega
   have f:(k:Int)<w.aF.length:=by omega
   refine af.runN lay [] 17 ?_;simp[g,h,pR,xP,d,z,f];refine bK.intro λD av=>?_
   simp[g,h,pR,xP,d,z,f];refine bK.intro λE N=>?_
   obtain⟨n1,n2,N⟩:=aa.aP N;simp[g,h,pR,xP,d,z,f,n1,n2,aa.ai];change af _ _ _ _ _ _ _ _ _;refine af.runN lay [] 4 ?_;simp[g,h,pR,xP,d,z,f,n1,n2,aa.ai];change af _ _ _ _ _ _ _ _ _;refine af.bq 6 (b:=E) (iy w.aF[k]) (aa.an _ _ _) (by simp) rfl ?_;refine af.bq 5 (b:=D) (int k) (by simp[aa.del,aa.set,n1,n2]) (by simp) rfl ?_;refine af.Mp rfl (by rw[p];rfl) rfl (by simp) (by rw[p];exact Tryz.func89) rfl rfl (by simp[g,h,pR,xP,d,z,f]) ?_;refine af.runN lay [] 4 ?_;simp[g,h,pR,xP,d,z,f];change af _ _ _ _ _ _ _ _ _;have Q:A.n-(r+1)=k:=by omega
   have b1:A.fb≠D:=λe=>by simp_all
   have b2:A.fb≠E:=λe=>by simp_all
   have O:=hc.2 _ (zG z);refine af.QO y (hold':=Vx) (first:=[]) (cap:=[.ref A.gb 0,.cp (SF A.fb A.mb w 0) 0,.cp (iy w.aF[k]) 0,.cp (int k) 0]) rfl rfl rfl (by simp) (by simp[g,h,pR,xP,d,z,f]) Tryz.func90 rfl rfl (by show(4:Nat)<=25;decide) (by simp[aa.del,aa.set,b1,b2,F]) (by kernel_rfl) (by rw[p];exact Tryz.func91) rfl rfl (by rw[K];exact Tryz.func94) rfl rfl (λk1=>?_) ?_
   . rw[Q]
     exact yQ (λi hi=>Od hi) ⟨rfl,rfl,Y,K,p,y⟩ (by omega) (λx=>by rw[L]) hl hw hn O.1 O.2 (by rw[G];simp[cd,z,Rr]) rfl
   have f1:-9223372036854775808<=(k:Int)+1/\(k:Int)+1<=9223372036854775807:=by omega
   refine af.run lay [10] ?_;simp[g,h,pR,xP,d,z,f,f1.1,f1.2];refine ih _ ⟨_,_,rfl,by simp[g,h,pR,xP,d,z,f],by simp[aa.del,aa.set,b1,b2,F],λc x C=>?_⟩;obtain⟨x1,x2,x3⟩:=H c x C;have y1:c≠D:=λe=>by grind
   have y2:c≠E:=λe=>by grind
   exact⟨x1,x2,by simp[aa.del,aa.set,y1,y2,x3]⟩
 . rintro _ ⟨env,σ',rfl,⟨g,h,pR,xP,d⟩,F,H⟩
   rw[J]at d;refine af.runN lay [] 9 ?_;simp[g,h,pR,xP,d];change af _ _ _ _ _ _ _ _ _;refine af.Mx y ((cG.bd (env.upd 18 (bool false)) (some 25) (.ck [])).upd 3 (.cp (uw A.fb A.mb w 0) 0)) rfl (by rw[p];rfl) rfl (by simp) (by rw[p];exact Tryz.func95) rfl rfl (by simp_all) F rfl M (λkk a7 t v R=>?_) λa ha=>?_
   . change V kk v (cG.bd (env.upd 18 (bool false)) (some 25) (.ck []) t)at R
     by_cases e:t=3
     . subst e
       rw[show(cG.bd (env.upd 18 (bool false)) (some 25) (.ck [])) 3=.cp (SF A.fb A.mb w 0) 0 by simp[g]]at R;rw[show((cG.bd (env.upd 18 (bool false)) (some 25) (.ck [])).upd 3 (.cp (uw A.fb A.mb w 0) 0)) 3=.cp (uw A.fb A.mb w 0) 0 by simp];refine V.ZS rfl rfl (λu=>P1 (l:=XA A.mb w) (hole:=vX w.aF.length) rfl λj Q ax=>?_) R;by_cases hm:j∈vX w.aF.length
       . have ay:11<=j/\j<11+w.aF.length:=by
          have:=oh.1 hm
          simp_all
         refine .inr ⟨.int .i64 (cd w (j-11)),?_,rfl,?_⟩
         . have:=a7 (j-11) (by omega)
           rwa [G,show A.cell (j-11)=j by unfold bH.cell;omega]at this
         . have:j=11\/j=12\/j=13:=by omega
           rcases this with rfl|rfl|rfl<;>rfl
       . refine .inl ⟨hm,?_⟩
         have aC:j<15:=Q;have hz:∀i,w.aF.length<=i->int (cd w i)=int 0:=λi hi=>by rw[cd,abv hi]
         have aE:¬(11<=j/\j<11+w.aF.length):=λq=>hm (oh.2 (.inr (.inr q)))
         by_cases a8:j=11
         . subst a8;simp[hz 0 (by omega)]
         by_cases a9:j=12
         . subst a9;simp[hz 1 (by omega)]
         by_cases ab:j=13
         . subst ab;simp[hz 2 (by omega)]
         have:j=0\/j=1\/j=2\/j=3\/j=4\/j=5\/j=6\/j=7\/j=8\/j=9\/j=10\/j=14:=by omega
         rcases this with rfl|rfl|rfl|rfl|rfl|rfl|rfl|rfl|rfl|rfl|rfl|rfl<;>rfl
     . simpa[Env.upd,e]using R
   . rw[L]at ha
     subst ha;refine af.run lay [10] ?_;simp[g,h,pR,xP,d];refine .less (σ':=(σ.set A.mb (ns (p9 .u8) [])).set A.fb (.part (bE 9))) ?_ (.done (hK _ _ _ ⟨I,CJ,fm,rfl⟩));intro c x C;by_cases c1:c=A.fb
     . simp_all
     by_cases c2:c=A.mb
     . subst c2
       rw[aa.ai _ _ c1,aa.an]at C;rw[aa.ai _ _ c1,aa.an];exact C
     rw[aa.ai _ _ c1,aa.ai _ _ c2]at C ⊢
     simp_all
def fh(w:bY)(cA a aF:adG):Int:=if nD w=0 then(if cA.all (bt · 0 72)=false then 1 else if a.all (bt · 0 (w.fair.aD.length-1))=false then 3 else if aF.all (bt · 0 (w.aF.length-1))=false then 3 else 0)else nD w
theorem qH{α:Type}(g:α->Int):∀{l:List α},fT g l=0->∀x∈l,g x=0
 |[],_,x,hx=>by simp at hx
 | a ::l,h,x,hx=>by
   unfold fT at h;split at h
   . next e=>
     rcases aaQ.1 hx with rfl|hx
     . exact e
     . exact qH g h x hx
   omega
theorem Kj{t:Int}{x:Way}(h:qF t x=0):uf t x:=by
 unfold qF at h;split at h
 . cases h
 next a=>
 split at h
 . cases h
 next b=>
 split at h
 . cases h
 split at h
 . cases h
 next c=>
 split at h
 . cases h
 next d=>
 split at h
 . cases h
 next e=>
 have f:=dF (by simpa using a);have g:=dF (by simpa using b);have i:=dF (by simpa using c);have j:=dF (by simpa using d);have k:=dF (by simpa using e);unfold uf;omega
structure bY.Valid(w:bY):Prop where
 wD:w.qG
 bc:1<=w.bc/\w.bc<=4
 way:∀x∈w.ways,uf w.bc x
 few:w.ways.length<=6
 EM:yR w
 late:∀c∈w.aF,c.lost.hour<=c.hour
 pJ:w.fair.aD.length+w.aF.length<=6
 some:aI (jl w) []≠[]
theorem bY.valid{w:bY}(d:w.qG)(h:nD w=0):w.Valid:=by
 unfold nD at h;split at h
 . cases h
 next f=>
 split at h
 . cases h
 next o=>
 split at h
 . omega
 next p=>
 split at h
 . cases h
 next q=>
 split at h
 . omega
 next g=>
 split at h
 . cases h
 next r=>
 split at h
 . cases h
 next i=>
 have j:=dF (a:=w.bc) (by simpa using f)
 have e:w.fair.aD.length+w.aF.length<=6:=by omega
 have b:∀c∈w.aF,((0<=c.town/\c.town<w.bc)/\0<=c.hour/\c.hour<=72)/\c.lost.hour<=c.hour:=λc b=>by
  have:=qH _ (by simpa using g) c b
  unfold zQ at this;split at this
  . cases this
  next k=>
  split at this
  . cases this
  next l=>
  split at this
  . cases this
  next s=>
  have t:=dF (by simpa using k)
  have u:=dF (by simpa using l)
  omega
 have m:=mC d e;have v:iv (jl w)≠0:=i;refine⟨d,j,λx n=>Kj (qH _ (by omega) x n),by omega,⟨by omega,λc h=>(b c h).1⟩,λc h=>(b c h).2,e,(AT m).1 ?_⟩
 have:0<=iv (jl w):=by unfold iv;omega
 omega
theorem GO(p:Int->Bool)(l:adG){i:Nat}(h:i<l.length):(l.drop i).all p=(p l[i] && (l.drop (i+1)).all p):=by rw[abc h,abj]
theorem kH{w:bY}(A:m.solo=true)(y:w.qG){cA a aF:adG}(D:cA.length<1000000/\a.length<1000000/\aF.length<1000000)
 (f:fh w cA a aF≠0->KF (.val (.ck [.lit (.pointer none),int (fh w cA a aF)])) σ)
 (r:fh w cA a aF=0->∀σ' fb mb,Ki σ fb mb w σ'->KF (.val (.ck [uw fb mb w 0,int 0])) σ'):aA prog m 41 [dB w,ints cA,ints a,ints aF] σ KF:=by
 unfold fh at f r;refine fs [] Tryz.func41 rfl (by kernel_rfl) ?_;simp[Tryz.f41];refine cf Tryz.func33 rfl (GN A y ?_);apply rn;simp;apply aH.intro<;>intro t<;>simp at t<;>simp[t]
 . simp[t]at f
   exact .done f
 have v:=bY.valid y t;have z:=y.ways;have E:=v.pJ;simp only[t,aaA]at f r;refine af.loop cA.length (λk s=>∃env,s=⟨env,σ,[],.no⟩/\env 2=ints a/\env 3=ints aF/\env 4=.cp (dB w) 0/\env 22=ints cA/\env 23=int cA.length/\env 24=int k/\cA.all (bt · 0 72)=(cA.drop k).all (bt · 0 72)) ⟨_,rfl,by simp⟩ ?_;rintro F k _ x ⟨env,rfl,B,C,q,wJ,KI,IE,b⟩ u;apply rn;simp[KI,IE];apply aH.intro<;>intro h<;>simp at h<;>simp[B,C,wJ,IE,h]
 . rw[GO _ _ h]at b
   refine cf Tryz.func71 rfl (er ?_);apply rn;simp;refine aH.intro (λd=>?_) (λd=>?_)<;>(try simp at d)<;>(try simp[IE,d])
   . rw[d,Bool.true_and]at b
     refine⟨by omega,u _ (by omega) ⟨_,rfl,?_,?_,?_,?_,?_,?_,b⟩⟩<;>simp[B,C,q,wJ,KI]
   . simp[b,d]at f
     exact .done f
 have ek:k=cA.length:=by omega
 subst ek;rw[acm,List.all_nil]at b;simp only[b,abX,Rp]at f r;refine af.u6 ?_;apply rn;simp;refine af.loop a.length (λk s=>∃env,s=⟨env,σ,[],.no⟩/\env 4=.cp (dB w) 0/\env 34=.sl 1 [ints a,ints aF] .exact/\env 35=int 2/\env 36=int 0/\env 13=int 0/\env 41=ints a/\env 42=int a.length/\env 43=int k/\a.all (bt · 0 (w.fair.aD.length-1))=(a.drop k).all (bt · 0 (w.fair.aD.length-1))) ⟨_,rfl,by simp[q]⟩ ?_;rintro G k _ x ⟨env,rfl,q,i,g,j,n,o,p,e,b⟩ u;refine af.runN lay [] 25 ?_;simp[p,e];apply aH.intro<;>intro h<;>simp at h<;>simp[q,j,o,e,h]
 . rw[GO _ _ h]at b
   refine af.op rfl (bW rfl) (by simp) (λc=>by simp) (qu lay rfl Re rfl rD (l:=[int w.fair.aD.length,int w.aF.length]) (by simp) (by simp[kT,aK]) ?_);apply rn;simp[n];refine⟨by omega,?_⟩;refine cf Tryz.func71 rfl (er ?_);apply rn;simp;refine aH.intro (λd=>?_) (λd=>?_)<;>(try simp at d)<;>(try simp[e,d])
   . rw[d,Bool.true_and]at b
     refine⟨by omega,u _ (by omega) ⟨_,rfl,?_,?_,?_,?_,?_,?_,?_,?_,b⟩⟩<;>simp[q,i,g,j,n,o,p]
   . rw[d,Bool.false_and]at b
     simp only[b,aaA]at f;exact .done (f (by decide))
 have ek:k=a.length:=by omega
 subst ek;rw[acm,List.all_nil]at b;simp only[b,abX,Rp]at f r;refine af.again (by kernel_rfl) ?_;apply rn;simp[i,g];refine af.loop aF.length (λk s=>∃env,s=⟨env,σ,[],.no⟩/\env 4=.cp (dB w) 0/\env 34=.sl 1 [ints a,ints aF] .exact/\env 35=int 2/\env 36=int 1/\env 13=int 1/\env 41=ints aF/\env 42=int aF.length/\env 43=int k/\aF.all (bt · 0 (w.aF.length-1))=(aF.drop k).all (bt · 0 (w.aF.length-1))) ⟨_,rfl,by simp[q,i,g]⟩ ?_;rintro H k _ x ⟨env,rfl,q,i,g,j,n,o,p,e,b⟩ u;refine af.runN lay [] 25 ?_;simp[p,e];apply aH.intro<;>intro h<;>simp at h<;>simp[q,j,o,e,h]
 . rw[GO _ _ h]at b
   refine af.op rfl (bW rfl) (by simp) (λc=>by simp) (qu lay rfl Re rfl rD (l:=[int w.fair.aD.length,int w.aF.length]) (by simp) (by simp[kT,aK]) ?_);apply rn;simp[n];refine⟨by omega,?_⟩;refine cf Tryz.func71 rfl (er ?_);apply rn;simp;refine aH.intro (λd=>?_) (λd=>?_)<;>(try simp at d)<;>(try simp[e,d])
   . rw[d,Bool.true_and]at b
     refine⟨by omega,u _ (by omega) ⟨_,rfl,?_,?_,?_,?_,?_,?_,?_,?_,b⟩⟩<;>simp[q,i,g,j,n,o,p]
   . rw[d,Bool.false_and]at b
     simp only[b,aaA]at f;exact .done (f (by decide))
 have ek:k=aF.length:=by omega
 subst ek;rw[acm,List.all_nil]at b;simp only[b,abX,Rp]at f r;refine af.again (by kernel_rfl) ?_;apply rn;simp[q,g];refine cf Tryz.func48 rfl (uh A z v.way v.bc v.EM λσ' fb mb x=>?_);apply rn;simp;exact .done (r trivial σ' fb mb x)
end
section
open Go Go.cG Go.Conc
open Go.Extern
variable{m:Mo}{σ:aa}{KF:adl}
abbrev VY(t:Nat):Value:=.pointer (some ⟨1,t,none⟩)
abbrev VZ(t:Nat):AV:=.lM 224 (.agg [.lit (VY t)])
theorem vY{P:adS}{t f:Nat}{name:String}{a a':AV}(h:∀k v,V k v a->∃r,eY P (Go.method (P.types.size+Made.depth) t v name)=some (f,r)/\V k r a'):oE P t name f a a':=λk O v K g b c=>by obtain⟨r,d,e⟩:=h k v b;exact o6 _ d (c r e)
theorem Kk{t f:Nat}{name:String}(h:∀h,eY prog (Go.method (prog.types.size+Made.depth) 224 (.agg #[h]) name)=some (f,.agg #[h])):oE prog 224 name f (.agg [.lit (VY t)]) (.agg [.lit (VY t)]):=vY λk v a=>by
 obtain⟨x,rfl,_⟩:=Gc.1 a
 simp_all
theorem SH(k:aj)(t:Nat):V k (.iface 224 (.agg #[VY t])) (VZ t):=Rc.2 ⟨_,rfl,Gc.2 ⟨_,rfl,.lit _⟩⟩
abbrev A8:AV:=.lM 105 (.agg [])
theorem Of(h:KF (.val (bool false)) σ):aA prog m 56 [.lit .nilIface,A8] σ KF:=by
 refine fs [] Tryz.func56 rfl (by kernel_rfl) ?_;simp[Tryz.f56];refine dU lay rfl AI rfl (.inl ⟨rfl,rfl⟩) (.inl ⟨rfl,rfl⟩) ?_;apply rn;simp;refine pe (vx:=.nilIface) (vy:=.iface 105 (.agg #[])) (r:=.bool false) rfl (λk v a=>by simpa using AF.1 a) (λk v a=>V.P6 (by simpa using a)) (by kernel_rfl) ?_;apply rn;simp;exact .done h
theorem Og(h:Value):eY prog (Go.method (prog.types.size+Made.depth) 224 (.agg #[h])  "Comparable")=some (237,.agg #[h]):=by kernel_rfl
theorem Qt(h:KF (.val (bool true)) σ):aA prog m 98 [A8,A8,bool true] σ KF:=by
 refine fs [] Tryz.func98 rfl (by kernel_rfl) ?_;simp[Tryz.f98];refine af.u6 ?_;apply rn;simp;refine pe (vx:=.iface 105 (.agg #[])) (vy:=.iface 105 (.agg #[])) (r:=.bool true) rfl (λk v a=>V.P6 (by simpa using a)) (λk v a=>V.P6 (by simpa using a)) (by kernel_rfl) ?_;apply rn;simp;exact .done h
theorem H8(h:KF (.val (bool true)) σ):aA prog m 56 [A8,A8] σ KF:=by
 refine fs [] Tryz.func56 rfl (by kernel_rfl) ?_;simp[Tryz.f56];refine dU lay rfl AI rfl (.inr ⟨⟨_,_,rfl⟩,rfl⟩) (.inl ⟨rfl,rfl⟩) ?_;apply rn;simp;refine dU lay rfl AI rfl (.inr ⟨⟨_,_,rfl⟩,rfl⟩) (.inl ⟨rfl,rfl⟩) ?_;apply rn;simp;refine bI.ext Tryz.func97 rfl rfl (by kernel_rfl) (e:=ReflectliteType.typeOf) (by kernel_rfl) (vR.pure (v:=.iface 224 (.agg #[VY 105])) (a:=VZ 105) (λk f d=>?_) (λk=>SH k _) ?_)
 . obtain⟨v,b,c⟩:=d.one
   subst b;rw[V.P6 c]
   kernel_rfl
 apply rn;simp;refine af.P5 rfl rfl (bW rfl) (by simp) rfl (Kk Og) Tryz.func237 rfl rfl (by kernel_rfl) (e:=ReflectliteType.method λt=>do Rtype.noPackHeld  "Comparable" t;pure (.bool (<-typeInfo t).comparable)) (by kernel_rfl) (vR.pure (v:=.bool true) (a:=bool true) (λk f d=>?_) (λk=>.lit _) ?_)
 . obtain⟨v,b,c⟩:=d.one
   subst b;obtain⟨u,rfl,g⟩:=Gc.1 c;rw[AF.1 g]
   kernel_rfl
 apply rn;simp;refine cf Tryz.func98 rfl (Qt ?_);apply rn;simp;exact .done h
theorem qI{w:bY}{fb mb c:Nat}(b:c<3)(h:if 72<cd w c then KF (.val (.ck [int 0,A8])) σ else KF (.val (.ck [int (cd w c),.lit .nilIface])) σ):aA prog m 55 [uw fb mb w 0,int c] σ KF:=by
 have:c=0\/c=1\/c=2:=by omega
 rcases this with rfl|rfl|rfl
 all_goals
  refine fs [] Tryz.func55 rfl (by kernel_rfl) ?_;simp[Tryz.f55];refine aH.intro (λa=>?_) (λa=>?_)<;>(try simp[-Int.not_lt,-Int.not_le]at a)<;>(try simp[a]at h)<;>(try simp[a])<;>(try exact .done h)
 all_goals exact .done h
def pE(w:bY)(h:Int)(i:Int):Bool:=decide ((aS w.fair i).hour<=h)
def pC(w:bY)(h:Int)(i:Int):Bool:=decide (cd w i.toNat<=72) && decide (cd w i.toNat<=h)
def dS(w:bY)(h:Int):adG:=(pQ w.fair.aD.length).filter (pE w h)
def cR(w:bY)(h:Int):adG:=(pQ w.aF.length).filter (pC w h)
abbrev GP(w:bY)(h:Int):AV:=.agg [u8 (aT (dS w h)),u8 (aT (cR w h))]
theorem ui(k:Nat)(p:Int->Bool):(pQ (k+1)).filter p=(pQ k).filter p++if p k then[(k:Int)]else[]:=by
 unfold pQ;rw[aaO,aaN,abH]
 grind
theorem nE(l:adG)(n:Int):aT (l++[n])=bT (aT l) n:=by
 unfold aT
 simp_all
namespace CK
abbrev XB:adv:=[⟨6,.take [0,1,2,3,4,5] true (.one 6 (.done))⟩,⟨13,.take [0,3,6] false (.both 1 (.one 2 (.take [4,5] true (.one 7 (.done)))) (.one 2 (.take [1,4,5] true (.one 7 (.done)))))⟩]
theorem A9{w:bY}{fb mb:Nat}{h:Int}(H:w.fair.aD.length<=6)(I:w.aF.length<=3)(z:KF (.val (GP w h)) σ):aA prog m 59 [uw fb mb w 0,int h] σ KF:=by
 refine fs XB Tryz.func59 rfl (by kernel_rfl) ?_
 simp[Tryz.f59];refine bK.intro λb hb=>?_
 simp;refine bK.intro λd hd=>?_
 obtain⟨J,A,hd⟩:=aa.aP hd;simp;refine af.loop w.fair.aD.length (λk s=>∃env,s=⟨env,(σ.set b (.cells [u8 0,u8 0])).set d (.cells [u8 (aT ((pQ k).filter (pE w h))),u8 0]),[],.no⟩/\env 0=uw fb mb w 0/\env 1=int h/\env 4=.ref b 0/\env 5=.ref d 0/\env 16=jI w.fair.aD/\env 17=int w.fair.aD.length/\env 18=int k) ⟨_,rfl,by simp⟩ ?_
 rintro K k _ B ⟨env,rfl,i,j,n,g,xP,o,uv⟩ p
 refine af.runN lay [] 17 ?_;simp[o,uv];apply aH.intro<;>intro r<;>simp at r<;>simp[i,xP,uv,r]
 . have C:aS w.fair k=w.fair.aD[k]:=by simp[aS,r]
   refine bK.intro λq D=>?_
   obtain⟨L,M,E⟩:=aa.aP D;obtain⟨N,O,P⟩:=aa.aP E;simp
   change af _ _ _ _ _ _ _ _ _
   refine af.runN lay [] 2 ?_;simp
   change af _ _ _ _ _ _ _ _ _
   refine af.bq 7 (b:=q) (bs w.fair.aD[k]) (aa.an _ _ _) (by simp) rfl ?_
   rw[ew (by omega)]
   apply rn;simp[j];have a:=ui k (pE w h);have t:pE w h k=decide (w.fair.aD[k].hour<=h):=by unfold pE;rw[C]
   apply aH.intro<;>intro u<;>simp at u<;>simp[g,uv,u,tR]
   . rw[t,show decide (w.fair.aD[k].hour<=h)=true by grind,aaB rfl]at a
     apply rn;simp[uv];refine⟨by omega,p _ (by omega) ⟨_,by rw[a,nE];rfl,by simp[i,j,n,g,xP,o]⟩⟩
   . rw[t,show decide (w.fair.aD[k].hour<=h)=false by grind,aay (by simp),abh]at a
     refine⟨by omega,p _ (by omega) ⟨_,by rw[a],by simp[i,j,n,g,xP,o]⟩⟩
 have ek:k=w.fair.aD.length:=by omega
 subst ek;rw[show(pQ w.fair.aD.length).filter (pE w h)=dS w h from rfl]
 apply rn;simp;refine af.loop w.aF.length (λk s=>∃env,s=⟨env,(σ.set b (.cells [u8 0,u8 0])).set d (.cells [u8 (aT (dS w h)),u8 (aT ((pQ k).filter (pC w h)))]),[],.no⟩/\env 0=uw fb mb w 0/\env 1=int h/\env 4=.ref b 0/\env 5=.ref d 0/\env 39=int w.aF.length/\env 40=int k) ⟨_,rfl,by simp[i,j,n,g]⟩ ?_
 rintro v k _ B ⟨env,rfl,i,j,n,g,l,f⟩ p
 apply rn;simp[l,f];apply aH.intro<;>intro r<;>simp at r<;>simp[i,n,g,f,r,A,aa.ai]
 . have a:=ui k (pC w h)
   have t:pC w h k=(decide (cd w k<=72) && decide (cd w k<=h)):=rfl;refine cf Tryz.func55 rfl (qI (by omega) ?_)
   split
   . next u=>
     apply rn;simp;refine cf Tryz.func56 rfl (H8 ?_);apply rn;simp[f];rw[t,show decide (cd w k<=72)=false by simp;omega,Bool.false_and,aay (by simp),abh]at a
     refine⟨by omega,p _ (by omega) ⟨_,by rw[a],by simp[i,j,n,g,l]⟩⟩
   . next u=>
     apply rn;simp;refine cf Tryz.func56 rfl (Of ?_);apply rn;simp[j];rw[t,show decide (cd w k<=72)=true by simp;omega,Bool.true_and]at a
     apply aH.intro<;>intro y<;>simp at y<;>simp[g,f,y]
     . rw[show decide (cd w k<=h)=true by grind,aaB rfl]at a
       have:k=0\/k=1\/k=2:=by omega
       refine⟨?_,?_⟩
       all_goals
        refine cf Tryz.func101 rfl (Oa ?_)
        rcases this with rfl|rfl|rfl
       all_goals
        apply pg;simp[tR];apply rn;simp[f]
       all_goals exact p _ (by omega) ⟨_,by rw[a,nE];rfl,by simp[i,j,n,g,l]⟩
     . rw[show decide (cd w k<=h)=false by grind,aay (by simp),abh]at a
       refine⟨by omega,p _ (by omega) ⟨_,by rw[a],by simp[i,j,n,g,l]⟩⟩
 . have ek:k=w.aF.length:=by omega
   subst ek;rw[show(pQ w.aF.length).filter (pC w h)=cR w h from rfl]
   refine .less (λc x F=>?_) (.done z)
   have v:c≠b:=λe=>by grind
   have G:c≠d:=λe=>by grind
   rw[aa.ai _ _ v,aa.ai _ _ G,aa.ai _ _ v];exact F
end CK
theorem qJ{b o:Nat}{l:adL}{n:Int}(a:σ b=some (.cells l))(c:l[o]?=some (.lit (.int .u32 n)))(h:KF (.val (bool (n !=0))) σ):aA prog m 178 [.ref b o] σ KF:=by
 refine fs [] Tryz.func178 rfl (by kernel_rfl) ?_;simp[Tryz.f178];refine bI.ext Tryz.func199 rfl rfl (by kernel_rfl) (e:=Atomic.loadT (.int .u32)) (by kernel_rfl) (Gd (o0 b o) a c ?_);apply rn;simp;exact .done h
theorem SI(h:KF (.val (.lit (.int .u32 1))) σ):aA prog m 208 [bool true] σ KF:=by
 refine fs [] Tryz.func208 rfl (by kernel_rfl) ?_;simp[Tryz.f208];exact .done h
theorem Cu{b o:Nat}{l:adL}(a:σ b=some (.cells l))(c:o<l.length)(h:KF (.val (.ck [])) (σ.set b (.cells (l.set o (.lit (.int .u32 1)))))):aA prog m 200 [.ref b o,bool true] σ KF:=by
 refine fs VH Tryz.func200 rfl (by kernel_rfl) ?_;simp[Tryz.f200];refine cf Tryz.func208 rfl (SI ?_);apply pg;simp;refine bI.ext Tryz.func207 rfl rfl (by kernel_rfl) (e:=Atomic.storeT) (by kernel_rfl) (Ed (o0 b o) a c ?_);apply pg;simp;apply rn;simp;exact .done h
theorem EN{b:Nat}{l:adL}{f:AV}(a:σ b=some (.cells l))(c:l[0]?=some (.lit (.int .u32 1)))(h:KF (.val (.ck [])) σ):aA prog m 146 [.ref b 0,f] σ KF:=by
 refine fs [] Tryz.func146 rfl (by kernel_rfl) ?_;simp[Tryz.f146];refine cf Tryz.func178 rfl (qJ a c ?_);apply rn;simp;exact .done h
theorem EO(d:m.solo=true){b:Nat}{l:adL}{f:AV}(c:σ b=some (.cells l))(p:l[0]?=some (.lit (.int .u32 0)))(e:l[1]?=some (.lit (.int .i32 0)))(g:l[2]?=some (.lit (.int .u32 0)))
 (h:∀K:adl,(∀σ' a,σ' b=some (.cells a)->a[0]?=some (.lit (.int .u32 0))->a[1]?=some (.lit (.int .i32 1))->a[2]?=some (.lit (.int .u32 0))->KF (.val (.ck [])) (σ'.set b (.cells ((a.set 0 (.lit (.int .u32 1))).set 1 (.lit (.int .i32 0)))))->K (.val (.ck [])) σ')->bI prog m f [] (σ.set b (.cells (l.set 1 (.lit (.int .i32 1))))) K):
 aA prog m 179 [.ref b 0,f] σ KF:=by
 refine fs [] Tryz.func179 rfl (by kernel_rfl) ?_;simp[Tryz.f179];refine cf Tryz.func93 rfl (F3 AN AO Oc d (o0 b 1) c e g ?_);apply rn;simp;refine af.defer rfl rfl rfl rfl (by simp) rfl ?_;apply rn;simp;have i:(σ.set b (.cells (l.set 1 (.lit (.int .i32 1))))) b=some (.cells (l.set 1 (.lit (.int .i32 1)))):=aa.an _ _ _;have j:(l.set 1 (.lit (.int .i32 1)))[0]?=some (.lit (.int .u32 0)):=by simp_all
 refine cf Tryz.func178 rfl (qJ i j ?_);apply rn;simp;refine af.defer rfl rfl rfl rfl (by simp) rfl ?_;apply rn;simp;refine h _ λσ' a k n q r o=>?_
 apply rn;simp;refine rI.func Tryz.func200 rfl rfl (Cu k (aaI.1 n).1 ?_);refine rI.func Tryz.func94 rfl rfl (B8 AN AO Oc d (o0 b 1) (aa.an _ _ _) (by simp_all) (by simp_all) ?_);rw[aa.set_set];exact⟨[],rfl,.done o⟩
theorem Cv(e:m.solo=true){b:Nat}{l:adL}{f:AV}(c:σ b=some (.cells l))(d:l[0]?=some (.lit (.int .u32 0)))(g:l[1]?=some (.lit (.int .i32 0)))(h:l[2]?=some (.lit (.int .u32 0)))
 (i:∀K:adl,(∀σ' a,σ' b=some (.cells a)->a[0]?=some (.lit (.int .u32 0))->a[1]?=some (.lit (.int .i32 1))->a[2]?=some (.lit (.int .u32 0))->KF (.val (.ck [])) (σ'.set b (.cells ((a.set 0 (.lit (.int .u32 1))).set 1 (.lit (.int .i32 0)))))->K (.val (.ck [])) σ')->bI prog m f [] (σ.set b (.cells (l.set 1 (.lit (.int .i32 1))))) K):
 aA prog m 146 [.ref b 0,f] σ KF:=by
 refine aA.thaw ?_;refine fs [] Tryz.func146 rfl (by kernel_rfl) ?_;simp[Tryz.f146];refine cf Tryz.func178 rfl (qJ c d ?_);apply rn;simp;refine cf Tryz.func179 rfl (EO e c d g h λK j=>i K λσ' a k n o p q=>j σ' a k n o p ?_);apply rn;simp;exact .done (.done q)
end
open Go Go.cG Go.Conc
variable{m:Mo}{σ:aa}{KF:adl}
def Cw(w:bY)(c:Int):Kg:=w.aF.getD c.toNat ⟨⟨0,0,0,[],0,0⟩,0,0⟩
abbrev dk(w:bY)(es cs:adG):Fr:={w.fair with aD:=es.map (aS w.fair)++cs.map λc=>(Cw w c).lost}
abbrev H9(f:Fr):adL:=[rows f.roads,int f.aU,int f.eZ,int f.cP,int f.aR]
abbrev GQ:adL:=[.lit (.slice none 0 0),.lit (.slice none 0 0),int 0,int 0,int 0,int 0]
theorem Oh{a a':AV}{l:adL}(h:a.W a'):(AV.agg (a::l)).W (.agg (a'::l)):=qy rfl λi x y c b=>by
 cases i with
 |zero=>simp_all
 |succ i=>simp at c b;rw[c]at b;cases b;exact .refl _
namespace CF
abbrev XC:adv:=[⟨6,.take [0,2,3,4,5,6,7,8,9,10,13] false (.both 1 (.one 11 (.one 12 (.one 14 (.done)))) (.one 11 (.take [1] true (.one 12 (.one 14 (.done))))))⟩,⟨11,.take [1,2,3,4,5,6,7,8,9] false (.both 0 (.one 10 (.one 11 (.one 12 (.done)))) (.one 10 (.take [0] true (.one 11 (.one 12 (.done))))))⟩]
theorem EP{w:bY}{fb mb:Nat}{x y:Int}(U:∀i∈aB x,0<=i/\i<w.fair.aD.length)(V:∀i∈aB y,0<=i/\i<w.aF.length)(h:KF (.val (cz (dk w (aB x) (aB y)))) σ):aA prog m 65 [uw fb mb w 0,.agg [u8 x,u8 y]] σ KF:=by
 have X:=mq x;have Y:=mq y;refine fs XC Tryz.func65 rfl (by kernel_rfl) ?_
 simp[Tryz.f65];refine bK.intro λb hb=>?_
 simp;refine bK.intro λd l=>?_
 obtain⟨n1,n2,hd⟩:=aa.aP l;simp;refine cf Tryz.func60 rfl (nf ?_);apply rn;simp
 refine af.loop (aB x).length (λk s=>∃env f a,s=⟨env,f,[],.no⟩/\env 0=uw fb mb w 0/\env 3=.cp (.agg [u8 x,u8 y]) 0/\env 4=.ref b 0/\env 5=.ref d 0/\env 18=ints (aB x)/\env 19=int (aB x).length/\env 20=int k/\f d=some (.cells (a::H9 w.fair))/\Tok (σ.set b (.cells GQ)) f a 6 (((aB x).take k).map λi=>bs (aS w.fair i))) ⟨_,_,_,rfl,by simp,by simp,by simp,by simp,by simp,by simp,by simp,aa.an _ _ _,(Tok.nil _ _).beside l (by simp[bp])⟩ ?_
 rintro c0 k _ Z ⟨env,f,a,rfl,E,S,F,n,uv,Po,zw,p,g⟩ K
 have L:=g.cells;apply rn;simp[Po,zw];apply aH.intro<;>intro o<;>simp at o<;>simp[E,S,n,uv,zw,o]
 . obtain⟨i,r⟩:∃i,(aB x)[k]=i:=⟨_,rfl⟩
   have t:=U i (r ▸ zG o);have j:i.toNat<w.fair.aD.length:=by omega
   have M:aS w.fair i=w.fair.aD[i.toNat]:=by simp[aS,j]
   simp only[r];have u:w.fair.aD[i.toNat]?=some w.fair.aD[i.toNat]:=zU j;refine⟨t.1,?_⟩;simp[n,p,u]
   have N:((aB x).take (k+1)).map (λi=>bs (aS w.fair i))=((aB x).take k).map (λi=>bs (aS w.fair i))++[bs w.fair.aD[i.toNat]]:=by rw[zD o,aaN,r,<-M];rfl
   have O:bp a≠some d:=λe=>by obtain⟨_,_,q⟩:=g.aY e;simp_all
   refine⟨?_,?_⟩
   all_goals
    refine aN lay rfl rfl rfl nB rfl nB rfl zJ (by decide) (by simp only[aaP,abz,aaW,abx];omega) (σ0:=f.off a) (es:=((aB x).take k).map λi=>bs (aS w.fair i)) (xs:=[bs w.fair.aD[i.toNat]]) (by simpa using g.here.1) (.inr ⟨_,by simp;rfl⟩) λa' P A=>?_
    have G:=A.cells;have T:P d=some (.cells (a::H9 w.fair)):=A.1 _ _ (by rw[aa.dQ O];exact p)
    have B:=A.base g.here.2;rw[<-N]at B;apply pg;simp[T,G.1,G.2,aK];apply rn;simp[zw];refine⟨by omega,K _ (by omega) ⟨_,_,a',rfl,by simp[E],by simp[S],by simp[F],by simp[n],by simp[uv],by simp[Po],by simp,aa.an _ _ _,B.beside l (λe=>by obtain⟨_,_,q⟩:=B.aY e;rw[T]at q;cases q)⟩⟩
 . have ek:k=(aB x).length:=by omega
   subst ek;rw[aaJ]at g;refine cf Tryz.func60 rfl (nf ?_);apply rn;simp
   have H:a.W (jI ((aB x).map (aS w.fair)++(((aB y).take 0).map λc=>(Cw w c).lost))):=by simp only[List.take_zero,List.map_nil,abh];have:=g.W;show a.W (.sl 6 (((aB x).map (aS w.fair)).map bs) .any);rw[acI];exact this
   refine af.loop (aB y).length (λk s=>∃env f z,s=⟨env,f,[],.no⟩/\env 0=uw fb mb w 0/\env 4=.ref b 0/\env 5=.ref d 0/\env 41=ints (aB y)/\env 42=int (aB y).length/\env 43=int k/\f d=some (.cells (z::H9 w.fair))/\(z.cells=[z]/\z.flat=true)/\z.W (jI ((aB x).map (aS w.fair)++(((aB y).take k).map λc=>(Cw w c).lost)))/\(σ.set b (.cells GQ)).Le f) ⟨_,_,a,rfl,by simp[E],by simp[F],by simp[n],by simp,by simp,by simp,p,L,H,g.1⟩ ?_
   rintro Q k _ Z ⟨env,f,z,rfl,E,F,n,I,J,C,p,R,H,D⟩ K
   have qb:f b=some (.cells GQ):=D _ _ (aa.an _ _ _);apply rn;simp[J,C];apply aH.intro<;>intro o<;>simp at o<;>simp[E,F,n,I,C,p,qb,R.2,o,aK]
   . obtain⟨i,r⟩:∃i,(aB y)[k]=i:=⟨_,rfl⟩
     have t:=V i (r ▸ zG o);have j:i.toNat<w.aF.length:=by omega
     have M:Cw w i=w.aF[i.toNat]:=by simp[Cw,j]
     simp only[r];have u:w.aF[i.toNat]?=some w.aF[i.toNat]:=zU j;refine⟨t.1,?_⟩;simp[n,p,u]
     have N:((aB y).take (k+1)).map (λc=>(Cw w c).lost)=((aB y).take k).map (λc=>(Cw w c).lost)++[w.aF[i.toNat].lost]:=by rw[zD o,aaN,r,<-M];rfl
     have hW:Wl [AV.agg (z::H9 w.fair),.sl 6 [bs w.aF[i.toNat].lost] .exact] [cz (dk w (aB x) ((aB y).take k)),jI [w.aF[i.toNat].lost]]:=.cons (Oh H) (.cons (gy _ _ _) .nil);refine⟨?_,?_⟩
     all_goals
      refine bP Tryz.func75 rfl rfl hW (EL (by simp only[aaF,aaP,abz,aaW,abx];omega) ?_)
      rw[abJ,<-N];apply pg;simp[n,p];apply rn;simp[C];refine⟨by omega,K _ (by omega) ⟨_,_,_,rfl,by simp[E],by simp[F],by simp[n],by simp[I],by simp[J],by simp,aa.an _ _ _,⟨rfl,rfl⟩,by simp only[List.map_take];exact .refl _,aa.fC D l⟩⟩
   . have ek:k=(aB y).length:=by omega
     subst ek;rw[aaJ]at H;refine .pM (Oh H) (.less (λc v hv=>?_) (.done h))
     have Q:c≠b:=λe=>by grind
     rw[aa.ai _ _ Q];exact D _ _ (by rw[aa.ai _ _ Q];exact hv)
end CF
def oi(f:Fr)(x y:Int):Int:=iu (((aI f []).filter (gM x y)).length:Int) (aI f []).length
def Ba(n:Int):Nat:=if n=1 then 125 else if n=3 then 284 else 195
abbrev yS(n:Int):AV:=.lM (Ba n) (.agg [])
def uj(n:Int):AV:=if n=0 then .lit .nilIface else yS n
def wE(f:Fr)(es cs:adG)(x:Nat)(N:adG):adG:=(List.range cs.length).foldl (λN y=>N.set (3*(es.getD x 0).toNat+(cs.getD y 0).toNat) (oi f x ((es.length:Int)+y))) N
def Bb(f:Fr)(es cs:adG):adG:=(List.range es.length).foldl (λN x=>wE f es cs x N) (List.replicate 18 0)
abbrev vZ(a b:Int)(N:adG):adL:=[.lit (.int .u32 a),.lit (.int .i32 b),.lit (.int .u32 0)]++N.map uj
theorem Oi(f:Fr)(x y:Int):oi f x y≠0:=by unfold oi iu;omega
theorem jF{σ:aa}{b:Nat}{x:gn}(h:σ b=some x):σ.set b x=σ:=by
 funext c;by_cases e:c=b
 . simp_all
 . simp[aa.set,e]
theorem Oj(f:Fr)(es cs:adG)(x:Nat)(N:adG):(wE f es cs x N).length=N.length:=by
 have key:∀(l:adH) (N:adG),(l.foldl (λN y=>N.set (3*(es.getD x 0).toNat+(cs.getD y 0).toNat) (oi f x ((es.length:Int)+y))) N).length=N.length:=λl=>by
  induction l with
  |nil=>simp_all
  |cons a l b=>simp_all
 exact key _ N
theorem ER{a b c:AV}{N:adG}{i j:Nat}{n:Int}(d:3*i+j<N.length)(f:n≠0):aK (a::b::c::N.map uj) (3+i*3+j) [yS n]=a::b::c::(N.set (3*i+j) n).map uj:=by
 have e:3+i*3+j=3*i+j+1+1+1:=by omega
 rw[e];generalize 3*i+j=p at d ⊢;unfold aK;simp only[List.take_succ_cons,aaW,abx,abL,List.drop_succ_cons,List.cons_append];rw[acv,List.set_eq_take_append_cons_drop,aaB (by simp_all)];simp[uj,f]
theorem Ok(Q:m.solo=true){w:bY}{fb mb bk:Nat}{x y:Int}(K:∀i∈aB x,0<=i/\i<w.fair.aD.length)(L:∀i∈aB y,0<=i/\i<w.aF.length)(D:(dk w (aB x) (aB y)).Good)(R:aI (dk w (aB x) (aB y)) []≠[])(h6:w.fair.aD.length<=6/\w.aF.length<=3)
 (hb:σ bk=some (.cells (vZ 0 1 (List.replicate 18 0)))) (h:KF (.val (.ck [])) (σ.set bk (.cells (vZ 0 1 (Bb (dk w (aB x) (aB y)) (aB x) (aB y)))))):
 aA prog m 147 [.cp (uw fb mb w 0) 0,.cp (.agg [u8 x,u8 y]) 0,.cp (.ref bk 0) 0] σ KF:=by
 have S:=mq x;have T:=mq y;refine fs VB Tryz.func147 rfl (by kernel_rfl) ?_;simp[Tryz.f147]
 repeat' first
  |refine⟨?_,?_⟩
  | (refine cf Tryz.func65 rfl (CF.EP K L ?_)
     apply pg;simp)
  | (refine cf Tryz.func60 rfl (nf ?_)
     apply pg;simp)
  | (refine uG.intro λd hd=>?_
     simp)
 all_goals
  refine af.bq 3 (b:=d) (cz (dk w (aB x) (aB y))) (aa.an _ _ _) (by simp) rfl ?_;rw[ew hd];apply rn;simp;refine af.loop (aB x).length (λk s=>∃env N,s=⟨env,σ.set bk (.cells (vZ 0 1 N)),[],.no⟩/\N.length=18/\N=(List.range k).foldl (λN i=>wE (dk w (aB x) (aB y)) (aB x) (aB y) i N) (List.replicate 18 0)/\env 2=.cp (.ref bk 0) 0/\env 3=.cp (cz (dk w (aB x) (aB y))) 0/\env 4=ints (aB x)/\env 5=ints (aB y)/\env 21=ints (aB x)/\env 22=int (aB x).length/\env 23=int k) ⟨_,List.replicate 18 0,by rw[jF hb],rfl,rfl,by simp⟩ ?_;rintro c0 k _ hk ⟨env,N,rfl,U,p,q,r,u,v,wI,wJ,KI⟩ V;apply rn;simp[wJ,KI];apply aH.intro<;>intro B<;>simp at B<;>simp[v,wI,KI,B]
  . obtain⟨i,E⟩:∃i,(aB x)[k]=i:=⟨_,rfl⟩
    have W:=K i (E ▸ zG B);have F:(aB x).getD k 0=i:=by simp[zA,B,E]
    refine af.loop (aB y).length (λj s=>∃env g,s=⟨env,σ.set bk (.cells (vZ 0 1 g)),[],.no⟩/\g.length=18/\g=(List.range j).foldl (λN M=>N.set (3*i.toNat+((aB y).getD M 0).toNat) (oi (dk w (aB x) (aB y)) k (((aB x).length:Int)+M))) N/\env 2=.cp (.ref bk 0) 0/\env 3=.cp (cz (dk w (aB x) (aB y))) 0/\env 4=ints (aB x)/\env 5=ints (aB y)/\env 21=ints (aB x)/\env 22=int (aB x).length/\env 23=int k/\env 6=int k/\env 7=int i/\env 28=ints (aB y)/\env 29=int (aB y).length/\env 30=int j) ⟨_,N,rfl,U,rfl,by simp[q,r,u,v,wI,wJ,KI,E]⟩ ?_;rintro c1 j _ hj ⟨env,g,rfl,l,e,q,r,u,v,wI,wJ,KI,O,P,z,A,n⟩ G;apply rn;simp[A,n];apply aH.intro<;>intro C<;>simp at C<;>simp[r,u,KI,O,z,n,C]
    . obtain⟨c,o⟩:∃c,(aB y)[j]=c:=⟨_,rfl⟩
      have X:=L c (o ▸ zG C);have H:(aB y).getD j 0=c:=by simp[zA,C,o]
      have Y:(dk w (aB x) (aB y)).aD.length=(aB x).length+(aB y).length:=by simp
      simp only[o];refine⟨by omega,?_⟩;refine cf Tryz.func148 rfl (Qk (f:=dk w (aB x) (aB y)) Q D.fits D.C7 ⟨by omega,by omega⟩ ⟨by omega,by omega⟩ R (Nat.lt_of_le_of_lt (Co D _) (by decide)) ?_);apply rn;simp[q,P];refine⟨by omega,by omega,?_⟩;refine cf Tryz.func149 rfl (GM (t:=Ba (oi (dk w (aB x) (aB y)) k (((aB x).length:Int)+j))) rfl ?_);have I:3+i.toNat*3+c.toNat<=20:=by omega
      have J:=λa b d=>ER (a:=a) (b:=b) (c:=d) (N:=g) (i:=i.toNat) (j:=c.toNat) (by omega) (Oi (dk w (aB x) (aB y)) k (((aB x).length:Int)+j))
      apply pg;simp[l,I,J];apply rn;simp[n];simp only[<-List.map_set];refine⟨by omega,G _ (by omega) ⟨_,g.set (3*i.toNat+c.toNat) (oi (dk w (aB x) (aB y)) k (((aB x).length:Int)+j)),rfl,by rw[abW];exact l,?_,by simp[q,r,u,v,wI,wJ,KI,O,P,z,A]⟩⟩;rw[aaO,abf,<-e];simp only[abr,List.foldl_nil,H]
    . have Z:j=(aB y).length:=by omega
      subst Z;refine⟨by omega,V _ (by omega) ⟨_,g,rfl,l,?_,by simp[q,r,u,v,wI,wJ]⟩⟩;rw[aaO,abf,<-p];simp only[abr,List.foldl_nil];unfold wE;rw[F];exact e
  . have ek:k=(aB x).length:=by omega
    subst ek;refine .done ?_;rw[p];exact h
theorem Rs:C8 prog 156 112 193 110 .u8:=.of (by kernel_rfl) (by kernel_rfl) (by kernel_rfl) (by kernel_rfl)
abbrev yT(w:bY)(p:Int × Int):adG:=Bb (dk w (aB p.1) (aB p.2)) (aB p.1) (aB p.2)
def fj(w:bY)(mb:Nat)(σ:aa):Prop:=∃l,σ mb=some (ns (p9 .u8) l)/\∀p a,du l p=some a->∃bk,a=.ref bk 0/\bk≠mb/\σ bk=some (.cells (vZ 1 0 (yT w p)))
def fJ(mb:Nat)(σ σ':aa):Prop:=∀c x,σ c=some x->c≠mb->σ' c=some x
theorem fJ.refl(mb:Nat)(σ:aa):fJ mb σ σ:=λ_ _ h _=>h
theorem fJ.trans{mb:Nat}{a b c:aa}(h:fJ mb a b)(h':fJ mb b c):fJ mb a c:=λd x q n=>h' d x (h d x q n) n
structure bY.Bk(w:bY)(x y:Int):Prop where
 hx:∀i∈aB x,0<=i/\i<w.fair.aD.length
 hy:∀i∈aB y,0<=i/\i<w.aF.length
 n8:(dk w (aB x) (aB y)).Good
 some:aI (dk w (aB x) (aB y)) []≠[]
theorem GR{l:List ((Int × Int) × AV)}{p q:Int × Int}{a b:AV}(h:du (l++[(q,b)]) p=some a):du l p=some a\/p=q/\a=b:=by
 unfold du at h ⊢;rw[List.find?_append]at h;cases e:l.find? (λr=>p==r.1)with
 |some r=>simp_all
 |none=>grind
theorem Ol(J:m.solo=true){w:bY}{fb mb:Nat}{x y:Int}(hb:w.Bk x y)(P:w.fair.aD.length<=6/\w.aF.length<=3)(Q:fj w mb σ)
 (h:∀bk σ',fj w mb σ'->fJ mb σ σ'->σ' bk=some (.cells (vZ 1 0 (yT w (x,y))))->KF (.val (.ref bk 0)) σ'):aA prog m 110 [uw fb mb w 0,.agg [u8 x,u8 y]] σ KF:=by
 obtain⟨l,s,A⟩:=Q;refine aA.start lay [15] Vy 2 Tryz.func110 rfl rfl (by rfl) (by kernel_rfl) ?_
 simp[Tryz.f110]
 have f:∀{o:Oper}{env:Env}{σ:aa}{K R:adm},o.op=.lookup 156 (.tmp 9) (.tmp 10) false->env 9=.map mb->env 10=p9 .u8 (x,y)->σ mb=some (ns (p9 .u8) l)->K ((du l (x,y)).getD (.lit (.pointer none))) σ->aJ prog o env σ K R:=λS T E U F=>xE lay (Rs.key lay MB rfl) S Vr T E U F
 have t:du l (x,y)=none\/∃bk,du l (x,y)=some (.ref bk 0)/\bk≠mb/\σ bk=some (.cells (vZ 1 0 (yT w (x,y)))):=by
  cases e:du l (x,y)with
  |none=>simp_all
  |some a=>simp_all
 rcases t with j|⟨bk,j,V,B⟩
 . refine⟨f rfl (by simp) (by simp[p9]) s ?_,?_⟩
   rotate_left
   refine uG.intro λd hd=>?_
   have u:mb≠d:=λe=>by simp_all
   simp;refine f rfl (by simp) (by simp[p9]) (by simp[aa.ai,u,s]) ?_
   rw[j];refine aM.go lay [15] ?_;simp
   rotate_left
   rw[j];refine aM.go lay [15] ?_;simp;refine uG.intro λd hd=>?_
   have u:mb≠d:=λe=>by simp_all
   simp
   all_goals
    refine af.run lay [15] ?_;simp;refine pe (vx:=.pointer none) (vy:=.pointer none) (r:=.bool true) rfl (λk v g=>by simpa using AF.1 g) (λk v g=>by simpa using AF.1 g) (by kernel_rfl) ?_
    refine af.run lay [15] ?_;simp;refine bK.intro λbk C=>?_
    obtain⟨W,X,i⟩:=aa.aP C;have D:mb≠bk:=λe=>by rw[<-e,s]at i;cases i
    simp[X,aa.ai];refine rL (Rs.key lay MB rfl) rfl (b:=mb) (l:=l) (n:=(x,y)) (a:=.ref bk 0) (by simp) (by simp[p9]) (by simp) (by simp[aa.set,u,D,s]) j ?_
    refine aM.go lay [15] ?_;simp;refine af.bq 5 (b:=d) (.ref bk 0) (by simp[aa.set,za u]) (by simp) rfl ?_
    refine af.gX (λe q=>(e 2=.cp (uw fb mb w 0) 0/\e 3=.cp (.agg [u8 x,u8 y]) 0/\e 5=.cp (.ref bk 0) 0)/\q mb=some (ns (p9 .u8) (l++[((x,y),.ref bk 0)]))/\q bk=some (.cells (vZ 0 0 (List.replicate 18 0)))/\fJ mb σ q) ⟨by simp,by simp[aa.set,aa.del,u],by simp[aa.set,aa.del,W,za D,List.replicate,uj],λc v g z=>?_⟩ ?_
    . have Y:c≠d:=λe=>by rw[e,hd]at g;cases g
      have G:c≠bk:=λe=>by rw[e,i]at g;cases g
      simp[aa.set,aa.del,Y,G,z,g]
    rintro env q ⟨⟨Z,e3,L⟩,q1,q2,M⟩
    refine af.run lay [15] ?_;simp[Z,e3,L];refine cf Tryz.func146 rfl (Cv J q2 rfl rfl rfl λK F=>dp Tryz.func147 rfl rfl rfl (Ok J hb.hx hb.hy hb.n8 hb.some P (aa.an _ _ _) (F _ _ (aa.an _ _ _) rfl rfl rfl ?_)))
    simp only[aa.set_set];refine af.run lay [15] ?_;simp[L];refine .done (h bk _ ⟨_,(aa.ai _ _ D).trans q1,λp a H=>?_⟩ (λc v g z=>?_) (aa.an _ _ _))
    . rcases GR H with H|⟨rfl,rfl⟩
      . obtain⟨N,rfl,O,I⟩:=A _ _ H
        have h3:N≠bk:=λe=>by rw[e,i]at I;cases I
        exact⟨N,rfl,O,(aa.ai _ _ h3).trans (M _ _ I O)⟩
      . exact⟨bk,rfl,za D,aa.an _ _ _⟩
    . have G:c≠bk:=λe=>by rw[e,i]at g;cases g
      exact(aa.ai _ _ G).trans (M _ _ g z)
 . refine⟨f rfl (by simp) (by simp[p9]) s ?_,?_⟩
   rotate_left
   refine uG.intro λd hd=>?_
   have u:mb≠d:=λe=>by simp_all
   simp;refine f rfl (by simp) (by simp[p9]) (by simp[aa.ai,u,s]) ?_
   rw[j];refine aM.go lay [15] ?_;simp
   rotate_left
   rw[j];refine aM.go lay [15] ?_;simp;refine uG.intro λd hd=>?_
   simp
   all_goals
    refine af.bq 5 (b:=d) (.ref bk 0) (aa.an _ _ _) (by simp) rfl ?_
    rw[ew hd];refine af.run lay [15] ?_;simp;refine pe (vx:=.pointer (some ⟨bk,0,none⟩)) (vy:=.pointer none) (r:=.bool false) rfl (λk v g=>by simpa using Vf.1 g) (λk v g=>by simpa using AF.1 g) (by kernel_rfl) ?_
    refine af.run lay [15] ?_;simp;refine cf Tryz.func146 rfl (EN B rfl ?_);refine af.run lay [15] ?_;simp;exact .done (h bk σ ⟨l,s,A⟩ (.refl mb σ) B)
abbrev kE(w:bY)(h:Int):Int:=aT (dS w h)
abbrev kC(w:bY)(h:Int):Int:=aT (cR w h)
structure bY.Open(w:bY):Prop where
 pJ:w.fair.aD.length<=6/\w.aF.length<=3
 bk:∀h,w.Bk (kE w h) (kC w h)
def gg(w:bY)(h i c:Int):Int:=(yT w (kE w h,kC w h)).getD (3*i.toNat+c.toNat) 0
theorem Kl(f:Fr)(es cs:adG):(Bb f es cs).length=18:=by
 have key:∀(l:adH) (N:adG),(l.foldl (λN x=>wE f es cs x N) N).length=N.length:=λl=>by
  induction l with
  |nil=>simp_all
  |cons a l b=>exact λN=>(b _).trans (Oj ..)
 exact key _ _
theorem ES(p:m.solo=true){w:bY}{fb mb:Nat}{h i c:Int}(b:w.Open)(hi:0<=i/\i<6)(f:0<=c/\c<3)(q:fj w mb σ)(d:∀σ',fj w mb σ'->fJ mb σ σ'->KF (.val (yS (gg w h i c))) σ'):aA prog m 67 [uw fb mb w 0,int h,int i,int c] σ KF:=by
 refine fs [] Tryz.func67 rfl (by kernel_rfl) ?_
 simp[Tryz.f67];refine cf Tryz.func59 rfl (CK.A9 b.pJ.1 b.pJ.2 ?_);apply rn;simp;refine cf Tryz.func110 rfl (Ol p (b.bk h) b.pJ q λbk σ' g j k=>?_)
 have hlen:=Kl (dk w (aB (kE w h)) (aB (kC w h))) (aB (kE w h)) (aB (kC w h));obtain⟨N,l⟩:∃N,N=yT w (kE w h,kC w h):=⟨_,rfl⟩;have r:N.length=18:=by simp_all
 have s:gg w h i c=N.getD (3*i.toNat+c.toNat) 0:=by rw[l];rfl
 rw[<-l]at k
 have a:(AV.lit (.int .u32 1)::.lit (.int .i32 0)::.lit (.int .u32 0)::N.map uj)[3+i.toNat*3+c.toNat]?=some (uj (gg w h i c)):=by
  have e:3+i.toNat*3+c.toNat=3*i.toNat+c.toNat+3:=by omega
  have t:3*i.toNat+c.toNat<N.length:=by omega
  simp_all
 generalize gg w h i c=n at d a;apply rn;simp[k,hi.1,hi.2,f.1,f.2,a]
 by_cases o:n=0
 . subst o
   refine dU lay rfl Rd rfl (.inl ⟨by simp[uj],rfl⟩) (.inr ⟨rfl,rfl⟩) ?_
   apply rn;simp;exact .done (d σ' g j)
 . have e:uj n=yS n:=aay o
   rw[e];refine dU lay rfl Rd rfl (.inr ⟨⟨Ba n,.agg [],by simp⟩,rfl⟩) (.inr ⟨rfl,rfl⟩) ?_
   apply rn;simp;exact .done (d σ' g j)
def vn(n:Int):Bool:=n==1||n==3
theorem vo{t f:Nat}(h:eY prog (Go.method (prog.types.size+Made.depth) t (.agg #[])  "palfrey/cry.holds")=some (f,.agg #[])):oE prog t  "palfrey/cry.holds" f (.agg []) (.agg []):=vY λk v b=>by
 cases b with
 | agg c l d e=>
   obtain⟨c⟩:=c
   match c,d with
   |[],_=>exact⟨_,h,.agg _ _ rfl λi v a h=>by simp at h⟩
theorem ET(h:KF (.val (bool true)) σ):aA prog m 232 [.agg []] σ KF:=by
 refine fs [] Tryz.func232 rfl (by kernel_rfl) ?_;simp[Tryz.f232];exact .done h
theorem EU(h:KF (.val (bool true)) σ):aA prog m 258 [.agg []] σ KF:=by
 refine fs [] Tryz.func258 rfl (by kernel_rfl) ?_;simp[Tryz.f258];exact .done h
theorem EV(h:KF (.val (bool false)) σ):aA prog m 233 [.agg []] σ KF:=by
 refine fs [] Tryz.func233 rfl (by kernel_rfl) ?_;simp[Tryz.f233];exact .done h
theorem Om(b:m.solo=true){w:bY}{fb mb:Nat}{h i c:Int}(d:w.Open)(hi:0<=i/\i<6)(f:0<=c/\c<3)(g:fj w mb σ)(a:∀σ',fj w mb σ'->fJ mb σ σ'->KF (.val (bool (vn (gg w h i c)))) σ'):aA prog m 102 [int c,.cp (uw fb mb w 0) 0,.cp (int h) 0,.cp (int i) 0] σ KF:=by
 refine fs [] Tryz.func102 rfl (by kernel_rfl) ?_
 simp[Tryz.f102];refine cf Tryz.func67 rfl (ES b d hi f g λσ' j k=>?_)
 have a:=a σ' j k;generalize gg w h i c=n at a;unfold vn at a
 by_cases l:n=1
 . subst l
   apply rn;simp;refine af.invoke rfl rfl rfl (by simp) rfl (vo (by kernel_rfl)) Tryz.func232 rfl rfl (ET ?_)
   apply rn;simp;exact .done a
 by_cases o:n=3
 . subst o
   apply rn;simp;refine af.invoke rfl rfl rfl (by simp) rfl (vo (by kernel_rfl)) Tryz.func258 rfl rfl (EU ?_)
   apply rn;simp;exact .done a
 have e:yS n=.lM 195 (.agg []):=by unfold yS Ba;simp_all
 rw[e];apply rn;simp;refine af.invoke rfl rfl rfl (by simp) rfl (vo (by kernel_rfl)) Tryz.func233 rfl rfl (EV ?_)
 apply rn;simp;rw[show(n==1)=false by simp_all,show(n==3)=false by simp_all]at a
 exact .done a
theorem uk{σ0 σ σ2:aa}{a:AV}{kk:Nat}{es:adL}(h:Tok σ0 σ a kk es)(d:∀b e,σ b=some (.tail e)->σ2 b=some (.tail e)):Tok (σ2.off a) σ2 a kk es:=by
 rcases h.2 with⟨rfl,rfl⟩|rfl|⟨b,e,_,rfl,f⟩
 . exact⟨aa.le_refl _,.inl ⟨rfl,rfl⟩⟩
 . exact⟨aa.le_refl _,.inr (.inl rfl)⟩
 . refine⟨λc x g=>?_,.inr (.inr ⟨b,e,by simp[aa.off,bp,aa.del],rfl,d b e f⟩)⟩
   simp only[aa.off,bp,aa.del]at g
   simp_all
structure V0(I:adJ)(mb:Nat):Prop where
 le:∀{σ σ':aa},I σ->(∀c x,σ c=some x->(∀e,x≠.tail e)->σ' c=some x)->I σ'
 mb:∀{σ:aa},I σ->∀e,σ mb≠some (.tail e)
theorem GU{σ0 σ:aa}{a:AV}{kk:Nat}{es:adL}(h:Tok σ0 σ a kk es){c:Nat}{x:gn}(b:σ c=some x)(d:∀e,x≠.tail e):(σ.off a) c=some x:=by
 rw[aa.dQ λe=>?_]
 . exact b
 . obtain⟨_,n,q⟩:=h.aY e
   grind
theorem On{I:adJ}{mb:Nat}(y:V0 I mb){f:AV}{l:adG}{p:Int->Bool}(T:l.length<=1000)(z:f.flat=true)
 (P:∀x∈l,∀(σ:aa) (K:adl),I σ->(∀σ',I σ'->fJ mb σ σ'->K (.val (bool (p x))) σ')->bI prog m f [int x] σ K)
 (Q:I σ) (h:∀σ',I σ'->fJ mb σ σ'->KF (.val (ints (l.filter p))) σ'):aA prog m 86 [.agg [f],ints l] σ KF:=by
 refine fs [] Tryz.func86 rfl (by kernel_rfl) ?_
 simp[Tryz.f86];refine⟨z,?_⟩;refine af.loop l.length (λk s=>∃env σ' a,s=⟨env,σ',[],.no⟩/\env 2=.cp (.agg [f]) 0/\env 8=ints l/\env 9=int l.length/\env 10=int k/\env 5=a/\I σ'/\Tok (σ'.off a) σ' a 1 (((l.take k).filter p).map int)/\fJ mb σ (σ'.off a)) ?_ ?_
 . refine⟨_,σ,AV.nil,rfl,?_,?_,?_,?_,?_,Q,Tok.nil σ 1,fJ.refl mb σ⟩<;>simp
 rintro U k _ V ⟨env,σ',a,rfl,A,B,C,cS,u,D,d,hb⟩ J
 apply rn;simp[C,cS];apply aH.intro<;>intro v<;>simp at v<;>simp[A,B,cS,u,v]
 . have L:(l.take (k+1)).filter p=(l.take k).filter p++if p l[k]then[l[k]]else[]:=by
    rw[zD v,abH]
    grind
   have R:((l.take k).filter p).length<=k:=aaG (abo _ _) (by grind)
   refine P _ (zG v) _ _ D λσ2 M j=>?_
   have o:=uk d (σ2:=σ2) (λb e r=>j b _ r λq=>y.mb D e (q ▸ r))
   have g:fJ mb σ (σ2.off a):=λc x i w=>by
    have N:=hb c x i w;have E:bp a≠some c:=λe=>by obtain⟨n,_⟩:=d.aY e;grind
    rw[aa.dQ E]at N ⊢;exact j c x N w
   apply rn;simp;cases O:p l[k]
   . rw[O,aay (by simp),abh]at L
     simp[cS];refine⟨by omega,J _ (by omega) ⟨_,σ2,a,rfl,?_,?_,?_,?_,?_,M,by grind,g⟩⟩<;>simp[A,B,C,u]
   . rw[O,aaB rfl]at L
     simp[u];refine aN lay rfl rfl rfl dD rfl dD rfl rD (by decide) (by grind) (σ0:=σ2.off a) (es:=((l.take k).filter p).map int) (xs:=[int l[k]]) (by simpa[u]using o) (.inr ⟨_,by simp;rfl⟩) λS F t=>?_
     apply rn;simp[cS];have G:=t.here;refine⟨by omega,J _ (by omega) ⟨_,F,S,rfl,?_,?_,?_,?_,?_,y.le M λc x i H=>t.1 _ _ (GU o i H),by rw[L,List.map_append];exact G.1,λc x i w=>G.2 _ _ (g c x i w)⟩⟩<;>simp[A,B,C]
 . have ek:k=l.length:=by omega
   subst ek;rw[aaJ]at d;refine .pM d.W (.less d.1 (.done (h _ (y.le D λc x i H=>GU d i H) hb)))
theorem sF(w:bY)(mb:Nat):V0 (fj w mb) mb where
 le h hk:=by
  obtain⟨l,b,c⟩:=h;refine⟨l,hk _ _ b (by simp[ns]),λp a d=>?_⟩
  grind
 mb h e q:=by obtain⟨l,b,_⟩:=h;rw[b]at q;simp[ns]at q
theorem ry{n:Nat}{x:Int}(h:x∈pQ n):0<=x/\x<n:=by grind
theorem rz(n:Nat):(pQ n).length=n:=by grind
def vp(w:bY)(h i:Int):adG:=(pQ w.aF.length).filter λc=>vn (gg w h i c)
def mD(w:bY)(h:Int):adG:=(pQ w.fair.aD.length).filter λi=>decide (0<(vp w h i).length)
theorem Cx(c:m.solo=true){w:bY}{fb mb:Nat}{h i:Int}(b:w.Open)(hi:0<=i/\i<6)(d:fj w mb σ)(a:∀σ',fj w mb σ'->fJ mb σ σ'->KF (.val (ints (vp w h i))) σ'):aA prog m 61 [uw fb mb w 0,int h,int i] σ KF:=by
 have j:=b.pJ.2;refine fs [] Tryz.func61 rfl (by kernel_rfl) ?_;simp[Tryz.f61];refine cf Tryz.func49 rfl (rv (by omega) ?_);apply rn;simp;refine cf Tryz.func86 rfl (On (sF w mb) (by grind) rfl (λx k σ K e a=>dp Tryz.func102 rfl rfl rfl (Om c b hi (by grind) e a)) d λσ' f g=>?_);apply rn;simp;exact .done (a σ' f g)
theorem Oo(a:m.solo=true){w:bY}{fb mb:Nat}{h i:Int}(b:w.Open)(hi:0<=i/\i<6)(c:fj w mb σ)(d:∀σ',fj w mb σ'->fJ mb σ σ'->KF (.val (bool (decide (0<(vp w h i).length)))) σ'):aA prog m 87 [int i,.cp (uw fb mb w 0) 0,.cp (int h) 0] σ KF:=by
 refine fs [] Tryz.func87 rfl (by kernel_rfl) ?_;simp[Tryz.f87];refine cf Tryz.func61 rfl (Cx a b hi c λσ' e f=>?_);apply rn;simp;refine .done ?_
 simp_all
theorem yU(c:m.solo=true){w:bY}{fb mb:Nat}{h:Int}(b:w.Open)(d:fj w mb σ)(a:∀σ',fj w mb σ'->fJ mb σ σ'->KF (.val (ints (mD w h))) σ'):aA prog m 42 [uw fb mb w 0,int h] σ KF:=by
 have i:=b.pJ.1;refine fs [] Tryz.func42 rfl (by kernel_rfl) ?_;simp[Tryz.f42];refine cf Tryz.func49 rfl (rv (by omega) ?_);apply rn;simp;refine cf Tryz.func86 rfl (On (sF w mb) (by grind) rfl (λx j σ K e a=>dp Tryz.func87 rfl rfl rfl (Oo c b (by grind) e a)) d λσ' f g=>?_);apply rn;simp;exact .done (a σ' f g)
theorem Ki.yV{σ σ':aa}{fb mb:Nat}{w:bY}(h:Ki σ fb mb w σ'):fj w mb σ':=⟨[],by rw[h.eq,aa.ai _ _ (za h.ne),aa.an],λp a b=>by simp[du]at b⟩
theorem Ki.less{σ σ' σ2:aa}{fb mb:Nat}{w:bY}(h:Ki σ fb mb w σ')(hb:fJ mb σ' σ2):σ.Le σ2:=λc x a=>by
 have d:c≠fb:=λe=>by rw[e,h.f0]at a;cases a
 have b:c≠mb:=λe=>by rw[e,h.m0]at a;cases a
 exact hb c x (by rw[h.eq,aa.ai _ _ d,aa.ai _ _ b];exact a) b
abbrev nF:AV:=.lit (.slice none 0 0)
theorem Rt{a b c d a' b' c' d':AV}(e:a.W a')(f:b.W b')(g:c.W c')(h:d.W d'):Wl [a,b,c,d] [a',b',c',d']:=.cons e (.cons f (.cons g (.cons h .nil)))
theorem ni(e:m.solo=true){w:bY}(f:w.qG){c:Nat}(h:c<3)(i:fh w [] [] [(c:Int)]=0)(b:if 72<cd w c then KF (.val (.ck [int 0,int 11])) σ else KF (.val (.ck [int (cd w c),int 0])) σ):aA prog m 22 [dB w,int c] σ KF:=by
 have j:Wl [dB w,nF,nF,.sl 1 [int c] .exact] [dB w,ints [],ints [],ints [(c:Int)]]:=Rt (.refl _) (fa 1) (fa 1) (gy 1 _ _);refine fs [] Tryz.func22 rfl (by kernel_rfl) ?_;simp[Tryz.f22];refine bP Tryz.func41 rfl rfl j (kH e f (by simp) (λq=>absurd i q) λ_ d fb mb k=>?_);have a:=k.less (.refl mb d);apply rn;simp;refine cf Tryz.func55 rfl (qI h ?_);split at b
 . next g=>rw[aaB g];apply rn;simp;refine cf Tryz.func56 rfl (H8 ?_);apply rn;simp;exact .less a (.done b)
 . next g=>rw[aay g];apply rn;simp;refine cf Tryz.func56 rfl (Of ?_);apply rn;simp;exact .less a (.done b)
theorem Oq(a:m.solo=true){w:bY}(f:w.qG)(g:w.Open){h:Int}(b:fh w [h] [] []≠0->KF (.val (.ck [nF,int (fh w [h] [] [])])) σ)(i:fh w [h] [] []=0->KF (.val (.ck [ints (mD w h),int 0])) σ):aA prog m 11 [dB w,int h] σ KF:=by
 have j:Wl [dB w,.sl 1 [int h] .exact,nF,nF] [dB w,ints [h],ints [],ints []]:=Rt (.refl _) (gy 1 _ _) (fa 1) (fa 1);obtain⟨e,k⟩:∃e,e=fh w [h] [] []:=⟨_,rfl⟩;refine fs [] Tryz.func11 rfl (by kernel_rfl) ?_;simp[Tryz.f11];refine bP Tryz.func41 rfl rfl j (kH a f (by simp) (λq=>?_) λq l fb mb c=>?_)
 . rw[<-k]at q b ⊢
   have d:(e !=0)=true:=by grind
   apply rn;simp[d];exact .done (b q)
 . apply rn
   simp;refine cf Tryz.func42 rfl (yU a g c.yV λn d o=>?_);apply rn;simp;exact .less (c.less o) (.done (i q))
theorem Qu(a:m.solo=true){w:bY}(c:w.qG)(d:w.Open){h i:Int}(hi:0<=i/\i<6)(e:fh w [h] [i] []=0)(f:KF (.val (.ck [ints (vp w h i),int 0])) σ):aA prog m 28 [dB w,int h,int i] σ KF:=by
 have g:Wl [dB w,.sl 1 [int h] .exact,.sl 1 [int i] .exact,nF] [dB w,ints [h],ints [i],ints []]:=Rt (.refl _) (gy 1 _ _) (gy 1 _ _) (fa 1);refine fs [] Tryz.func28 rfl (by kernel_rfl) ?_;simp[Tryz.f28];refine bP Tryz.func41 rfl rfl g (kH a c (by simp) (λq=>absurd e q) λq j fb mb b=>?_);apply rn;simp;refine cf Tryz.func61 rfl (Cx a d hi b.yV λk n l=>?_);apply rn;simp;exact .less (b.less l) (.done f)
def yW(w:bY)(h i:Int):Bool:=decide (0<(vp w h i).length)
def bQ(w:bY)(i:Int):Nat->Int × List (Int × Int)
 |0=>(1048576,[])
 |h+1=>if(h:Int)<=72/\yW w h i=true then(if(h:Int)<(bQ w i h).1 then(h:Int)else(bQ w i h).1,(bQ w i h).2)else if(bQ w i h).1<1048576 then(1048576,(bQ w i h).2++[((bQ w i h).1,(h:Int)-1)])else(1048576,(bQ w i h).2)
def cu(w:bY)(i:Int):acV:=(bQ w i 74).2
abbrev kR(r:Int × Int):AV:=.agg [int r.1,int r.2]
theorem Cy(w:bY)(i:Int):∀h:Nat,0<=(bQ w i h).1/\(bQ w i h).1<=1048576
 |0=>by simp[bQ]
 | h+1=>by
   have:=Cy w i h;unfold bQ
   grind
theorem EW(w:bY)(i:Int):∀d h:Nat,(bQ w i h).2 <+: (bQ w i (h+d)).2
 |0,h=>List.prefix_refl _
 | d+1,h=>by
   refine(EW w i d h).trans ?_;show _ <+: (bQ w i ((h+d)+1)).2
   conv=>rhs;unfold bQ
   grind
theorem Ia{w:bY}{i:Int}{h:Nat}(d:h<74){r:Int × Int}(b:(bQ w i (h+1)).2=(bQ w i h).2++[r]):∃f:(bQ w i h).2.length<(cu w i).length,(cu w i)[(bQ w i h).2.length]=r:=by
 have a:=EW w i (73-h) (h+1);rw[show h+1+(73-h)=74 by omega,b]at a;obtain⟨t,c⟩:=a;have e:cu w i=(bQ w i h).2++[r]++t:=c.symm
 grind
theorem Bc(C:m.solo=true){w:bY}{fb mb:Nat}{i:Int}(D:w.Open)(hi:0<=i/\i<6){y:AV}{I:Nat->adJ}(E:y.cells=[y]/\y.flat=true)
 (t:∀k σ σ',I k σ->fJ mb σ σ'->fj w mb σ'->I k σ') (hb:∀k σ,I k σ->fj w mb σ)
 (B:∀k (F:k<(cu w i).length) (σ:aa) (K:adl),I k σ->(∀σ',I (k+1) σ'->K (.val (bool true)) σ')->bI prog m y [kR (cu w i)[k]] σ K)
 (G:I 0 σ) (h:∀σ',I (cu w i).length σ'->KF (.val (.ck [])) σ'):aA prog m 100 [y,.cp (uw fb mb w 0) 0,.cp (int i) 0] σ KF:=by
 refine fs [] Tryz.func100 rfl (by kernel_rfl) ?_;simp[Tryz.f100];refine af.loop 74 (λk s=>∃env σ',s=⟨env,σ',[],.no⟩/\env 0=y/\env 1=.cp (uw fb mb w 0) 0/\env 2=.cp (int i) 0/\env 4=int (bQ w i k).1/\env 7=int k/\I (bQ w i k).2.length σ') ⟨_,_,rfl,by simp,by simp,by simp,by simp[bQ],by simp,G⟩ ?_;rintro N k _ F ⟨env,σ',rfl,c,j,l,r,d,n⟩ o;have H:=Cy w i k;apply rn;simp[d];apply aH.intro<;>intro p<;>simp at p<;>simp[d,p]
 . have p : k<74:=by omega
   refine uu.intro (λu=>?_) (λu=>?_)<;>(try simp[-Int.not_lt,-Int.not_le]at u)<;>(try simp[j,l,r,u])
   . refine cf Tryz.func61 rfl (Cx C D hi (hb _ _ n) λJ L M=>?_)
     have n:=t _ _ _ n M L;apply rn;simp;apply aH.intro<;>intro v<;>simp at v<;>simp[r,d,v]
     . have b:bQ w i (k+1)=(if (k:Int)<(bQ w i k).1 then (k:Int)else (bQ w i k).1,(bQ w i k).2):=by
        conv=>lhs;unfold bQ
        rw[aaB ⟨by omega,by unfold yW;simp_all⟩]
       refine⟨by omega,o _ (by omega) ⟨_,_,rfl,by simp[c],by simp[j],by simp[l],by rw[b];simp,by simp,by grind⟩⟩
     . have x:¬((k:Int)<=72/\yW w k i=true):=λq=>by have:=q.2;simp[yW,v]at this
       refine uu.intro (λe=>?_) (λe=>?_)<;>(try simp[-Int.not_lt,-Int.not_le]at e)<;>(try simp[c,r,d,e])
       . have b:bQ w i (k+1)=(1048576,(bQ w i k).2++[((bQ w i k).1,(k:Int)-1)]):=by
          conv=>lhs;unfold bQ
          grind
         obtain⟨z,f⟩:=Ia (w:=w) (i:=i) p (by rw[b]);have a:=B _ z;rw[f]at a;refine⟨by omega,?_⟩;refine a _ _ n λg A=>?_
         apply rn;simp[d];refine⟨by omega,o _ (by omega) ⟨_,g,rfl,by simp[c],by simp[j],by simp[l],by rw[b];simp,by simp,by grind⟩⟩
       . have b:bQ w i (k+1)=(1048576,(bQ w i k).2):=by
          conv=>lhs;unfold bQ
          grind
         refine⟨by omega,o _ (by omega) ⟨_,_,rfl,?_,?_,?_,by simp_all,?_,by simp_all⟩⟩<;>simp[c,j,l]
   . have x:¬((k:Int)<=72/\yW w k i=true):=λq=>by omega
     refine uu.intro (λe=>?_) (λe=>?_)<;>(try simp[-Int.not_lt,-Int.not_le]at e)<;>(try simp[c,r,d,e])
     . have b:bQ w i (k+1)=(1048576,(bQ w i k).2++[((bQ w i k).1,(k:Int)-1)]):=by
        conv=>lhs;unfold bQ
        grind
       obtain⟨z,f⟩:=Ia (w:=w) (i:=i) p (by rw[b]);have a:=B _ z;rw[f]at a;refine⟨by omega,?_⟩;refine a _ _ n λg A=>?_
       apply rn;simp[d];refine⟨by omega,o _ (by omega) ⟨_,g,rfl,?_,?_,?_,by simp_all,?_,by simp_all⟩⟩<;>simp[c,j,l]
     . have b:bQ w i (k+1)=(1048576,(bQ w i k).2):=by
        conv=>lhs;unfold bQ
        grind
       refine⟨by omega,o _ (by omega) ⟨_,_,rfl,?_,?_,?_,by simp_all,?_,by simp_all⟩⟩<;>simp[c,j,l]
 . have ek:k=74:=by omega
   subst ek;exact .done (h _ n)
abbrev Cz(fb mb:Nat)(w:bY)(i:Int):AV:=.fn (.func 100) [] [.cp (uw fb mb w 0) 0,.cp (int i) 0]
theorem Bd{w:bY}{fb mb:Nat}{i:Int}(h:KF (.val (Cz fb mb w i)) σ):aA prog m 58 [uw fb mb w 0,int i] σ KF:=by
 refine fs [] Tryz.func58 rfl (by kernel_rfl) ?_;simp[Tryz.f58];exact .done h
theorem rA(w:bY)(i:Int):∀h:Nat,(bQ w i h).2.length<=h
 |0=>by simp[bQ]
 | h+1=>by
   have:=rA w i h;unfold bQ
   grind
theorem fj.mono{w:bY}{mb:Nat}{σ σ':aa}(h:fj w mb σ)(b:∀d x,σ d=some x->(∀e,x≠.tail e)->(∀a,x≠.cells [a])->(∀y,x≠.loop y)->(∀o,x≠.raw o)->σ' d=some x):fj w mb σ':=by
 obtain⟨l,c,f⟩:=h;refine⟨l,b _ _ c (by simp[ns]) (by simp[ns]) (by simp[ns]) (by simp[ns]),λp a g=>?_⟩
 grind
abbrev px(l:acV):AV:=.sl 2 (l.map kR) .any
theorem zS(Q:m.solo=true){w:bY}{fb mb:Nat}{i:Int}(hO:w.Open)(hi:0<=i/\i<6)(hB:fj w mb σ)(h:∀σ',fj w mb σ'->fJ mb σ σ'->KF (.val (px (cu w i))) σ'):aA prog m 99 [nF,Cz fb mb w i] σ KF:=by
 have hlen:=rA w i 74;refine aA.start lay [2] [] 2 Tryz.func99 rfl rfl (by rfl) (by kernel_rfl) ?_
 simp[Tryz.f99];refine bK.intro λc hc=>?_
 simp;refine af.rangeFunc rfl λR r l S T s=>?_
 obtain⟨r1,r2,S⟩:=aa.aP S;obtain⟨B,l2,T⟩:=aa.aP T;generalize C:nG.mk _ _ _ _ _ _ _ _ _=al;have nm:∀d,σ d=none->d≠mb:=λd hd e=>by obtain⟨x,q,_⟩:=hB;simp_all
 have cm:=nm c hc;have lm:=nm l T;have rm:=nm r S;refine dp Tryz.func100 rfl rfl rfl (Bc Q hO hi (y:=.fn (.yield l) [] []) (I:=λk σ'=>fj w mb σ'/\σ' l=some (.loop al)/\σ' r=some (.raw (.deferred (some [])))/\∃a,σ' c=some (.cells [a])/\Tok (σ'.off a) σ' a 2 (((cu w i).take k).map kR)/\fJ mb σ (σ'.off a)) ⟨rfl,rfl⟩ ?_ ?_ ?_ ?_ ?_)
 . rintro k f ab ⟨D,z,E,a,F,g,G⟩ t U
   refine⟨U,t _ _ z lm,t _ _ E rm,a,t _ _ F cm,uk g λb e o=>t b _ o λq=>(sF w mb).mb D e (q ▸ o),λd x H hd=>?_⟩
   have J:=G d x H hd;have V:bp a≠some d:=λe=>by obtain⟨n,_⟩:=g.aY e;simp_all
   rw[aa.dQ V]at J ⊢;exact t _ _ J hd
 . simp_all
 . rintro k t f K ⟨D,z,E,a,F,g,G⟩ hK
   have Y:=g.cells;subst C;refine bI.uF (hold:=[]) R Tryz.func99 z rfl ?_;apply rn;simp[lO];refine bK.intro λq hq=>?_
   simp
   change af _ _ _ _ _ _ _ _ _
   refine af.runN lay [] 1 ?_;simp
   change af _ _ _ _ _ _ _ _ _
   refine af.bq 5 (b:=q) (kR (cu w i)[k]) (aa.an _ _ _) (by simp) rfl ?_
   rw[ew hq];refine af.beginRound z rfl ?_;have cl:∀x,(f.set l x) c=some (.cells [a]):=λx=>(aa.ai _ _ (za B)).trans F
   apply rn;simp[cl];have H:∀X,Tok ((f.set l X).off a) (f.set l X) a 2 (((cu w i).take k).map kR):=λX=>uk g λb e o=>(aa.ai _ _ (λq=>by simp_all)).trans o
   have Q:((cu w i).take (k+1)).map kR=((cu w i).take k).map kR++[kR (cu w i)[k]]:=by rw[zD t,aaN];rfl
   refine aN lay rfl rfl rfl Vp rfl Vp rfl Xo (by decide) (by simp only[aaP,abz,aaW,abx];unfold cu;omega) (es:=((cu w i).take k).map kR) (xs:=[kR (cu w i)[k]]) (H _) (.inr ⟨_,by simp;rfl⟩) λZ u j=>?_
   rw[<-Q]at j;have L:=j.cells;have a7:bp a≠some c:=λe=>by obtain⟨_,_,q⟩:=g.aY e;simp_all
   have t3:u c=some (.cells [a]):=j.1 _ _ (by rw[aa.dQ a7];exact cl _)
   have a8:bp a≠some l:=λe=>by obtain⟨_,_,q⟩:=g.aY e;simp_all
   have t4:=λ(X:gn) (hX:((f.set l X).off a).Le u)=>hX l X (by rw[aa.dQ a8];simp_all)
   have t4:=t4 _ j.1;refine af.run lay [2] ?_;simp[t3,L.1,L.2,aK];refine⟨rfl,rfl,_,(aa.ai _ _ B).trans t4,?_⟩
   have M:∀X d x,d≠l->d≠c->bp a≠some d->f d=some x->((u.set c (.cells [Z])).set l X) d=some x:=λX d x d1 d2 d3 hd=>by rw[aa.ai _ _ d1,aa.ai _ _ d2];exact j.1 _ _ (by rw[aa.dQ d3,aa.ai _ _ d1];exact hd)
   refine hK _ ⟨D.mono λd x hd O h2 h3 _=>M _ d x (λe=>by grind) (λe=>by grind) (λe=>by obtain⟨_,_,q⟩:=g.aY e;grind) hd,aa.an _ _ _,M _ r _ s r1 (λe=>by obtain⟨_,_,q⟩:=g.aY e;simp_all) E,Z,(aa.ai _ _ (za B)).trans (aa.an _ _ _),uk j λb e o=>?_,λd x H hd=>?_⟩
   . have v:b≠l:=λq=>by grind
     have A:b≠c:=λq=>by grind
     rw[aa.ai _ _ v];exact(aa.ai _ _ A).trans o
   . have v:d≠l:=λq=>by grind
     have A:d≠c:=λq=>by grind
     have J:=G d x H hd;have P:bp a≠some d:=λe=>by obtain⟨n,_⟩:=g.aY e;grind
     rw[aa.dQ P]at J
     have n4:bp Z≠some d:=λe=>by obtain⟨n,_⟩:=j.aY e;rw[aa.dQ P,aa.ai _ _ v,J]at n;cases n
     rw[aa.dQ n4]
     grind
 . have N:∀d x,σ d=some x->(((σ.set c (.cells [nF])).set r (.raw (.deferred (some [])))).set l (.loop al)) d=some x:=λd x hd=>by
    have v:d≠l:=λq=>by simp_all
    have A:d≠r:=λq=>by simp_all
    have P:d≠c:=λq=>by simp_all
    rw[aa.ai _ _ v,aa.ai _ _ A,aa.ai _ _ P];exact hd
   exact⟨hB.mono λd x hd _ _ _ _=>N d x hd,aa.an _ _ _,(aa.ai _ _ s).trans (aa.an _ _ _),AV.nil,(aa.ai _ _ (za B)).trans ((aa.ai _ _ (za r1)).trans (aa.an _ _ _)),Tok.nil _ 2,λd x hd _=>N d x hd⟩
 . rintro f ⟨D,z,E,a,F,g,G⟩
   have Y:=g.cells;rw[aaJ]at g;subst C;refine⟨_,z,by simp,rfl,?_⟩
   have a9:(f.del l) c=some (.cells [a]):=by simp only[aa.del,za B,Rp];exact F
   refine af.run lay [2] ?_;simp[a9];refine⟨by simp only[aa.del,s,Rp];exact E,?_⟩
   have p:∀{d x},d≠l->d≠r->(f.off a) d=some x->(((f.off a).del l).del r) d=some x:=λO h2 h3=>by simp only[aa.del,O,h2,Rp];exact h3
   refine .pM g.W (.less (λd x hd=>?_) (.done (h (((f.off a).del l).del r) (D.mono λd x hd O h2 h3 h4=>p (λe=>by grind) (λe=>by grind) (GU g hd O)) λd x hd hm=>p (λq=>by simp_all) (λq=>by simp_all) (G d x hd hm))))
   simp only[aa.del]at hd;split at hd
   . cases hd
   next v=>
   split at hd
   . cases hd
   next A=>
   rw[aa.ai _ _ v];simp only[aa.del,A,Rp];exact aa.RO hd
theorem EX(a:m.solo=true){w:bY}{fb mb:Nat}{i:Int}(b:w.Open)(hi:0<=i/\i<6)(c:fj w mb σ)(h:∀σ',fj w mb σ'->fJ mb σ σ'->KF (.val (px (cu w i))) σ'):aA prog m 57 [Cz fb mb w i] σ KF:=by
 refine fs [] Tryz.func57 rfl (by kernel_rfl) ?_;simp[Tryz.f57];refine cf Tryz.func99 rfl (zS a b hi c λσ' d e=>?_);apply rn;simp;exact .done (h σ' d e)
theorem Km(a:m.solo=true){w:bY}(f:w.qG)(g:w.Open){i:Int}(hi:0<=i/\i<6)(b:fh w [] [i] []≠0->KF (.val (.ck [nF,int (fh w [] [i] [])])) σ)(h:fh w [] [i] []=0->KF (.val (.ck [px (cu w i),int 0])) σ):aA prog m 23 [dB w,int i] σ KF:=by
 have j:Wl [dB w,nF,.sl 1 [int i] .exact,nF] [dB w,ints [],ints [i],ints []]:=Rt (.refl _) (fa 1) (gy 1 _ _) (fa 1);obtain⟨e,k⟩:∃e,e=fh w [] [i] []:=⟨_,rfl⟩;refine fs [] Tryz.func23 rfl (by kernel_rfl) ?_;simp[Tryz.f23];refine bP Tryz.func41 rfl rfl j (kH a f (by simp) (λq=>?_) λq l fb mb c=>?_)
 . rw[<-k]at q b ⊢
   have d:(e !=0)=true:=by grind
   apply rn;simp[d];exact .done (b q)
 . apply rn
   simp;refine cf Tryz.func58 rfl (Bd ?_);apply rn;simp;refine cf Tryz.func57 rfl (EX a g hi c.yV λn d o=>?_);apply rn;simp;exact .less (c.less o) (.done (h q))
def um(l:acV):Int:=l.foldl (λn r=>n+(r.2-r.1+1)) 0
def je(w:bY)(k:Nat):Int:=(List.range k).foldl (λ(n:Int) (i:Nat)=>n+um (cu w (i:Int))) 0
theorem qK(w:bY)(i:Int):∀h:Nat,h<=74->∀r∈(bQ w i h).2,(0<=r.1/\r.1<=1048576)/\-1<=r.2/\r.2<=73
 |0,_,r,a=>by simp[bQ]at a
 | h + 1,b,r,a=>by
   have:=Cy w i h;unfold bQ at a;split at a
   . exact qK w i h (by omega) r a
   split at a
   . rcases aaC.1 a with a|a
     . exact qK w i h (by omega) r a
     grind
   . exact qK w i h (by omega) r a
theorem Kn(l:acV)(r:Int × Int):um (l++[r])=um l+(r.2-r.1+1):=by unfold um;simp_all
theorem Ib{l:acV}(a:∀r∈l,(0<=r.1/\r.1<=1048576)/\-1<=r.2/\r.2<=73):-(2000000*(l.length:Int))<=um l/\um l<=2000000*l.length:=by
 have key:∀(l:acV) (n:Int),(∀r∈l,(0<=r.1/\r.1<=1048576)/\-1<=r.2/\r.2<=73)->n-2000000*l.length<=l.foldl (λn r=>n+(r.2-r.1+1)) n/\l.foldl (λn r=>n+(r.2-r.1+1)) n<=n+2000000*l.length:=λl=>by
  induction l with
  |nil=>simp_all
  | cons r l b=>
    intro n h;have d:=h r (by simp);have e:=b (n+(r.2-r.1+1)) λx c=>h x (by simp[c])
    grind
 have:=key l 0 a;unfold um;omega
theorem EY(w:bY):∀k:Nat,-(200000000*(k:Int))<=je w k/\je w k<=200000000*k
 |0=>by simp[je]
 | k+1=>by
   have a:=EY w k;have b:=Ib (qK w k 74 (by omega))
   have c:=rA w k 74;have e:je w (k+1)=je w k+um (cu w k):=by unfold je;rw[aaO,abf];rfl
   rw[e];unfold cu;omega
theorem Be{P:adS}(L:jo P){rs:adb}{env:Env}{a:Md}:∀(ds:adH) (σ:aa),ds.Nodup->(∀r∈ds,σ r=some (.raw (.deferred (some []))))->(∀σ',(∀d,d∉ds->σ' d=σ d)->KG L m rs env KF [] a σ')->KG L m rs env KF (ds.map .mark) a σ
 |[],σ,_,_,h=>h σ λ_ _=>rfl
 | r ::ds,σ,b,c,h=>⟨c r (by simp),Be L ds _ (aby.1 b).2 (λd hd=>by
     have n:d≠r:=λe=>(aby.1 b).1 (by simp_all)
     rw[aa.ai _ _ n]
     simp_all) λσ' f=>h σ' λd hd=>by
     have n:d≠r:=λe=>hd (by simp[e])
     rw[f d λq=>hd (by simp[q]),aa.ai _ _ n]⟩
theorem Ko(hs:m.solo=true){w:bY}(hw:w.qG)(hO:w.Open)(he:fh w [] [] []=0)(hK:KF (.val (.ck [int (je w w.fair.aD.length),int 0])) σ):aA prog m 25 [dB w] σ KF:=by
 have hW:Wl [dB w,nF,nF,nF] [dB w,ints [],ints [],ints []]:=Rt (.refl _) (fa 1) (fa 1) (fa 1);have h6:=hO.pJ.1;refine fs [] Tryz.func25 rfl (by kernel_rfl) ?_
 simp[Tryz.f25];refine bP Tryz.func41 rfl rfl hW (kH hs hw (by simp) (λq=>absurd he q) λq o fb mb v=>?_)
 have E:=v.yV;have F:∀d,o d=none->d≠mb:=λd hd e=>by obtain⟨x,q,_⟩:=E;simp_all
 apply rn;simp;refine bK.intro λc hc=>?_
 simp;have cm:=F c hc;refine af.loop w.fair.aD.length (λk s=>∃env a ds,s=⟨env,a,List.map kZ.mark ds,.no⟩/\(env 1=.cp (dB w) 0/\env 4=uw fb mb w 0/\env 6=.ref c 0/\env 20=int w.fair.aD.length/\env 21=int k)/\fj w mb a/\a c=some (.cells [int (je w k)])/\ds.Nodup/\(∀r∈ds,a r=some (.raw (.deferred (some [])))/\o r=none)/\fJ mb o a) ⟨_,_,[],rfl,by simp,E.mono λd x hd _ _ _ _=>(aa.ai _ _ λe=>by simp_all).trans hd,aa.an _ _ _,by simp,by simp,λd x hd _=>(aa.ai _ _ λe=>by simp_all).trans hd⟩ ?_
 rintro c0 k _ P ⟨env,a,ds,rfl,⟨e1,e4,U,zw,wI⟩,hB,G,H,z,A⟩ ih
 apply rn;simp[zw,wI];apply aH.intro<;>intro g1<;>simp at g1<;>simp[e4,U,wI,g1,G]
 . refine cf Tryz.func58 rfl (Bd ?_)
   apply rn;simp;refine af.rangeFunc rfl λV r l Q R B=>?_
   change a r=none at Q
   change a l=none at R
   have nm:∀d,a d=none->d≠mb:=λd hd e=>by obtain⟨x,q,_⟩:=hB;grind
   have lm:=nm l R;have rm:=nm r Q;have lc:l≠c:=λe=>by grind
   have rc:r≠c:=λe=>by grind
   have J:=qK w k 74 (by omega)
   have hlen:=rA w k 74;have av:=EY w k
   have W:o r=none:=by
    cases e:o r with
    |none=>rfl
    |some x=>have:=A r x e rm;grind
   have a7:je w (k+1)=je w k+um (cu w k):=by unfold je;rw[aaO,abf];rfl
   generalize L:nG.mk _ _ _ _ _ _ _ _ _=al;refine dp Tryz.func100 rfl rfl rfl (Bc hs hO (i:=(k:Int)) (by omega) (y:=.fn (.yield l) [] []) (I:=λj f=>fj w mb f/\f l=some (.loop al)/\f c=some (.cells [int (je w k+um ((cu w k).take j))])/\∀d x,(a.set r (.raw (.deferred (some [])))) d=some x->d≠mb->d≠c->f d=some x) ⟨rfl,rfl⟩ ?_ ?_ ?_ ?_ ?_)
   . rintro j f a8 ⟨T,t,u,D⟩ P a9
     exact⟨a9,P _ _ t lm,P _ _ u cm,λd x g p h=>P _ _ (D d x g p h) p⟩
   . grind
   . rintro j hj f K ⟨T,t,u,D⟩ ab
     have M:=J _ (zG hj);have ad:=Ib (l:=(cu w k).take j) λx hx=>J x (aco hx)
     have ax:((cu w k).take j).length<=74:=aaG (List.length_take_le _ _) (by unfold cu at hj;omega)
     have C:um ((cu w k).take (j+1))=um ((cu w k).take j)+((cu w k)[j].2-(cu w k)[j].1+1):=by rw[zD hj,Kn]
     generalize um ((cu w k).take j)=S at u ad C;obtain⟨x1,x2⟩:∃r:Int × Int,r=(cu w k)[j]:=⟨_,rfl⟩;rw[<-x2]at M C ⊢;obtain⟨ra,rb⟩:=x1;simp only at M C;subst L;refine bI.uF (hold:=[]) V Tryz.func25 t rfl ?_;apply rn;simp[lO];refine bK.intro λq hq=>?_
     simp
     change af _ _ _ _ _ _ _ _ _
     refine af.runN lay [] 1 ?_;simp
     change af _ _ _ _ _ _ _ _ _
     refine af.bq 8 (b:=q) (kR (ra,rb)) (aa.an _ _ _) (by simp) rfl ?_
     rw[ew hq];refine af.beginRound t rfl ?_;have cl:∀x,(f.set l x) c=some (.cells [int (je w k+S)]):=λx=>(aa.ai _ _ (za lc)).trans u
     apply rn;simp[cl,U];refine⟨by omega,by omega,by omega,?_⟩
     refine⟨rfl,rfl,_,(aa.ai _ _ lc).trans (aa.an _ _ _),?_⟩
     have N:∀X Y Z d x,d≠l->d≠c->f d=some x->(((f.set l X).set c Y).set l Z) d=some x:=λX Y Z d x g p h=>by rw[aa.ai _ _ g,aa.ai _ _ p,aa.ai _ _ g];exact h
     refine ab _ ⟨T.mono λd x hd _ p h _=>N _ _ _ d x (λe=>by rw[e,t]at hd;exact h _ (aaS hd).symm) (λe=>by rw[e,u]at hd;exact p _ (aaS hd).symm) hd,aa.an _ _ _,(aa.ai _ _ (za lc)).trans ((aa.an _ _ _).trans (by grind)),λd x g p h=>?_⟩
     have dl:d≠l:=λe=>by rw[e,aa.ai _ _ (za B),R]at g;cases g
     exact N _ _ _ d x dl h (D d x g p h)
   . have O:∀d x,a d=some x->((a.set r (.raw (.deferred (some [])))).set l (.loop al)) d=some x:=λd x hd=>by
      have n1:d≠l:=λe=>by grind
      have n2:d≠r:=λe=>by grind
      rw[aa.ai _ _ n1,aa.ai _ _ n2];exact hd
     refine⟨hB.mono λd x hd _ _ _ _=>O d x hd,aa.an _ _ _,(O _ _ G).trans (by simp[um]),λd x g _ _=>?_⟩
     exact(aa.ai _ _ λe=>by rw[e,aa.ai _ _ (za B),R]at g;cases g).trans g
   . rintro f ⟨T,t,u,D⟩
     rw[aaJ,<-a7]at u;subst L;refine⟨_,t,by simp,rfl,?_⟩
     apply rn;simp[wI];have n:∀d x,d≠l->f d=some x->(f.del l) d=some x:=λd x g p=>by simp only[aa.del,g,Rp];exact p
     have hold:∀d x,a d=some x->d≠mb->d≠c->(f.del l) d=some x:=λd x g p h=>n d x (λe=>by grind) (D d x ((aa.ai _ _ λe=>by grind).trans g) p h)
     refine⟨by omega,ih _ (by omega) ⟨_,_,r::ds,rfl,by simp[e1,e4,U,zw],T.mono λd x hd _ _ h _=>n d x (λe=>by rw[e,t]at hd;exact h _ (aaS hd).symm) hd,n _ _ (za lc) u,aby.2 ⟨λq=>?_,H⟩,λd hd=>?_,λd x hd hm=>?_⟩⟩
     . grind
     . rcases aaQ.1 hd with rfl|hd
       . exact⟨n _ _ B (D _ _ (aa.an _ _ _) rm rc),W⟩
       . obtain⟨q1,q2⟩:=z d hd
         exact⟨hold d _ q1 (F d q2) (λe=>by grind),q2⟩
     . exact hold d x (A d x hd hm) hm (λe=>by grind)
 . have ek:k=w.fair.aD.length:=by omega
   subst ek;refine Be lay ds _ H (λr Q=>(z r Q).1) λa8 h=>⟨[int (je w w.fair.aD.length),int 0],by simp[eI],?_⟩
   refine .less (λd x hd=>?_) (.done hK)
   have q1:=v.less A d x hd;rw[h d λq=>?_]
   . exact q1
   . have:=(z d q).2
     have h0:=v.less (.refl mb o) d x hd
     grind
theorem CA{a b:adG}(t:a.length<1152921504606846976)(hb:b.length<1152921504606846976)(h:KF (.val (bool (decide (a=b)))) σ):aA prog m 47 [ints a,ints b] σ KF:=by
 refine fs Xt Tryz.func47 rfl (by kernel_rfl) ?_;simp[Tryz.f47];apply aH.intro<;>intro d<;>simp at d<;>simp[d]
 . have:a≠b:=λe=>d (by rw[e])
   simp[this]at h;exact .done h
 refine af.loop a.length (λk s=>∃env,s=⟨env,σ,[],.no⟩/\env 0=ints a/\env 1=ints b/\env 12=int a.length/\env 13=int k/\a.take k=b.take k) ⟨_,rfl,by simp[d]⟩ ?_;rintro u k _ v ⟨env,rfl,l,n,eL,c,f⟩ p;have r:a.length=b.length:=by omega
 apply rn;simp[eL,c];apply aH.intro<;>intro g<;>simp at g<;>simp[l,n,c,g]
 . have o:k<b.length:=by omega
   simp[o];apply rn;simp;by_cases i:a[k]=b[k]
   . have q:(a[k]!=b[k])=false:=by simp[i]
     simp[c,q];refine⟨by omega,p _ (by omega) ⟨_,rfl,by simp[l],by simp[n],by simp[eL],by simp,?_⟩⟩;rw[zD g,zD o,f,i]
   . have q:(a[k] !=b[k])=true:=by simp[i]
     have j:a≠b:=λe=>by simp_all
     simp[j]at h;simp[q];exact .done h
 . have ek:k=a.length:=by omega
   subst ek;rw[aaJ,r,aaJ]at f;simp[f]at h;exact .done h
def foundAt(w:bY)(c:Int)(h i:Nat):Prop:=gg w h i c=1/\∀a b:Nat,(a<h\/a=h/\b<i)->b<w.fair.aD.length->gg w a b c≠1
theorem vq(y:m.solo=true){w:bY}(E:w.qG)(z:w.Open){c:Int}(F:0<=c/\c<3)(G:fh w [] [] [c]=0)(H:∀h i:Nat,h<73->i<w.fair.aD.length->foundAt w c h i->KF (.val (.ck [int h,int i,int 0])) σ)
 (I:(∀h' b:Nat,h'<73->b<w.fair.aD.length->gg w h' b c≠1)->KF (.val (.ck [int 0,int 0,int 11])) σ):aA prog m 31 [dB w,int c] σ KF:=by
 have J:Wl [dB w,nF,nF,.sl 1 [int c] .exact] [dB w,ints [],ints [],ints [c]]:=Rt (.refl _) (fa 1) (fa 1) (gy 1 _ _);have R:=z.pJ.1;refine fs [] Tryz.func31 rfl (by kernel_rfl) ?_;simp[Tryz.f31];refine bP Tryz.func41 rfl rfl J (kH y E (by simp) (λq=>absurd G q) λq f fb mb t=>?_);apply rn;simp;refine af.loop 73 (λk s=>∃env a,s=⟨env,a,[],.no⟩/\(env 1=int c/\env 2=.cp (dB w) 0/\env 9=.fn (.func 67) [uw fb mb w 0] []/\env 24=int k)/\fj w mb a/\fJ mb f a/\∀h' b:Nat,h'<k->b<w.fair.aD.length->gg w h' b c≠1) ⟨_,_,rfl,by simp,t.yV,.refl mb f,λh' b q=>absurd q (Nat.not_lt_zero _)⟩ ?_;rintro S k _ K ⟨env,a,rfl,⟨l,n,o,IE⟩,r,d,u⟩ L;apply rn;simp[IE];apply aH.intro<;>intro A<;>simp at A<;>simp[n,IE,A]
 . refine af.loop w.fair.aD.length (λj s=>∃env a,s=⟨env,a,[],.no⟩/\(env 1=int c/\env 2=.cp (dB w) 0/\env 9=.fn (.func 67) [uw fb mb w 0] []/\env 24=int k/\env 10=int k/\env 30=int w.fair.aD.length/\env 31=int j)/\fj w mb a/\fJ mb f a/\∀b:Nat,b<j->gg w k b c≠1) ⟨_,_,rfl,by simp[l,n,o,IE],r,d,λb q=>absurd q (Nat.not_lt_zero _)⟩ ?_
   rintro T j _ U ⟨env,a,rfl,⟨l,n,o,IE,cS,p,g⟩,r,d,B⟩ v;apply rn;simp[p,g];apply aH.intro<;>intro C<;>simp at C<;>simp[l,o,IE,cS,g,C]
   . refine dp Tryz.func67 rfl rfl rfl (ES y z (by omega) F r λx M N=>?_)
     have e:=d.trans N;by_cases D:gg w k j c=1
     . rw[show yS (gg w k j c)=.lM 125 (.agg [])by rw[D];rfl]
       apply rn;simp[cS];refine .less (t.less e) (.done (H k j (by omega) (by omega) ⟨D,λh' b q O=>?_⟩))
       grind
     . have P:Ba (gg w k j c)≠125:=by unfold Ba;grind
       apply rn;simp[g,P];refine⟨by omega,v _ (by omega) ⟨_,x,rfl,(by simp[l,n,o,IE,cS,p]),M,e,λb q=>?_⟩⟩
       grind
   . have Q:j=w.fair.aD.length:=by omega
     subst Q;refine⟨by omega,L _ (by omega) ⟨_,a,rfl,(by simp[l,n,o]),r,d,λh' b q O=>?_⟩⟩
     grind
 . have ek:k=73:=by omega
   subst ek;exact .less (t.less d) (.done (I u))
theorem Bf(w:bY)(h:Int):(mD w h).length<=w.fair.aD.length:=by
 unfold mD
 grind
def bY.only(w:bY)(l:adG):bY:={w with aF:=l.filterMap λc=>w.aF[c.toNat]?}
abbrev yX(w:bY)(a:AV):adL:=[jI w.fair.aD,rows w.fair.roads,int w.fair.aU,int w.fair.eZ,int w.fair.cP,int w.fair.aR,int w.bc,vm w.ways,a]
theorem Ot(w:bY)(a b:AV):(yX w a).set 8 b=yX w b:=rfl
theorem Kr{w:bY}{wb:Nat}{a:AV}(b:σ wb=some (.cells (yX w a)))(h:KF (.val (.ck [])) (σ.set wb (.cells (EG w)))):aA prog m 88 [.cp (kY w.aF) 0,.cp (.ref wb 0) 0] σ KF:=by
 refine fs [] Tryz.func88 rfl (by kernel_rfl) ?_;simp[Tryz.f88];simp[b];exact .done h
namespace CW
abbrev XD:adv:=[⟨7,.take [0,1,2,3,5,6,7,8,11,12] false (.both 4 (.one 9 (.one 10 (.one 13 (.done)))) (.one 9 (.take [4] true (.one 10 (.one 13 (.done))))))⟩]
abbrev XE:adv:=[⟨0,.take [3] false (.one 0 (.one 1 (.one 2 (.one 4 (.one 5 (.done))))))⟩]
theorem Ou{w:bY}{wb:Nat}{l:adG}(M:∀c∈l,0<=c/\c<w.aF.length)(S:l.length<=1000){F:Fn}{t:adL}(I:adJ)(C:σ wb=some (.cells (EG w)))
 (N:∀a g K,Tok (σ.del wb) g a 8 ((w.only l).aF.map iy)->g wb=some (.cells (yX w a))->(∀σ2,σ2 wb=some (.cells (yX w a))->I σ2->K (.val (.ck [])) σ2)->bI prog m (.fn F [] t) [] g K)
 (h:∀σ2,I σ2->KF (.val (.ck [])) (σ2.set wb (.cells (EG w)))):aA prog m 45 [.ref wb 0,ints l,.fn F [] t] σ KF:=by
 refine aA.F8 lay [] XD 12 3 Tryz.func45 rfl rfl (by rfl) (by kernel_rfl) ?_
 simp[Tryz.f45,C];refine bK.intro λD u=>?_
 have T:wb≠D:=λe=>by simp_all
 simp
 change af _ _ _ _ _ _ _ _ _
 refine af.bq 6 (b:=D) (kY w.aF) (aa.an _ _ _) (by simp) rfl ?_
 rw[ew u];apply rn;simp;refine af.defer rfl rfl rfl rfl (by simp) rfl ?_
 apply rn;simp[C];refine af.loop l.length (λk s=>∃env d a,s=⟨env,d,[.call (.func 88) [.cp (kY w.aF) 0,.cp (.ref wb 0) 0] []],.no⟩/\(env 2=.fn F [] t/\env 3=.cp (.ref wb 0) 0/\env 6=.cp (kY w.aF) 0/\env 17=ints l/\env 18=int l.length/\env 19=int k)/\Tok (σ.del wb) d a 8 ((w.only (l.take k)).aF.map iy)/\d wb=some (.cells (yX w a))) ⟨_,_,.lit (.slice none 0 0),rfl,by simp,⟨?_,.inl ⟨rfl,by simp[bY.only]⟩⟩,aa.an _ _ _⟩ ?_
 . intro c x v
   have E:c≠wb:=λe=>by subst e;simp[aa.del]at v
   simp only[aa.del,E,Rp]at v;rw[aa.ai _ _ E];exact v
 rintro U k _ V ⟨env,d,a,rfl,⟨G,H,J,j,uv,Po⟩,n,i⟩ O
 apply rn;simp[uv,Po];apply aH.intro<;>intro r<;>simp at r<;>simp[G,H,J,j,Po,r]
 . have P:=M l[k] (zG r)
   have y:((w.only (l.take k)).aF.map iy).length<=k:=by
    rw[aaP];refine aaG (List.length_filterMap_le _ _) ?_
    grind
   have z:(w.only (l.take (k+1))).aF.map iy=(w.only (l.take k)).aF.map iy++[iy w.aF[l[k].toNat]]:=by simp only[bY.only];rw[zD r,List.filterMap_append,aaN];simp[zU (show l[k].toNat<w.aF.length by omega)]
   have A:bp a≠some wb:=λe=>by obtain⟨_,x,q⟩:=n.aY e;simp_all
   simp[i,P];refine⟨?_,?_⟩
   all_goals
    refine aN lay rfl rfl rfl P8 rfl P8 rfl Vo (by decide) (by simp only[aaP,aaW,abx]at y ⊢;omega) (σ0:=d.off a) (es:=(w.only (l.take k)).aF.map iy) (xs:=[iy w.aF[l[k].toNat]]) (by simpa using n.here.1) (.inr ⟨_,rfl⟩) λL σ2 f=>?_
    rw[<-z]at f;have o:σ2 wb=some (.cells (yX w a)):=f.1 _ _ ((aa.dQ A).trans i);have B:=f.cells;have p:bp L≠some wb:=λe=>by obtain⟨_,x,q⟩:=f.aY e;rw[o]at q;cases q
    apply pg;simp[o,B];apply rn;simp[Po];refine⟨by omega,O _ (by omega) ⟨_,_,L,rfl,by simp[G,H,J,j,uv],(f.base n.here.2).beside (by simp[aa.del]) p,aa.an _ _ _⟩⟩
 . have ek:k=l.length:=by omega
   subst ek;rw[aaJ]at n;refine N a d _ n i λσ2 Q R=>?_
   apply rn;simp;refine rI.func Tryz.func88 rfl rfl (Kr Q ?_);exact⟨[],rfl,.done (h σ2 R)⟩
theorem V1{w:bY}{l:adG}{a:AV}(d:a.W (kY (w.only l).aF)):(AV.agg (yX w a)).W (dB (w.only l)):=qy rfl λi x y c b=>by
 change (yX w (kY (w.only l).aF))[i]?=some y at b;rw[<-Ot w a]at b;by_cases e:i=8
 . simp_all
 . rw[abp (za e),c]at b
   cases b;exact .refl _
theorem CB(f:m.solo=true){w:bY}{wb c:Nat}{a:AV}{l e:adG}{x:AV}(g:(w.only l).Open)(d:w.ways.length<1152921504606846976/\(∀x∈w.ways,uf w.bc x)/\1<=w.bc/\w.bc<=4)(k:yR (w.only l))(t:e.length<1000000)(n:σ wb=some (.cells (yX w a)))(o:a.W (kY (w.only l).aF))(p:σ c=some (.cells [x]))
 (h:∀σ2,σ.Le σ2->KF (.val (.ck [])) (σ2.set c (.cells [bool (decide (mD (w.only l) 72=e))]))):aA prog m 46 [.ref wb 0,.cp (ints e) 0,.ref c 0] σ KF:=by
 have u:=g.pJ.1;have i:=Bf (w.only l) 72;have q:Wl [.agg (yX w a)] [dB (w.only l)]:=.cons (V1 o) .nil;refine fs XE Tryz.func46 rfl (by kernel_rfl) ?_;simp[Tryz.f46];simp[n];refine bP Tryz.func48 rfl rfl q (uh f d.1 d.2.1 d.2.2 k λr fb mb j=>?_);apply pg;simp;refine cf Tryz.func42 rfl (yU f g j.yV λσ2 v s=>?_);apply pg;simp;have b:=j.less s;refine cf Tryz.func47 rfl (CA (by omega) (by omega) ?_);apply pg;simp[b _ _ p];apply rn;simp;exact .done (h σ2 b)
end CW
theorem EZ(v:m.solo=true){w:bY}{wb:Nat}{l e:adG}(y:(w.only l).Open)(z:w.ways.length<1152921504606846976/\(∀x∈w.ways,uf w.bc x)/\1<=w.bc/\w.bc<=4)(A:yR (w.only l))(B:e.length<1000000)(k:∀c∈l,0<=c/\c<w.aF.length)(C:l.length<=1000)(D:σ wb=some (.cells (EG w)))
 (h:KF (.val (bool (decide (mD (w.only l) 72=e)))) σ):aA prog m 44 [ints l,.ref wb 0,.cp (ints e) 0] σ KF:=by
 refine aA.start lay [5] [] 3 Tryz.func44 rfl rfl (by rfl) (by kernel_rfl) ?_;simp[Tryz.f44];refine bK.intro λf E=>?_
 have j:wb≠f:=λe=>by simp_all
 simp;have o:(σ.set f (.cells [bool false])) wb=some (.cells (EG w)):=(aa.ai _ _ j).trans D;refine cf Tryz.func45 rfl (CW.Ou k C (λb=>∃d:aa,(∀c x,σ c=some x->c≠wb->d c=some x)/\b=d.set f (.cells [bool (decide (mD (w.only l) 72=e))])) o (λa p K r g F=>?_) ?_)
 . have s:p f=some (.cells [bool false]):=r.1 _ _ (by simp[aa.del,za j])
   refine dp Tryz.func46 rfl rfl rfl (CW.CB v y z A B g r.W s λb i=>?_);refine F _ ((aa.ai _ _ j).trans (i _ _ g)) ⟨b,λc x u n=>i _ _ (r.1 _ _ ?_),rfl⟩;have t:c≠f:=λe=>by simp_all
   simp only[aa.del,n,Rp];exact(aa.ai _ _ t).trans u
 . rintro b ⟨d,q,rfl⟩
   have G:((d.set f (.cells [bool (decide (mD (w.only l) 72=e))])).set wb (.cells (EG w))) f=some (.cells [bool (decide (mD (w.only l) 72=e))]):=(aa.ai _ _ (za j)).trans (aa.an _ _ _);refine af.run lay [5] ?_;simp[G];refine .less (λc x u=>?_) (.done h);have t:c≠f:=λe=>by simp_all
   by_cases e:c=wb
   . simp_all
   . rw[aa.ai _ _ e,aa.ai _ _ t];simp_all
def c8(x:adG):Nat:=match x.getLast? with|none=>0|some v=>v.toNat+1
def nxt(n:Nat)(x:adG):acW:=(List.range' (c8 x) (n-c8 x)).map λ(j:Nat)=>x++[(j:Int)]
def v7(n:Nat):Nat->acW
 |0=>[[]]
 |k+1=>(v7 n k).flatMap (nxt n)
theorem Ov(n:Nat):∀k,∀x∈v7 n k,x.length=k/\(∀c∈x,0<=c/\c<n)/\c8 x<=n
 | 0,x,a=>by
   have:x=[]:=by simpa[v7]using a
   subst this;simp[c8]
 | k+1,x,a=>by
   simp only[v7,abC,nxt,aaL,List.mem_range'_1]at a;obtain⟨y,b,j,e,rfl⟩:=a;obtain⟨d,f,g⟩:=Ov n k y b;refine⟨by simp[d],λc h=>?_,?_⟩
   . grind
   . simp[c8];omega
theorem yY(n:Nat):∀M:acW,(M.flatMap (nxt n)).length<=M.length*n
 |[]=>by simp
 | x::M=>by
   have:=yY n M;rw[ach,aaF,aaW,acp];have:(nxt n x).length<=n:=by simp[nxt]
   omega
theorem Ic(n:Nat):∀k,(v7 n k).length<=n ^ k
 |0=>by simp[v7]
 |k+1=>by have a:=yY n (v7 n k);have b:=Ic n k;rw[Nat.pow_succ];exact aaG a (abq n b)
theorem GV{x:adG}(h:0<x.length)(a:∀c∈x,0<=c):x[x.length-1]?=some ((c8 x:Int)-1):=by
 have b:=a x[x.length-1] (zG _);unfold c8
 grind
def GW(n:Nat)(G:adG->Bool):adG:=(((List.range (n+1)).flatMap (v7 n)).find? G).getD (pQ n)
theorem Qv{n k i:Nat}{G:adG->Bool}(a:k<n+1)(hi:i<(v7 n k).length)(b:∀k'<k,∀x∈v7 n k',G x=false)(c:∀x∈(v7 n k).take i,G x=false)(h:G (v7 n k)[i]=true):GW n G=(v7 n k)[i]:=by
 unfold GW
 have e:List.range (n+1)=List.range k++k::List.range' (k+1) (n-k):=by rw[abQ,abQ,show n+1=k+(n-k+1)by omega,<-List.range'_append_1,abL];rfl
 have d:((List.range k).flatMap (v7 n)).find? G=none:=List.find?_eq_none.2 λx f=>by grind
 have g:(v7 n k).find? G=some (v7 n k)[i]:=by
  have j:v7 n k=(v7 n k).take i++(v7 n k)[i]::(v7 n k).drop (i+1):=by simp_all
  grind
 grind
theorem Qw{n:Nat}{G:adG->Bool}(a:∀k'<n+1,∀x∈v7 n k',G x=false):GW n G=pQ n:=by
 unfold GW;rw[List.find?_eq_none.2 λx b=>by grind];rfl
abbrev nj(M:acW):adL:=M.map ints
theorem bI.xD{P:adS}{m:Mo}{b:AV}{args args':adL}{σ:aa}{KF:adl}(h:bI P m b args' σ KF)(c:Wl args args'):bI P m b args σ KF:=λQ k O cf a fr cs d e f g i j l n=>h Q k O cf a fr cs d (e.xD c) f g i j l n
theorem Ks{n:Nat}(hn:n<=3){G:adG->Bool}{f:AV}(aO:f.cells=[f])(a7:f.flat=true)(hf:∀(l:adG) (σ':aa) (K:adl),(∀c∈l,0<=c/\c<(n:Int))->l.length<=n->σ.Le σ'->K (.val (bool (G l))) σ'->bI prog m f [ints l] σ' K){xs:adG}(hx:xs.length=n)(a8:∀(j:Nat) (q:j<xs.length),xs[j]=j)(h:KF (.val (ints (GW n G))) σ):aA prog m 43 [.agg [f],ints xs] σ KF:=by
 refine fs [] Tryz.func43 rfl (by kernel_rfl) ?_
 simp[Tryz.f43];refine⟨a7,by omega,?_⟩
 refine af.Jb 5 (a':=.sl 1 (nj (v7 n 0)) .any) ?_ ?_
 . change AV.W (.sl 1 [.nil] .exact) (.sl 1 [ints []] .any)
   exact Sf rfl (by simp) (by simp) λi a a' h1 h2=>by
    cases i with
    |zero=>cases h1;cases h2;exact fa 1
    |succ i=>simp at h1
 refine af.loop (n+1) (λk s=>∃env σ',s=⟨env,σ',[],.no⟩/\(env 1=ints xs/\env 2=.cp (.agg [f]) 0/\env 5=.sl 1 (nj (v7 n k)) .any/\env 17=int ((n:Int)+1)/\env 18=int k)/\σ.Le σ'/\∀k'<k,∀x∈v7 n k',G x=false) ⟨_,_,rfl,by simp[hx],aa.le_refl _,by simp⟩ ?_
 rintro c0 k _ hk ⟨env,σ',rfl,⟨o,r,e5,g,uv⟩,J,L⟩ ih
 have hM:=Ov n k;obtain⟨M,B⟩:∃M,M=v7 n k:=⟨_,rfl⟩;rw[<-B]at hM e5;apply rn;simp[g,uv];apply aH.intro<;>intro g1<;>simp at g1<;>simp[o,e5,g1]
 . have b0:M.length<=27:=by
    rw[B];exact aaG (Ic n k) (aaG (Nat.pow_le_pow_left hn k) (Nat.pow_le_pow_right (n:=3) (by decide) (show k<=3 by omega)))
   refine af.loop M.length (λi s=>∃env σ' a,s=⟨env,σ',[],.no⟩/\(env 1=ints xs/\env 2=.cp (.agg [f]) 0/\env 17=int ((n:Int)+1)/\env 18=int k/\env 20=.sl 1 (nj M) .any/\env 21=int M.length/\env 22=int i/\env 6=a)/\Tok σ σ' a 1 (nj ((M.take i).flatMap (nxt n)))/\∀x∈M.take i,G x=false) ⟨_,_,.nil,rfl,by simp[o,r,g,uv],⟨J,.inl ⟨rfl,by simp⟩⟩,by simp⟩ ?_
   rintro c1 i _ hi ⟨env,σ',a,rfl,⟨o,r,g,uv,zw,wI,wJ,u⟩,Z,v⟩ a9
   apply rn;simp[wI,wJ];apply aH.intro<;>intro N<;>simp at N<;>simp[uv,zw,wJ,u,N]
   . obtain ⟨ab,C,ad⟩:=hM _ (zG N)
     have al:=yY n (M.take i);have aL:((M.take i).flatMap (nxt n)).length<=200:=aaG al (aaG (Nat.mul_le_mul (by rw[abz];omega:(M.take i).length<=27) hn) (by decide))
     obtain⟨x,D⟩:∃x,x=M[i]:=⟨_,rfl⟩;rw[<-D]at ab C ad;simp only[<-D];refine af.loop x.length (λj s=>∃env t b,s=⟨env,t,[],.no⟩/\(env 1=ints xs/\env 2=.cp (.agg [f]) 0/\env 17=int ((n:Int)+1)/\env 18=int k/\env 20=.sl 1 (nj M) .any/\env 21=int M.length/\env 22=int i/\env 6=a/\env 8=ints x/\env 26=ints x/\env 27=int x.length/\env 28=int j/\env 9=b)/\Tok σ' t b 1 ((x.take j).map int)) ⟨_,_,.nil,rfl,by simp[o,r,g,uv,zw,wI,wJ,u],.nil σ' 1⟩ ?_
     rintro c2 j _ hj ⟨env,t,b,rfl,⟨o,r,g,uv,zw,wI,wJ,u,A,O,P,F,e9⟩,w⟩ av
     apply rn;simp[P,F];apply aH.intro<;>intro g3<;>simp at g3<;>simp[o,r,O,F,e9,g3]
     . have g4:=C _ (zG g3)
       have g5:x[j].toNat<xs.length:=by omega
       have g6:(xs[x[j].toNat]:Int)=x[j]:=by rw[a8 _ g5];omega
       have g7:x[j]<(xs.length:Int):=by omega
       simp[g4,g7,g6];have H:(x.take (j+1)).map int=(x.take j).map int++[int x[j]]:=by rw[zD g3,aaN];rfl
       refine aN lay rfl rfl rfl dD rfl dD rfl rD (by decide) (by simp only[aaP,abz,aaW,abx];omega) (σ0:=σ') (es:=(x.take j).map int) (xs:=[int x[j]]) (by simpa using w) (.inr ⟨_,rfl⟩) λa' p Q=>?_
       rw[<-H]at Q;apply rn;simp[F];refine⟨by omega,av _ (by omega) ⟨_,_,a',rfl,by simp[o,r,g,uv,zw,wI,wJ,u,A,O,P],Q⟩⟩
     . have ej:j=x.length:=by omega
       subst ej;rw[aaJ]at w;have R:=Z.up w.1;have E:=R.1;refine bI.xD (hf x t _ C (by omega) E ?_) (.cons w.W .nil)
       have S:G x=true->ints (GW n G)=ints x:=λq=>by
        rw[Qv (i:=i) (by omega) (by grind) L (by rw[<-B];exact v) (by grind)]
        grind
       cases hG:G x with
       |true=>rw[S hG]at h;apply rn;simp[e9,aH];refine .pM w.W (.less E (.done h))
       | false=>
         by_cases gl:0<x.length
         have ax:=GV gl λc hc=>(C c hc).1
         have gx:0<=(x.length:Int)-1/\(x.length:Int)-1<x.length/\1<=(x.length:Int):=by omega
         apply rn;simp[A,aH,gl,gx,ax];refine⟨by omega,by omega,?_⟩
         refine af.gX (λe s=>(e 1=ints xs/\e 2=.cp (.agg [f]) 0/\e 17=int ((n:Int)+1)/\e 18=int k/\e 20=.sl 1 (nj M) .any/\e 21=int M.length/\e 22=int i/\e 6=a/\e 8=ints x/\e 13=int (c8 x))/\s=t) ⟨by simp[o,r,g,uv,zw,wI,wJ,u,A],rfl⟩ ?_
         rotate_left
         have ay:c8 x=0:=by
          have:x=[]:=acd.1 (by omega)
          subst this;rfl
         apply rn;simp[A,aH,gl];refine af.gX (λe s=>(e 1=ints xs/\e 2=.cp (.agg [f]) 0/\e 17=int ((n:Int)+1)/\e 18=int k/\e 20=.sl 1 (nj M) .any/\e 21=int M.length/\e 22=int i/\e 6=a/\e 8=ints x/\e 13=int (c8 x))/\s=t) ⟨by simp[o,r,g,uv,zw,wI,wJ,u,A,ay],rfl⟩ ?_
         rotate_left
         all_goals
          rintro env _ ⟨⟨o,r,g,uv,zw,wI,wJ,u,A,z⟩,rfl⟩
          refine af.loop (n-c8 x) (λd s=>∃env p a',s=⟨env,p,[],.no⟩/\(env 1=ints xs/\env 2=.cp (.agg [f]) 0/\env 17=int ((n:Int)+1)/\env 18=int k/\env 20=.sl 1 (nj M) .any/\env 21=int M.length/\env 22=int i/\env 6=a'/\env 8=ints x/\env 13=int ((c8 x:Int)+d))/\Tok σ p a' 1 (nj ((M.take i).flatMap (nxt n)++(List.range' (c8 x) d).map λ(j:Nat)=>x++[(j:Int)]))) ⟨_,_,a,rfl,by simp[o,r,g,uv,zw,wI,wJ,u,A,z],by simpa using R⟩ ?_
          rintro c3 d _ hd ⟨env,p,a',rfl,⟨o,r,g,uv,zw,wI,wJ,u,A,z⟩,T⟩ aC
          apply rn;simp[o,z];apply aH.intro<;>intro g6<;>simp at g6<;>simp[wJ,u,A,g6]
          . refine pX lay rfl dD rfl rD (es:=x.map int) (sp:=.any) (l:=0) (h:=x.length) (by simp) (λcap U=>⟨⟨⟨.i64,by simp⟩,by simpa using U⟩,⟨⟨.i64,by simp⟩,aaE _⟩,rfl⟩) (by simp) λb2 V=>?_
            have X:Tok p p b2 1 (x.map int):=by
             rw[acg,abt (by simp)]at V
             rcases V with rfl|⟨e,rfl⟩
             . exact .exact _ _ _
             . rw[e];exact .nil _ _
            apply rn;simp[z];refine aN lay rfl rfl rfl dD rfl dD rfl rD (by decide) (by simp only[aaP,aaW,abx];omega) (σ0:=p) (es:=x.map int) (xs:=[int ((c8 x:Int)+d)]) (by simpa using X) (.inr ⟨_,rfl⟩) λa2 b1 I=>?_
            have H:x.map int++[int ((c8 x:Int)+d)]=(x++[((c8 x+d:Nat):Int)]).map int:=by rw[aaN,Int.natCast_add];rfl
            rw[H]at I;refine af.Jb 71 (a':=ints (x++[((c8 x+d:Nat):Int)])) (show AV.W a2 _ from I.W) ?_
            apply rn;simp
            have aE:nj ((M.take i).flatMap (nxt n)++(List.range' (c8 x) (d+1)).map λ(j:Nat)=>x++[(j:Int)])=nj ((M.take i).flatMap (nxt n)++(List.range' (c8 x) d).map λ(j:Nat)=>x++[(j:Int)])++[ints (x++[((c8 x+d:Nat):Int)])]:=by rw[List.range'_1_concat,aaN,<-List.append_assoc,nj,aaN];rfl
            refine aN lay rfl rfl rfl qv rfl qv rfl dD (by decide) (by simp only[aaP,aaF,List.length_range',aaW,abx];omega) (σ0:=σ) (es:=nj ((M.take i).flatMap (nxt n)++(List.range' (c8 x) d).map λ(j:Nat)=>x++[(j:Int)])) (xs:=[ints (x++[((c8 x+d:Nat):Int)])]) (by simpa using T.up I.1) (.inr ⟨_,rfl⟩) λa3 b3 Y=>?_
            rw[<-aE]at Y;apply rn;simp[z];refine⟨by omega,aC _ (by omega) ⟨_,_,a3,rfl,by simp[o,r,g,uv,zw,wI,wJ,A,Int.add_assoc],Y⟩⟩
          . have ed:d=n-c8 x:=by omega
            subst ed;refine⟨by omega,a9 _ (by omega) ⟨_,_,a',rfl,by simp[o,r,g,uv,zw,wI,u],?_,λy hy=>?_⟩⟩
            . rw[zD N,abN,acH,<-D]
              exact T
            . rw[zD N,<-D]at hy
              rcases aaC.1 hy with hy|hy
              . exact v y hy
              . rw[lb.1 hy];exact hG
   . have ei:i=M.length:=by omega
     subst ei;rw[aaJ]at Z v;refine⟨by omega,?_⟩
     refine af.Jb 5 (a':=.sl 1 (nj (v7 n (k+1))) .any) ?_ (ih _ (by omega) ⟨_,_,rfl,by simp[o,r,g],Z.1,λk' q x hx=>?_⟩)
     . change AV.W a _
       have:=Z.W;rw[B]at this;exact this
     grind
 . have ek:k=n+1:=by omega
   subst ek;have e:xs=pQ n:=List.ext_getElem (by grind) λj q1 q2=>by grind
   rw[Qw L,<-e]at h;exact .less J (.done h)
def Ie(w:bY):adG:=GW w.aF.length λl=>decide (mD (w.only l) 72=mD w 72)
theorem Kt{w:bY}(a:w.Valid){l:adG}(b:l.length<=w.aF.length):yR (w.only l):=by
 refine⟨aaG (List.length_filterMap_le _ _) (aaG b a.EM.1),λc d=>a.EM.2 c ?_⟩;obtain⟨i,_,h⟩:=List.mem_filterMap.1 d
 grind
theorem GX(g:m.solo=true){w:bY}(h:w.qG)(o:w.Open)(hSub:∀l:adG,(∀c∈l,0<=c/\c<(w.aF.length:Int))->l.length<=w.aF.length->(w.only l).Open)(p:fh w [] [] []=0)(v:KF (.val (.ck [ints (Ie w),int 0])) σ):aA prog m 12 [dB w] σ KF:=by
 have y:Wl [dB w,nF,nF,nF] [dB w,ints [],ints [],ints []]:=Rt (.refl _) (fa 1) (fa 1) (fa 1);have z:=o.pJ;have r:=Bf w 72;refine aA.start lay [1] [] 1 Tryz.func12 rfl rfl (by rfl) (by kernel_rfl) ?_;simp[Tryz.f12];refine bK.intro λwb A=>?_
 simp;refine bP Tryz.func41 rfl rfl y (kH g h (by simp) (λq=>absurd p q) λq B fb mb s=>?_);refine af.run lay [1] ?_;simp;refine cf Tryz.func42 rfl (yU g o s.yV λi I C=>?_);have a:=s.less C;refine af.runN lay [1] 3 ?_;simp;refine bK.intro λD k=>?_
 simp;change af _ _ _ _ _ _ _ _ _;refine af.bq 6 (b:=D) (ints (mD w 72)) (aa.an _ _ _) (by simp) rfl ?_;rw[ew k];have d:i wb=some (.cells (EG w)):=a _ _ (aa.an _ _ _);refine af.run lay [1] ?_;simp[d];refine cf Tryz.func49 rfl (rv (by omega) ?_);refine af.run lay [1] ?_;simp;have n:w.Valid:=bY.valid h (by unfold fh at p;omega);refine cf Tryz.func43 rfl (Ks z.2 rfl (by simp) (G:=λl=>decide (mD (w.only l) 72=mD w 72)) (λl E K t u f F=>dp Tryz.func44 rfl rfl rfl (EZ g (hSub l t u) ⟨h.ways,n.way,n.bc⟩ (Kt n u) (by omega) t (by omega) (f _ _ d) F)) (rz _) (λj q=>by grind) ?_);refine af.run lay [1] ?_;simp;exact .less (λc x H=>a _ _ ((aa.ai _ _ λe=>by simp_all).trans H)) (.done v)
