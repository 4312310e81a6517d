import Derived.Test.YtabmephejpgigaaGreatDoorC18
set_option linter.all false
set_option maxHeartbeats 1000000
set_option maxRecDepth 4000
namespace Go.Proofs.YtabmephejpgigaaGreatDoor
open Go.Proofs.Tryz (prog)
section
open Go.cr Go.Conc
variable{m:Mo}{σ:ab}{KF:aaQ}
theorem Me:lO prog nn:=⟨⟨_,_,Tryz.func56,rfl,rfl,rfl⟩,⟨_,_,Tryz.func57,rfl,rfl,rfl⟩⟩
def Mf(w:gO):Prop:=w.aF.length<=3/\∀c∈w.aF,(0<=c.town/\c.town<w.bq)/\0<=c.hour/\c.hour<=72
def Pp(w:gO)(c:Oj):Int:=(qg w.ways w.bq.toNat c.town c.hour).getD 0 0
def jl(w:gO)(j:Nat):Int:=match w.aF[j]? with|some c=>Pp w c|none=>0
abbrev zL(fb mb:Nat)(w:gO)(o:Nat):AV:=Ok fb mb w (int (jl w 0)) (int (jl w 1)) (int (jl w 2)) [9,10] o
structure Iw(σ:ab)  fb mb  (w:gO)  σ' :Prop where
 f0:σ fb=none
 m0:σ mb=none
 ne:fb≠mb
 eq:σ'=(σ.set mb (oT (oU .u8) [])).set fb (.part (bD 9))
def uL(n:Nat):abf:=[9,10]++(List.range n).map (11+·)
abbrev Vq(mb:Nat)(w:gO):abj:=[iv w.fair.aA,rows w.fair.roads,int w.fair.aS,int w.fair.ew,int w.fair.cK,int w.fair.aV,int w.bq,xD w.ways,qJ w.aF,.lit (.int .i32 0),.lit (.int .u32 0),int 0,int 0,int 0,.map mb]
abbrev Qv(fb mb:Nat)(w:gO)(o:Nat):AV:=Ok fb mb w (int 0) (int 0) (int 0) (uL w.aF.length) o
def Rx(n:Nat):Nat->aaR:=λi=>if i=9 then some (.int .i32 0)else if i=10 then some (.int .u32 0)else if 11<=i/\i<11+n then some (.int .i64 0)else none
theorem na{n i}:i∈uL n↔i=9\/i=10\/11<=i/\i<11+n:=by
 unfold uL;rw[YH,YN];constructor
 . grind
 . rintro(h|h|h)
   . simp_all
   . simp_all
   . exact .inr ⟨i-11,YB.2 (by omega),by omega⟩
theorem Mg{n i}(h:i∈uL n):9<=i:=by have:=na.1 h;omega
theorem Qw{n mb w}(h:n<=3)  i   v  (a:Rx n i=some v):(Vq mb w)[i]?=some (.lit v):=by
 unfold Rx at a;split at a
 . simp_all
 split at a
 . simp_all
 split at a
 . next e=>
   cases a;have:i=11\/i=12\/i=13:=by omega
   rcases this with rfl|rfl|rfl<;>rfl
 . cases a
theorem Mh  n i :Rx n i=none↔i∉uL n:=by
 rw[na];unfold Rx
 grind
theorem Bj{w}(hs:m.solo=true)(hl:w.ways.length<1152921504606846976)(hw:∀x∈w.ways,xE w.bq x)(hn:1<=w.bq/\w.bq<=4)(hc:Mf w)(hK:∀σ' fb mb,Iw σ fb mb w σ'->KF (.val (zL fb mb w 0)) σ'):aB prog m 31 [ia w] σ KF:=by
 have h3:=hc.1;refine aB.start lay [10] [] 1 Tryz.func31 rfl rfl (by rfl) (by kernel_rfl) ?_;simp[Tryz.f31];refine uu (oU .u8) rfl λmb Br=>?_
 refine aa.run lay [10] ?_;simp[aH];refine cz.intro λfb S=>?_
 simp;obtain⟨fm,mf,I⟩:=ab.aP S;refine cz.intro λbw B=>?_
 obtain⟨wf,T,B⟩:=ab.aP B;obtain⟨wm,mw,B⟩:=ab.aP B;simp;refine cz.intro λgb o=>?_
 obtain⟨gw,wg,o⟩:=ab.aP o;obtain⟨gf,U,o⟩:=ab.aP o;obtain⟨gm,mg,o⟩:=ab.aP o;simp[wf,T,wm,mw,gw,wg,gf,U,gm,mg,fm,mf,ab.ah];refine aa.part fb (Vq mb w) (uL w.aF.length) (Rx w.aF.length) (bw:=bw) (l1:=[.ref fb 0]) (l2:=[Qv fb mb w 0]) (by simp[ab.ah,T,U]) (Qw h3) (Mh w.aF.length) (λt=>.inl rfl) wf (by simp[ab.ah,wg]) rfl (λi a a' W h2=>?_) ?_
 . match i with
   |0=>simp at W h2;subst W;subst h2;exact .inr ⟨0,rfl,rfl⟩
   |i+1=>simp at W
 refine aa.bu 3 (b:=bw) (Qv fb mb w 0) (ab.aj _ _ _) (by simp) rfl ?_;refine aa.jR (λe σ'=>(e 3=.cp (Qv fb mb w 0) 0/\e 4=.ref gb 0/\e 15=qJ w.aF/\e 16=int w.aF.length/\e 17=int 0)/\σ' fb=some (.part (Rx w.aF.length))/\σ' gb=some (.cells [.lit (.int .u64 0),.lit (.int .u32 0)])/\σ' mb=some (oT (oU .u8) [])/\∀c x,σ c=some x->c≠fb/\c≠mb/\c≠gb/\σ' c=some x) ⟨by simp,by simp[ab.del,ab.set,T],by simp[ab.del,ab.set,gw,gf],by simp[ab.del,ab.set,mw,mf,mg],λc x C=>?_⟩ ?_
 . have D:c≠fb:=λe=>by simp_all
   have E:c≠mb:=λe=>by simp_all
   have P:c≠gb:=λe=>by simp_all
   have X:c≠bw:=λe=>by simp_all
   exact⟨D,E,P,by simp[ab.del,ab.set,D,E,P,X,C]⟩
 rintro env al ⟨⟨g,h,ju,iR,d⟩,F,s2,s3,H⟩;refine aa.S8 hs (n:=w.aF.length) (fo:=9) (GI:=λx=>x=.map []) (λj=>.int .i64 (jl w j)) Pm Pn zu zv Me (by omega) U fm gm s2 F rfl rfl (λj Q q=>(Mh _ _).1 q (na.2 (.inr (.inr (by omega))))) s3 rfl rfl rfl ?_;rintro A ⟨J,rfl,Y,rfl,rfl,K,p,y,L,G⟩ Fin kd Z k0 M;refine aa.jR (λe σ'=>(e 3=.cp (Qv A.fb A.mb w 0) 0/\e 4=.ref A.gb 0/\e 15=qJ w.aF/\e 16=int w.aF.length/\e 17=int 0)/\σ' A.fb=some .gu/\∀c x,σ c=some x->c≠A.fb/\c≠A.mb/\σ' c=some x) ⟨⟨g,h,ju,iR,d⟩,ab.aj _ _ _,λc x C=>?_⟩ ?_
 . obtain⟨D,E,P,X⟩:=H c x C
   exact⟨D,E,by simp[ab.del,ab.set,D,E,P,X]⟩
 rintro env av ⟨⟨g,h,ju,iR,d⟩,F,H⟩;refine aa.S7 (λk s=>∃e σ',s=⟨e,σ',[],.told kd Z k0⟩/\(e 3=.cp (Qv A.fb A.mb w 0) 0/\e 4=.ref A.gb 0/\e 15=qJ w.aF/\e 16=int w.aF.length/\e 17=int k)/\σ' A.fb=some .gu/\∀c x,σ c=some x->c≠A.fb/\c≠A.mb/\σ' c=some x) ⟨_,_,rfl,⟨g,h,ju,iR,d⟩,F,H⟩ ?_ ?_
 . rintro r k _ hk ⟨env,σ',rfl,⟨g,h,ju,iR,d⟩,F,H⟩ ih
   rw[J]at hk;have z:k<w.aF.length:=by omega
   have f:(k:Int)<w.aF.length:=by omega
   refine aa.runN lay [] 17 ?_;simp[g,h,ju,iR,d,z,f];refine cz.intro λD ax=>?_
   simp[g,h,ju,iR,d,z,f];refine cz.intro λE N=>?_
   obtain⟨n1,n2,N⟩:=ab.aP N;simp[g,h,ju,iR,d,z,f,n1,n2,ab.ah];change aa _ _ _ _ _ _ _ _ _;refine aa.runN lay [] 4 ?_;simp[g,h,ju,iR,d,z,f,n1,n2,ab.ah];change aa _ _ _ _ _ _ _ _ _;refine aa.bu 6 (b:=E) (kj w.aF[k]) (ab.aj _ _ _) (by simp) rfl ?_;refine aa.bu 5 (b:=D) (int k) (by simp[ab.del,ab.set,n1,n2]) (by simp) rfl ?_;refine aa.Kj rfl (by rw[p];rfl) rfl (by simp) (by rw[p];exact Tryz.func52) rfl rfl (by simp[g,h,ju,iR,d,z,f]) ?_;refine aa.runN lay [] 4 ?_;simp[g,h,ju,iR,d,z,f];change aa _ _ _ _ _ _ _ _ _;have Q:A.n-(r+1)=k:=by omega
   have b1:A.fb≠D:=λe=>by simp_all
   have b2:A.fb≠E:=λe=>by simp_all
   have O:=hc.2 _ (zD z);refine aa.OP y (hold':=Ts) (first:=[]) (cap:=[.ref A.gb 0,.cp (Qv A.fb A.mb w 0) 0,.cp (kj w.aF[k]) 0,.cp (int k) 0]) rfl rfl rfl (by simp) (by simp[g,h,ju,iR,d,z,f]) Tryz.func53 rfl rfl (by show(4:Nat)<=25;decide) (by simp[ab.del,ab.set,b1,b2,F]) (by kernel_rfl) (by rw[p];exact Tryz.func54) rfl rfl (by rw[K];exact Tryz.func57) rfl rfl (λk1=>?_) ?_
   . rw[Q]
     exact xK (λi hi=>Mg hi) ⟨rfl,rfl,Y,K,p,y⟩ (by omega) (λx=>by rw[L]) hl hw hn O.1 O.2 (by rw[G];simp[jl,z,Pp]) rfl
   have f1:-9223372036854775808<=(k:Int)+1/\(k:Int)+1<=9223372036854775807:=by omega
   refine aa.run lay [10] ?_;simp[g,h,ju,iR,d,z,f,f1.1,f1.2];refine ih _ ⟨_,_,rfl,by simp[g,h,ju,iR,d,z,f],by simp[ab.del,ab.set,b1,b2,F],λc x C=>?_⟩;obtain⟨x1,x2,x3⟩:=H c x C;have y1:c≠D:=λe=>by grind
   have y2:c≠E:=λe=>by grind
   exact⟨x1,x2,by simp[ab.del,ab.set,y1,y2,x3]⟩
 . rintro _ ⟨env,σ',rfl,⟨g,h,ju,iR,d⟩,F,H⟩
   rw[J]at d;refine aa.runN lay [] 9 ?_;simp[g,h,ju,iR,d];change aa _ _ _ _ _ _ _ _ _;refine aa.Kr y ((cr.bd (env.upd 18 (bool false)) (some 25) (.cH [])).upd 3 (.cp (zL A.fb A.mb w 0) 0)) rfl (by rw[p];rfl) rfl (by simp) (by rw[p];exact Tryz.func58) rfl rfl (by simp_all) F rfl M (λkk a7 t v R=>?_) λa ha=>?_
   . change V kk v (cr.bd (env.upd 18 (bool false)) (some 25) (.cH []) t)at R
     by_cases e:t=3
     . subst e
       rw[show(cr.bd (env.upd 18 (bool false)) (some 25) (.cH [])) 3=.cp (Qv A.fb A.mb w 0) 0 by simp[g]]at R;rw[show((cr.bd (env.upd 18 (bool false)) (some 25) (.cH [])).upd 3 (.cp (zL A.fb A.mb w 0) 0)) 3=.cp (zL A.fb A.mb w 0) 0 by simp];refine V.XB rfl rfl (λu=>NX (l:=Vq A.mb w) (hole:=uL w.aF.length) rfl λj Q ay=>?_) R;by_cases hm:j∈uL w.aF.length
       . have aC:11<=j/\j<11+w.aF.length:=by
          have:=na.1 hm
          simp_all
         refine .inr ⟨.int .i64 (jl w (j-11)),?_,rfl,?_⟩
         . have:=a7 (j-11) (by omega)
           rwa [G,show A.cell (j-11)=j by unfold bJ.cell;omega]at this
         . have:j=11\/j=12\/j=13:=by omega
           rcases this with rfl|rfl|rfl<;>rfl
       . refine .inl ⟨hm,?_⟩
         have aE:j<15:=Q;have hz:∀i,w.aF.length<=i->int (jl w i)=int 0:=λi hi=>by rw[jl,Zu hi]
         have aL:¬(11<=j/\j<11+w.aF.length):=λq=>hm (na.2 (.inr (.inr q)))
         by_cases a8:j=11
         . subst a8;simp[hz 0 (by omega)]
         by_cases a9:j=12
         . subst a9;simp[hz 1 (by omega)]
         by_cases ad:j=13
         . subst ad;simp[hz 2 (by omega)]
         have:j=0\/j=1\/j=2\/j=3\/j=4\/j=5\/j=6\/j=7\/j=8\/j=9\/j=10\/j=14:=by omega
         rcases this with rfl|rfl|rfl|rfl|rfl|rfl|rfl|rfl|rfl|rfl|rfl|rfl<;>rfl
     . simpa[Env.upd,e]using R
   . rw[L]at ha
     subst ha;refine aa.run lay [10] ?_;simp[g,h,ju,iR,d];refine .less (σ':=(σ.set A.mb (oT (oU .u8) [])).set A.fb (.part (bD 9))) ?_ (.done (hK _ _ _ ⟨I,Br,fm,rfl⟩));intro c x C;by_cases c1:c=A.fb
     . simp_all
     by_cases c2:c=A.mb
     . subst c2
       rw[ab.ah _ _ c1,ab.aj]at C;rw[ab.ah _ _ c1,ab.aj];exact C
     rw[ab.ah _ _ c1,ab.ah _ _ c2]at C ⊢
     simp_all
def nf(w:gO)(ck a aF:abe):Int:=if lJ w=0 then(if ck.all (bE · 0 72)=false then 1 else if a.all (bE · 0 (w.fair.aA.length-1))=false then 3 else if aF.all (bE · 0 (w.aF.length-1))=false then 3 else 0)else lJ w
theorem pH{α}  g :∀{l:List α},fq g l=0->∀x∈l,g x=0
 |[],_,x,hx=>by simp at hx
 | a ::l,h,x,hx=>by
   unfold fq at h;split at h
   . next e=>
     rcases YQ.1 hx with rfl|hx
     . exact e
     . exact pH g h x hx
   omega
theorem Ix{t x}(h:pG t x=0):xE t x:=by
 unfold pG at h;split at h
 . cases h
 next a=>
 split at h
 . cases h
 next b=>
 split at h
 . cases h
 split at h
 . cases h
 next c=>
 split at h
 . cases h
 next d=>
 split at h
 . cases h
 next e=>
 have f:=dt (by simpa using a);have g:=dt (by simpa using b);have i:=dt (by simpa using c);have j:=dt (by simpa using d);have k:=dt (by simpa using e);unfold xE;omega
structure gO.Valid(w:gO):Prop where
 Mi:w.xJ
 bq:1<=w.bq/\w.bq<=4
 cT:∀x∈w.ways,xE w.bq x
 Yy:w.ways.length<=6
 Fa:Mf w
 late:∀c∈w.aF,c.lost.hour<=c.hour
 qo:w.fair.aA.length+w.aF.length<=6
 some:aG (iN w) []≠[]
theorem gO.valid{w}(d:w.xJ)(h:lJ w=0):w.Valid:=by
 unfold lJ at h;split at h
 . cases h
 next f=>
 split at h
 . cases h
 next o=>
 split at h
 . omega
 next p=>
 split at h
 . cases h
 next q=>
 split at h
 . omega
 next g=>
 split at h
 . cases h
 next r=>
 split at h
 . cases h
 next i=>
 have j:=dt (a:=w.bq) (by simpa using f)
 have e:w.fair.aA.length+w.aF.length<=6:=by omega
 have b:∀c∈w.aF,((0<=c.town/\c.town<w.bq)/\0<=c.hour/\c.hour<=72)/\c.lost.hour<=c.hour:=λc b=>by
  have:=pH _ (by simpa using g) c b
  unfold yy at this;split at this
  . cases this
  next k=>
  split at this
  . cases this
  next l=>
  split at this
  . cases this
  next s=>
  have t:=dt (by simpa using k)
  have u:=dt (by simpa using l)
  omega
 have m:=lK d e;have v:gL (iN w)≠0:=i;refine⟨d,j,λx n=>Ix (pH _ (by omega) x n),by omega,⟨by omega,λc h=>(b c h).1⟩,λc h=>(b c h).2,e,(zB m).1 ?_⟩
 have:0<=gL (iN w):=by unfold gL;omega
 omega
theorem Fb  p  (l:abe){i}  h :(l.drop i).all p=(p l[i] && (l.drop (i+1)).all p):=by rw[Zg h,Zl]
theorem xL{w}(A:m.solo=true)(y:w.xJ){ck a aF}(D:ck.length<1000000/\a.length<1000000/\aF.length<1000000)
 (f:nf w ck a aF≠0->KF (.val (.cH [.lit (.pointer none),int (nf w ck a aF)])) σ)
 (r:nf w ck a aF=0->∀σ' fb mb,Iw σ fb mb w σ'->KF (.val (.cH [zL fb mb w 0,int 0])) σ'):aB prog m 17 [ia w,ints ck,ints a,ints aF] σ KF:=by
 unfold nf at f r;refine fs [] Tryz.func17 rfl (by kernel_rfl) ?_;simp[Tryz.f17];refine cf Tryz.func29 rfl (E9 A y ?_);apply rn;simp;apply aI.intro<;>intro t<;>simp at t<;>simp[t]
 . simp[t]at f
   exact .done f
 have v:=gO.valid y t;have z:=y.ways;have E:=v.qo;simp only[t,YD]at f r;refine aa.loop ck.length (λk s=>∃env,s=⟨env,σ,[],.no⟩/\env 2=ints a/\env 3=ints aF/\env 4=.cp (ia w) 0/\env 22=ints ck/\env 23=int ck.length/\env 24=int k/\ck.all (bE · 0 72)=(ck.drop k).all (bE · 0 72)) ⟨_,rfl,by simp⟩ ?_;rintro F k _ x ⟨env,rfl,B,C,q,Jv,IJ,vf,b⟩ u;apply rn;simp[IJ,vf];apply aI.intro<;>intro h<;>simp at h<;>simp[B,C,Jv,vf,h]
 . rw[Fb _ _ h]at b
   refine cf Tryz.func30 rfl (dO ?_);apply rn;simp;refine aI.intro (λd=>?_) (λd=>?_)<;>(try simp at d)<;>(try simp[vf,d])
   . rw[d,Bool.true_and]at b
     refine⟨by omega,u _ (by omega) ⟨_,rfl,?_,?_,?_,?_,?_,?_,b⟩⟩<;>simp[B,C,q,Jv,IJ]
   . simp[b,d]at f
     exact .done f
 have ek:k=ck.length:=by omega
 subst ek;rw[aad,List.all_nil]at b;simp only[b,ZU,Rp]at f r;refine aa.tE ?_;apply rn;simp;refine aa.loop a.length (λk s=>∃env,s=⟨env,σ,[],.no⟩/\env 4=.cp (ia w) 0/\env 34=.sl 1 [ints a,ints aF] .exact/\env 35=int 2/\env 36=int 0/\env 13=int 0/\env 41=ints a/\env 42=int a.length/\env 43=int k/\a.all (bE · 0 (w.fair.aA.length-1))=(a.drop k).all (bE · 0 (w.fair.aA.length-1))) ⟨_,rfl,by simp[q]⟩ ?_;rintro G k _ x ⟨env,rfl,q,i,g,j,n,o,p,e,b⟩ u;refine aa.runN lay [] 25 ?_;simp[p,e];apply aI.intro<;>intro h<;>simp at h<;>simp[q,j,o,e,h]
 . rw[Fb _ _ h]at b
   refine aa.op rfl (bU rfl) (by simp) (λc=>by simp) (po lay rfl Ti rfl uI (l:=[int w.fair.aA.length,int w.aF.length]) (by simp) (by simp[ko,aH]) ?_);apply rn;simp[n];refine⟨by omega,?_⟩;refine cf Tryz.func30 rfl (dO ?_);apply rn;simp;refine aI.intro (λd=>?_) (λd=>?_)<;>(try simp at d)<;>(try simp[e,d])
   . rw[d,Bool.true_and]at b
     refine⟨by omega,u _ (by omega) ⟨_,rfl,?_,?_,?_,?_,?_,?_,?_,?_,b⟩⟩<;>simp[q,i,g,j,n,o,p]
   . rw[d,Bool.false_and]at b
     simp only[b,YD]at f;exact .done (f (by decide))
 have ek:k=a.length:=by omega
 subst ek;rw[aad,List.all_nil]at b;simp only[b,ZU,Rp]at f r;refine aa.again (by kernel_rfl) ?_;apply rn;simp[i,g];refine aa.loop aF.length (λk s=>∃env,s=⟨env,σ,[],.no⟩/\env 4=.cp (ia w) 0/\env 34=.sl 1 [ints a,ints aF] .exact/\env 35=int 2/\env 36=int 1/\env 13=int 1/\env 41=ints aF/\env 42=int aF.length/\env 43=int k/\aF.all (bE · 0 (w.aF.length-1))=(aF.drop k).all (bE · 0 (w.aF.length-1))) ⟨_,rfl,by simp[q,i,g]⟩ ?_;rintro H k _ x ⟨env,rfl,q,i,g,j,n,o,p,e,b⟩ u;refine aa.runN lay [] 25 ?_;simp[p,e];apply aI.intro<;>intro h<;>simp at h<;>simp[q,j,o,e,h]
 . rw[Fb _ _ h]at b
   refine aa.op rfl (bU rfl) (by simp) (λc=>by simp) (po lay rfl Ti rfl uI (l:=[int w.fair.aA.length,int w.aF.length]) (by simp) (by simp[ko,aH]) ?_);apply rn;simp[n];refine⟨by omega,?_⟩;refine cf Tryz.func30 rfl (dO ?_);apply rn;simp;refine aI.intro (λd=>?_) (λd=>?_)<;>(try simp at d)<;>(try simp[e,d])
   . rw[d,Bool.true_and]at b
     refine⟨by omega,u _ (by omega) ⟨_,rfl,?_,?_,?_,?_,?_,?_,?_,?_,b⟩⟩<;>simp[q,i,g,j,n,o,p]
   . rw[d,Bool.false_and]at b
     simp only[b,YD]at f;exact .done (f (by decide))
 have ek:k=aF.length:=by omega
 subst ek;rw[aad,List.all_nil]at b;simp only[b,ZU,Rp]at f r;refine aa.again (by kernel_rfl) ?_;apply rn;simp[q,g];refine cf Tryz.func31 rfl (Bj A z v.cT v.bq v.Fa λσ' fb mb x=>?_);apply rn;simp;exact .done (r trivial σ' fb mb x)
end
section
open Go Go.cr Go.Conc
open Go.Extern
variable{m:Mo}{σ:ab}{KF:aaQ}
abbrev TR(t:Nat):Value:=.pointer (some ⟨1,t,none⟩)
abbrev TS(t:Nat):AV:=.kz 231 (.agg [.lit (TR t)])
theorem uM{P:abm}{t f:Nat}{name:String}{a a':AV}(h:∀k v,V k v a->∃r,eu P (Go.method (P.types.size+Made.depth) t v name)=some (f,r)/\V k r a'):nC P t name f a a':=λk O v K g b c=>by obtain⟨r,d,e⟩:=h k v b;exact nR _ d (c r e)
theorem Iy{t f:Nat}{name:String}(h:∀h,eu prog (Go.method (prog.types.size+Made.depth) 231 (.agg #[h]) name)=some (f,.agg #[h])):nC prog 231 name f (.agg [.lit (TR t)]) (.agg [.lit (TR t)]):=uM λk v a=>by obtain⟨x,rfl,_⟩:=EC.1 a;exact⟨_,h x,a⟩
theorem Qx(k:ao)(t:Nat):V k (.iface 231 (.agg #[TR t])) (TS t):=Pj.2 ⟨_,rfl,EC.2 ⟨_,rfl,.lit _⟩⟩
abbrev zM:AV:=.kz 149 (.agg [])
theorem Qy(h:KF (.val (bool false)) σ):aB prog m 64 [.lit .nilIface,zM] σ KF:=by
 refine fs [] Tryz.func64 rfl (by kernel_rfl) ?_;simp[Tryz.f64];refine fX lay rfl Gc rfl (.inl ⟨rfl,rfl⟩) (.inl ⟨rfl,rfl⟩) ?_;apply rn;simp;refine nT (vx:=.nilIface) (vy:=.iface 149 (.agg #[])) (r:=.bool false) rfl (λk v a=>by simpa using zn.1 a) (λk v a=>V.N1 (by simpa using a)) (by kernel_rfl) ?_;apply rn;simp;exact .done h
theorem Mj  h :eu prog (Go.method (prog.types.size+Made.depth) 231 (.agg #[h])  "Comparable")=some (184,.agg #[h]):=by kernel_rfl
theorem Ol(h:KF (.val (bool true)) σ):aB prog m 100 [zM,zM,bool true] σ KF:=by
 refine fs [] Tryz.func100 rfl (by kernel_rfl) ?_;simp[Tryz.f100];refine aa.tE ?_;apply rn;simp;refine nT (vx:=.iface 149 (.agg #[])) (vy:=.iface 149 (.agg #[])) (r:=.bool true) rfl (λk v a=>V.N1 (by simpa using a)) (λk v a=>V.N1 (by simpa using a)) (by kernel_rfl) ?_;apply rn;simp;exact .done h
theorem Om(h:KF (.val (bool true)) σ):aB prog m 64 [zM,zM] σ KF:=by
 refine fs [] Tryz.func64 rfl (by kernel_rfl) ?_;simp[Tryz.f64];refine fX lay rfl Gc rfl (.inr ⟨⟨_,_,rfl⟩,rfl⟩) (.inl ⟨rfl,rfl⟩) ?_;apply rn;simp;refine fX lay rfl Gc rfl (.inr ⟨⟨_,_,rfl⟩,rfl⟩) (.inl ⟨rfl,rfl⟩) ?_;apply rn;simp;refine cX.ext Tryz.func99 rfl rfl (by kernel_rfl) (e:=ReflectliteType.typeOf) (by kernel_rfl) (uG.pure (v:=.iface 231 (.agg #[TR 149])) (a:=TS 149) (λk f d=>?_) (λk=>Qx k _) ?_)
 . obtain⟨v,b,c⟩:=d.one
   subst b;rw[V.N1 c]
   kernel_rfl
 apply rn;simp;refine aa.NZ rfl rfl (bU rfl) (by simp) rfl (Iy Mj) Tryz.func184 rfl rfl (by kernel_rfl) (e:=ReflectliteType.method λt=>do Rtype.noPackHeld  "Comparable" t;pure (.bool (<-typeInfo t).comparable)) (by kernel_rfl) (uG.pure (v:=.bool true) (a:=bool true) (λk f d=>?_) (λk=>.lit _) ?_)
 . obtain⟨v,b,c⟩:=d.one
   subst b;obtain⟨u,rfl,g⟩:=EC.1 c;rw[zn.1 g]
   kernel_rfl
 apply rn;simp;refine cf Tryz.func100 rfl (Ol ?_);apply rn;simp;exact .done h
theorem Db{w fb mb c}(b:c<3)(h:if 72<jl w c then KF (.val (.cH [int 0,zM])) σ else KF (.val (.cH [int (jl w c),.lit .nilIface])) σ):aB prog m 63 [zL fb mb w 0,int c] σ KF:=by
 have:c=0\/c=1\/c=2:=by omega
 rcases this with rfl|rfl|rfl
 all_goals
  refine fs [] Tryz.func63 rfl (by kernel_rfl) ?_;simp[Tryz.f63];refine aI.intro (λa=>?_) (λa=>?_)<;>(try simp[-Int.not_lt,-Int.not_le]at a)<;>(try simp[a]at h)<;>(try simp[a])<;>(try exact .done h)
 all_goals exact .done h
def pE(w:gO)(h:Int)(i:Int):Bool:=decide ((aK w.fair i).hour<=h)
def pC(w:gO)(h:Int)(i:Int):Bool:=decide (jl w i.toNat<=72) && decide (jl w i.toNat<=h)
def bI(w:gO)(h:Int):abe:=(rp w.fair.aA.length).filter (pE w h)
def dP(w:gO)(h:Int):abe:=(rp w.aF.length).filter (pC w h)
abbrev Mk(w:gO)(h:Int):AV:=.agg [u8 (aW (bI w h)),u8 (aW (dP w h))]
theorem xN  k   p :(rp (k+1)).filter p=(rp k).filter p++if p k then[(k:Int)]else[]:=by
 unfold rp;rw[YT,YS,ZF]
 grind
theorem mK  l   n :aW (l++[n])=bR (aW l) n:=by
 unfold aW
 simp_all
namespace CK
abbrev Vr:aaV:=[⟨6,.take [0,1,2,3,4,5] true (.one 6 (.done))⟩,⟨13,.take [0,3,6] false (.both 1 (.one 2 (.take [4,5] true (.one 7 (.done)))) (.one 2 (.take [1,4,5] true (.one 7 (.done)))))⟩]
theorem zN{w fb mb h}(H:w.fair.aA.length<=6)(I:w.aF.length<=3)(z:KF (.val (Mk w h)) σ):aB prog m 33 [zL fb mb w 0,int h] σ KF:=by
 refine fs Vr Tryz.func33 rfl (by kernel_rfl) ?_
 simp[Tryz.f33];refine cz.intro λb hb=>?_
 simp;refine cz.intro λd hd=>?_
 obtain⟨J,A,hd⟩:=ab.aP hd;simp;refine aa.loop w.fair.aA.length (λk s=>∃env,s=⟨env,(σ.set b (.cells [u8 0,u8 0])).set d (.cells [u8 (aW ((rp k).filter (pE w h))),u8 0]),[],.no⟩/\env 0=zL fb mb w 0/\env 1=int h/\env 4=.ref b 0/\env 5=.ref d 0/\env 16=iv w.fair.aA/\env 17=int w.fair.aA.length/\env 18=int k) ⟨_,rfl,by simp⟩ ?_
 rintro K k _ B ⟨env,rfl,i,j,n,g,iR,o,MU⟩ p
 refine aa.runN lay [] 17 ?_;simp[o,MU];apply aI.intro<;>intro r<;>simp at r<;>simp[i,iR,MU,r]
 . have C:aK w.fair k=w.fair.aA[k]:=by simp[aK,r]
   refine cz.intro λq D=>?_
   obtain⟨L,M,E⟩:=ab.aP D;obtain⟨N,O,P⟩:=ab.aP E;simp
   change aa _ _ _ _ _ _ _ _ _
   refine aa.runN lay [] 2 ?_;simp
   change aa _ _ _ _ _ _ _ _ _
   refine aa.bu 7 (b:=q) (ba w.fair.aA[k]) (ab.aj _ _ _) (by simp) rfl ?_
   rw[eG (by omega)]
   apply rn;simp[j];have a:=xN k (pE w h);have t:pE w h k=decide (w.fair.aA[k].hour<=h):=by unfold pE;rw[C]
   apply aI.intro<;>intro u<;>simp at u<;>simp[g,MU,u,sE]
   . rw[t,show decide (w.fair.aA[k].hour<=h)=true by grind,YG rfl]at a
     apply rn;simp[MU];refine⟨by omega,p _ (by omega) ⟨_,by rw[a,mK];rfl,by simp[i,j,n,g,iR,o]⟩⟩
   . rw[t,show decide (w.fair.aA[k].hour<=h)=false by grind,YA (by simp),Zo]at a
     refine⟨by omega,p _ (by omega) ⟨_,by rw[a],by simp[i,j,n,g,iR,o]⟩⟩
 have ek:k=w.fair.aA.length:=by omega
 subst ek;rw[show(rp w.fair.aA.length).filter (pE w h)=bI w h from rfl]
 apply rn;simp;refine aa.loop w.aF.length (λk s=>∃env,s=⟨env,(σ.set b (.cells [u8 0,u8 0])).set d (.cells [u8 (aW (bI w h)),u8 (aW ((rp k).filter (pC w h)))]),[],.no⟩/\env 0=zL fb mb w 0/\env 1=int h/\env 4=.ref b 0/\env 5=.ref d 0/\env 39=int w.aF.length/\env 40=int k) ⟨_,rfl,by simp[i,j,n,g]⟩ ?_
 rintro v k _ B ⟨env,rfl,i,j,n,g,l,f⟩ p
 apply rn;simp[l,f];apply aI.intro<;>intro r<;>simp at r<;>simp[i,n,g,f,r,A,ab.ah]
 . have a:=xN k (pC w h)
   have t:pC w h k=(decide (jl w k<=72) && decide (jl w k<=h)):=rfl;refine cf Tryz.func63 rfl (Db (by omega) ?_)
   split
   . next u=>
     apply rn;simp;refine cf Tryz.func64 rfl (Om ?_);apply rn;simp[f];rw[t,show decide (jl w k<=72)=false by simp;omega,Bool.false_and,YA (by simp),Zo]at a
     refine⟨by omega,p _ (by omega) ⟨_,by rw[a],by simp[i,j,n,g,l]⟩⟩
   . next u=>
     apply rn;simp;refine cf Tryz.func64 rfl (Qy ?_);apply rn;simp[j];rw[t,show decide (jl w k<=72)=true by simp;omega,Bool.true_and]at a
     apply aI.intro<;>intro y<;>simp at y<;>simp[g,f,y]
     . rw[show decide (jl w k<=h)=true by grind,YG rfl]at a
       have:k=0\/k=1\/k=2:=by omega
       refine⟨?_,?_⟩
       all_goals
        refine cf Tryz.func65 rfl (Mb ?_)
        rcases this with rfl|rfl|rfl
       all_goals
        apply pg;simp[sE];apply rn;simp[f]
       all_goals exact p _ (by omega) ⟨_,by rw[a,mK];rfl,by simp[i,j,n,g,l]⟩
     . rw[show decide (jl w k<=h)=false by grind,YA (by simp),Zo]at a
       refine⟨by omega,p _ (by omega) ⟨_,by rw[a],by simp[i,j,n,g,l]⟩⟩
 . have ek:k=w.aF.length:=by omega
   subst ek;rw[show(rp w.aF.length).filter (pC w h)=dP w h from rfl]
   refine .less (λc x F=>?_) (.done z)
   have v:c≠b:=λe=>by grind
   have G:c≠d:=λe=>by grind
   rw[ab.ah _ _ v,ab.ah _ _ G,ab.ah _ _ v];exact F
end CK
theorem pI{b o l n}(a:σ b=some (.cells l))(c:l[o]?=some (.lit (.int .u32 n)))(h:KF (.val (bool (n !=0))) σ):aB prog m 97 [.ref b o] σ KF:=by
 refine fs [] Tryz.func97 rfl (by kernel_rfl) ?_;simp[Tryz.f97];refine cX.ext Tryz.func127 rfl rfl (by kernel_rfl) (e:=Atomic.loadT (.int .u32)) (by kernel_rfl) (ED (nQ b o) a c ?_);apply rn;simp;exact .done h
theorem Qz(h:KF (.val (.lit (.int .u32 1))) σ):aB prog m 141 [bool true] σ KF:=by
 refine fs [] Tryz.func141 rfl (by kernel_rfl) ?_;simp[Tryz.f141];exact .done h
theorem Bl{b o l}(a:σ b=some (.cells l))(c:o<l.length)(h:KF (.val (.cH [])) (σ.set b (.cells (l.set o (.lit (.int .u32 1)))))):aB prog m 128 [.ref b o,bool true] σ KF:=by
 refine fs Tx Tryz.func128 rfl (by kernel_rfl) ?_;simp[Tryz.f128];refine cf Tryz.func141 rfl (Qz ?_);apply pg;simp;refine cX.ext Tryz.func140 rfl rfl (by kernel_rfl) (e:=Atomic.storeT) (by kernel_rfl) (CD (nQ b o) a c ?_);apply pg;simp;apply rn;simp;exact .done h
theorem Dc{b l f}(a:σ b=some (.cells l))(c:l[0]?=some (.lit (.int .u32 1)))(h:KF (.val (.cH [])) σ):aB prog m 59 [.ref b 0,f] σ KF:=by
 refine fs [] Tryz.func59 rfl (by kernel_rfl) ?_;simp[Tryz.f59];refine cf Tryz.func97 rfl (pI a c ?_);apply rn;simp;exact .done h
theorem Dd(d:m.solo=true){b l f}(c:σ b=some (.cells l))(p:l[0]?=some (.lit (.int .u32 0)))(e:l[1]?=some (.lit (.int .i32 0)))(g:l[2]?=some (.lit (.int .u32 0)))
 (h:∀K ,(∀σ' a,σ' b=some (.cells a)->a[0]?=some (.lit (.int .u32 0))->a[1]?=some (.lit (.int .i32 1))->a[2]?=some (.lit (.int .u32 0))->KF (.val (.cH [])) (σ'.set b (.cells ((a.set 0 (.lit (.int .u32 1))).set 1 (.lit (.int .i32 0)))))->K (.val (.cH [])) σ')->cX prog m f [] (σ.set b (.cells (l.set 1 (.lit (.int .i32 1))))) K):
 aB prog m 98 [.ref b 0,f] σ KF:=by
 refine fs [] Tryz.func98 rfl (by kernel_rfl) ?_;simp[Tryz.f98];refine cf Tryz.func56 rfl (Es zu zv Me d (nQ b 1) c e g ?_);apply rn;simp;refine aa.defer rfl rfl rfl rfl (by simp) rfl ?_;apply rn;simp;have i:(σ.set b (.cells (l.set 1 (.lit (.int .i32 1))))) b=some (.cells (l.set 1 (.lit (.int .i32 1)))):=ab.aj _ _ _;have j:(l.set 1 (.lit (.int .i32 1)))[0]?=some (.lit (.int .u32 0)):=by simp_all
 refine cf Tryz.func97 rfl (pI i j ?_);apply rn;simp;refine aa.defer rfl rfl rfl rfl (by simp) rfl ?_;apply rn;simp;refine h _ λσ' a k n q r o=>?_
 apply rn;simp;refine rA.func Tryz.func128 rfl rfl (Bl k (YJ.1 n).1 ?_);refine rA.func Tryz.func57 rfl rfl (AS zu zv Me d (nQ b 1) (ab.aj _ _ _) (by simp_all) (by simp_all) ?_);rw[ab.set_set];exact⟨[],rfl,.done o⟩
theorem Bm(e:m.solo=true){b l f}(c:σ b=some (.cells l))(d:l[0]?=some (.lit (.int .u32 0)))(g:l[1]?=some (.lit (.int .i32 0)))(h:l[2]?=some (.lit (.int .u32 0)))
 (i:∀K ,(∀σ' a,σ' b=some (.cells a)->a[0]?=some (.lit (.int .u32 0))->a[1]?=some (.lit (.int .i32 1))->a[2]?=some (.lit (.int .u32 0))->KF (.val (.cH [])) (σ'.set b (.cells ((a.set 0 (.lit (.int .u32 1))).set 1 (.lit (.int .i32 0)))))->K (.val (.cH [])) σ')->cX prog m f [] (σ.set b (.cells (l.set 1 (.lit (.int .i32 1))))) K):
 aB prog m 59 [.ref b 0,f] σ KF:=by
 refine aB.thaw ?_;refine fs [] Tryz.func59 rfl (by kernel_rfl) ?_;simp[Tryz.f59];refine cf Tryz.func97 rfl (pI c d ?_);apply rn;simp;refine cf Tryz.func98 rfl (Dd e c d g h λK j=>i K λσ' a k n o p q=>j σ' a k n o p ?_);apply rn;simp;exact .done (.done q)
end
section
open Go Go.cr Go.Conc
variable{m:Mo}{σ:ab}{KF:aaQ}
def pJ(w:gO)(c:Int):Oj:=w.aF.getD c.toNat ⟨⟨0,0,0,[],0,0⟩,0,0⟩
abbrev cW(w:gO)(es cs:abe):Fr:={w.fair with aA:=es.map (aK w.fair)++cs.map λc=>(pJ w c).lost}
abbrev uN(f:Fr):abj:=[rows f.roads,int f.aS,int f.ew,int f.cK,int f.aV]
abbrev tT:abj:=[.lit (.slice none 0 0),.lit (.slice none 0 0),int 0,int 0,int 0,int 0]
theorem Fc{a a' l}(h:a.W a'):(AV.agg (a::l)).W (.agg (a'::l)):=pv rfl λi x y c b=>by
 cases i with
 |zero=>simp_all
 |succ i=>simp at c b;rw[c]at b;cases b;exact .refl _
namespace CF
abbrev Vt:aaV:=[⟨6,.take [0,2,3,4,5,6,7,8,9,10,13] false (.both 1 (.one 11 (.one 12 (.one 14 (.done)))) (.one 11 (.take [1] true (.one 12 (.one 14 (.done))))))⟩,⟨11,.take [1,2,3,4,5,6,7,8,9] false (.both 0 (.one 10 (.one 11 (.one 12 (.done)))) (.one 10 (.take [0] true (.one 11 (.one 12 (.done))))))⟩]
theorem Ml{w fb mb x y}(U:∀i∈az x,0<=i/\i<w.fair.aA.length)(V:∀i∈az y,0<=i/\i<w.aF.length)(h:KF (.val (cj (cW w (az x) (az y)))) σ):aB prog m 61 [zL fb mb w 0,.agg [u8 x,u8 y]] σ KF:=by
 have X:=m8 x;have Y:=m8 y;refine fs Vt Tryz.func61 rfl (by kernel_rfl) ?_
 simp[Tryz.f61];refine cz.intro λb hb=>?_
 simp;refine cz.intro λd l=>?_
 obtain⟨n1,n2,hd⟩:=ab.aP l;simp;refine cf Tryz.func34 rfl (jV ?_);apply rn;simp
 refine aa.loop (az x).length (λk s=>∃env f a,s=⟨env,f,[],.no⟩/\env 0=zL fb mb w 0/\env 3=.cp (.agg [u8 x,u8 y]) 0/\env 4=.ref b 0/\env 5=.ref d 0/\env 18=ints (az x)/\env 19=int (az x).length/\env 20=int k/\f d=some (.cells (a::uN w.fair))/\Tok (σ.set b (.cells tT)) f a 6 (((az x).take k).map λi=>ba (aK w.fair i))) ⟨_,_,_,rfl,by simp,by simp,by simp,by simp,by simp,by simp,by simp,ab.aj _ _ _,(Tok.nil _ _).beside l (by simp[bH])⟩ ?_
 rintro c0 k _ Z ⟨env,f,a,rfl,E,S,F,n,MU,Sr,Rf,p,g⟩ K
 have L:=g.cells;apply rn;simp[Sr,Rf];apply aI.intro<;>intro o<;>simp at o<;>simp[E,S,n,MU,Rf,o]
 . obtain⟨i,r⟩:∃i,(az x)[k]=i:=⟨_,rfl⟩
   have t:=U i (r ▸ zD o);have j:i.toNat<w.fair.aA.length:=by omega
   have M:aK w.fair i=w.fair.aA[i.toNat]:=by simp[aK,j]
   simp only[r];have u:w.fair.aA[i.toNat]?=some w.fair.aA[i.toNat]:=zR j;refine⟨t.1,?_⟩;simp[n,p,u]
   have N:((az x).take (k+1)).map (λi=>ba (aK w.fair i))=((az x).take k).map (λi=>ba (aK w.fair i))++[ba w.fair.aA[i.toNat]]:=by rw[Yz o,YS,r,<-M];rfl
   have O:bH a≠some d:=λe=>by obtain⟨_,_,q⟩:=g.bb e;simp_all
   refine⟨?_,?_⟩
   all_goals
    refine aQ lay rfl rfl rfl ki rfl ki rfl uZ (by decide) (by simp only[YV,ZD,Zh,ZG];omega) (σ0:=f.off a) (es:=((az x).take k).map λi=>ba (aK w.fair i)) (xs:=[ba w.fair.aA[i.toNat]]) (by simpa using g.here.1) (.inr ⟨_,by simp;rfl⟩) λa' P A=>?_
    have G:=A.cells;have T:P d=some (.cells (a::uN w.fair)):=A.1 _ _ (by rw[ab.fK O];exact p)
    have B:=A.base g.here.2;rw[<-N]at B;apply pg;simp[T,G.1,G.2,aH];apply rn;simp[Rf];refine⟨by omega,K _ (by omega) ⟨_,_,a',rfl,by simp[E],by simp[S],by simp[F],by simp[n],by simp[MU],by simp[Sr],by simp,ab.aj _ _ _,B.beside l (λe=>by obtain⟨_,_,q⟩:=B.bb e;rw[T]at q;cases q)⟩⟩
 . have ek:k=(az x).length:=by omega
   subst ek;rw[YZ]at g;refine cf Tryz.func34 rfl (jV ?_);apply rn;simp
   have H:a.W (iv ((az x).map (aK w.fair)++(((az y).take 0).map λc=>(pJ w c).lost))):=by simp only[List.take_zero,List.map_nil,Zo];have:=g.W;show a.W (.sl 6 (((az x).map (aK w.fair)).map ba) .any);rw[aab];exact this
   refine aa.loop (az y).length (λk s=>∃env f z,s=⟨env,f,[],.no⟩/\env 0=zL fb mb w 0/\env 4=.ref b 0/\env 5=.ref d 0/\env 41=ints (az y)/\env 42=int (az y).length/\env 43=int k/\f d=some (.cells (z::uN w.fair))/\(z.cells=[z]/\z.flat=true)/\z.W (iv ((az x).map (aK w.fair)++(((az y).take k).map λc=>(pJ w c).lost)))/\(σ.set b (.cells tT)).Le f) ⟨_,_,a,rfl,by simp[E],by simp[F],by simp[n],by simp,by simp,by simp,p,L,H,g.1⟩ ?_
   rintro Q k _ Z ⟨env,f,z,rfl,E,F,n,I,J,C,p,R,H,D⟩ K
   have qb:f b=some (.cells tT):=D _ _ (ab.aj _ _ _);apply rn;simp[J,C];apply aI.intro<;>intro o<;>simp at o<;>simp[E,F,n,I,C,p,qb,R.2,o,aH]
   . obtain⟨i,r⟩:∃i,(az y)[k]=i:=⟨_,rfl⟩
     have t:=V i (r ▸ zD o);have j:i.toNat<w.aF.length:=by omega
     have M:pJ w i=w.aF[i.toNat]:=by simp[pJ,j]
     simp only[r];have u:w.aF[i.toNat]?=some w.aF[i.toNat]:=zR j;refine⟨t.1,?_⟩;simp[n,p,u]
     have N:((az y).take (k+1)).map (λc=>(pJ w c).lost)=((az y).take k).map (λc=>(pJ w c).lost)++[w.aF[i.toNat].lost]:=by rw[Yz o,YS,r,<-M];rfl
     have hW:Wl [AV.agg (z::uN w.fair),.sl 6 [ba w.aF[i.toNat].lost] .exact] [cj (cW w (az x) ((az y).take k)),iv [w.aF[i.toNat].lost]]:=.cons (Fc H) (.cons (jH _ _ _) .nil);refine⟨?_,?_⟩
     all_goals
      refine dQ Tryz.func50 rfl rfl hW (Da (by simp only[YL,YV,ZD,Zh,ZG];omega) ?_)
      rw[ZA,<-N];apply pg;simp[n,p];apply rn;simp[C];refine⟨by omega,K _ (by omega) ⟨_,_,_,rfl,by simp[E],by simp[F],by simp[n],by simp[I],by simp[J],by simp,ab.aj _ _ _,⟨rfl,rfl⟩,by simp only[List.map_take];exact .refl _,ab.fW D l⟩⟩
   . have ek:k=(az y).length:=by omega
     subst ek;rw[YZ]at H;refine .qk (Fc H) (.less (λc v hv=>?_) (.done h))
     have Q:c≠b:=λe=>by grind
     rw[ab.ah _ _ Q];exact D _ _ (by rw[ab.ah _ _ Q];exact hv)
end CF
def ni(f:Fr)(x y:Int):Int:=fJ (((aG f []).filter (fE x y)).length:Int) (aG f []).length
def zO(n:Int):Nat:=if n=1 then 71 else if n=3 then 191 else 108
abbrev xO(n:Int):AV:=.kz (zO n) (.agg [])
def sN(n:Int):AV:=if n=0 then .lit .nilIface else xO n
def u'(f:Fr)(es cs:abe)(x:Nat)(N:abe):abe:=(List.range cs.length).foldl (λN y=>N.set (3*(es.getD x 0).toNat+(cs.getD y 0).toNat) (ni f x ((es.length:Int)+y))) N
def zP(f:Fr)(es cs:abe):abe:=(List.range es.length).foldl (λN x=>u' f es cs x N) (List.replicate 18 0)
abbrev uO(a b:Int)(N:abe):abj:=[.lit (.int .u32 a),.lit (.int .i32 b),.lit (.int .u32 0)]++N.map sN
theorem Mm  f   x y :ni f x y≠0:=by unfold ni fJ;omega
theorem jf{σ:ab}{b x}(h:σ b=some x):σ.set b x=σ:=by
 funext c;by_cases e:c=b
 . simp_all
 . simp[ab.set,e]
theorem Mn  f   es cs   x   N :(u' f es cs x N).length=N.length:=by
 have key:∀(l:abf) (N:abe),(l.foldl (λN y=>N.set (3*(es.getD x 0).toNat+(cs.getD y 0).toNat) (ni f x ((es.length:Int)+y))) N).length=N.length:=λl=>by
  induction l with
  |nil=>simp_all
  |cons a l b=>simp_all
 exact key _ N
theorem De{a b c}{N:abe}{i j n}(d:3*i+j<N.length)(f:n≠0):aH (a::b::c::N.map sN) (3+i*3+j) [xO n]=a::b::c::(N.set (3*i+j) n).map sN:=by
 have e:3+i*3+j=3*i+j+1+1+1:=by omega
 rw[e];generalize 3*i+j=p at d ⊢;unfold aH;simp only[List.take_succ_cons,Zh,ZG,ZP,List.drop_succ_cons,List.cons_append];rw[aal,List.set_eq_take_append_cons_drop,YG (by simp_all)];simp[sN,f]
theorem Mp(Q:m.solo=true){w fb mb bk x y}(K:∀i∈az x,0<=i/\i<w.fair.aA.length)(L:∀i∈az y,0<=i/\i<w.aF.length)(D:(cW w (az x) (az y)).Good)(R:aG (cW w (az x) (az y)) []≠[])(h6:w.fair.aA.length<=6/\w.aF.length<=3)
 (hb:σ bk=some (.cells (uO 0 1 (List.replicate 18 0)))) (h:KF (.val (.cH [])) (σ.set bk (.cells (uO 0 1 (zP (cW w (az x) (az y)) (az x) (az y)))))):
 aB prog m 60 [.cp (zL fb mb w 0) 0,.cp (.agg [u8 x,u8 y]) 0,.cp (.ref bk 0) 0] σ KF:=by
 have S:=m8 x;have T:=m8 y;refine fs Vl Tryz.func60 rfl (by kernel_rfl) ?_;simp[Tryz.f60]
 repeat' first
  |refine⟨?_,?_⟩
  | (refine cf Tryz.func61 rfl (CF.Ml K L ?_)
     apply pg;simp)
  | (refine cf Tryz.func34 rfl (jV ?_)
     apply pg;simp)
  | (refine rO.intro λd hd=>?_
     simp)
 all_goals
  refine aa.bu 3 (b:=d) (cj (cW w (az x) (az y))) (ab.aj _ _ _) (by simp) rfl ?_;rw[eG hd];apply rn;simp;refine aa.loop (az x).length (λk s=>∃env N,s=⟨env,σ.set bk (.cells (uO 0 1 N)),[],.no⟩/\N.length=18/\N=(List.range k).foldl (λN i=>u' (cW w (az x) (az y)) (az x) (az y) i N) (List.replicate 18 0)/\env 2=.cp (.ref bk 0) 0/\env 3=.cp (cj (cW w (az x) (az y))) 0/\env 4=ints (az x)/\env 5=ints (az y)/\env 21=ints (az x)/\env 22=int (az x).length/\env 23=int k) ⟨_,List.replicate 18 0,by rw[jf hb],rfl,rfl,by simp⟩ ?_;rintro c0 k _ hk ⟨env,N,rfl,U,p,q,r,u,v,OZ,Jv,IJ⟩ V;apply rn;simp[Jv,IJ];apply aI.intro<;>intro B<;>simp at B<;>simp[v,OZ,IJ,B]
  . obtain⟨i,E⟩:∃i,(az x)[k]=i:=⟨_,rfl⟩
    have W:=K i (E ▸ zD B);have F:(az x).getD k 0=i:=by simp[zA,B,E]
    refine aa.loop (az y).length (λj s=>∃env g,s=⟨env,σ.set bk (.cells (uO 0 1 g)),[],.no⟩/\g.length=18/\g=(List.range j).foldl (λN M=>N.set (3*i.toNat+((az y).getD M 0).toNat) (ni (cW w (az x) (az y)) k (((az x).length:Int)+M))) N/\env 2=.cp (.ref bk 0) 0/\env 3=.cp (cj (cW w (az x) (az y))) 0/\env 4=ints (az x)/\env 5=ints (az y)/\env 21=ints (az x)/\env 22=int (az x).length/\env 23=int k/\env 6=int k/\env 7=int i/\env 28=ints (az y)/\env 29=int (az y).length/\env 30=int j) ⟨_,N,rfl,U,rfl,by simp[q,r,u,v,OZ,Jv,IJ,E]⟩ ?_;rintro c1 j _ hj ⟨env,g,rfl,l,e,q,r,u,v,OZ,Jv,IJ,O,P,z,A,n⟩ G;apply rn;simp[A,n];apply aI.intro<;>intro C<;>simp at C<;>simp[r,u,IJ,O,z,n,C]
    . obtain⟨c,o⟩:∃c,(az y)[j]=c:=⟨_,rfl⟩
      have X:=L c (o ▸ zD C);have H:(az y).getD j 0=c:=by simp[zA,C,o]
      have Y:(cW w (az x) (az y)).aA.length=(az x).length+(az y).length:=by simp
      simp only[o];refine⟨by omega,?_⟩;refine cf Tryz.func9 rfl (Gh (f:=cW w (az x) (az y)) Q D.fits D.Dv ⟨by omega,by omega⟩ ⟨by omega,by omega⟩ R (Nat.lt_of_le_of_lt (vu D _) (by decide)) ?_);apply rn;simp[q,P];refine⟨by omega,by omega,?_⟩;refine cf Tryz.func62 rfl (E8 (t:=zO (ni (cW w (az x) (az y)) k (((az x).length:Int)+j))) rfl ?_);have I:3+i.toNat*3+c.toNat<=20:=by omega
      have J:=λa b d=>De (a:=a) (b:=b) (c:=d) (N:=g) (i:=i.toNat) (j:=c.toNat) (by omega) (Mm (cW w (az x) (az y)) k (((az x).length:Int)+j))
      apply pg;simp[l,I,J];apply rn;simp[n];simp only[<-List.map_set];refine⟨by omega,G _ (by omega) ⟨_,g.set (3*i.toNat+c.toNat) (ni (cW w (az x) (az y)) k (((az x).length:Int)+j)),rfl,by rw[ZT];exact l,?_,by simp[q,r,u,v,OZ,Jv,IJ,O,P,z,A]⟩⟩;rw[YT,Zq,<-e];simp only[Zr,List.foldl_nil,H]
    . have Z:j=(az y).length:=by omega
      subst Z;refine⟨by omega,V _ (by omega) ⟨_,g,rfl,l,?_,by simp[q,r,u,v,OZ,Jv]⟩⟩;rw[YT,Zq,<-p];simp only[Zr,List.foldl_nil];unfold u';rw[F];exact e
  . have ek:k=(az x).length:=by omega
    subst ek;refine .done ?_;rw[p];exact h
theorem Pq:BM prog 117 106 102 104 .u8:=.of (by kernel_rfl) (by kernel_rfl) (by kernel_rfl) (by kernel_rfl)
abbrev xP(w:gO)(p:Int × Int):abe:=zP (cW w (az p.1) (az p.2)) (az p.1) (az p.2)
def oz(w:gO)(mb:Nat)(σ:ab):Prop:=∃l,σ mb=some (oT (oU .u8) l)/\∀p a,dc l p=some a->∃bk,a=.ref bk 0/\bk≠mb/\σ bk=some (.cells (uO 1 0 (xP w p)))
def jm(mb:Nat)(σ σ':ab):Prop:=∀c x,σ c=some x->c≠mb->σ' c=some x
theorem jm.refl  mb   σ :jm mb σ σ:=λ_ _ h _=>h
theorem jm.trans{mb a b c}(h:jm mb a b)(e:jm mb b c):jm mb a c:=λd x q n=>e d x (h d x q n) n
structure gO.Bk(w:gO)  x y :Prop where
 hx:∀i∈az x,0<=i/\i<w.fair.aA.length
 hy:∀i∈az y,0<=i/\i<w.aF.length
 pq:(cW w (az x) (az y)).Good
 some:aG (cW w (az x) (az y)) []≠[]
theorem Fe{l}{p q:Int × Int}{a b}(h:dc (l++[(q,b)]) p=some a):dc l p=some a\/p=q/\a=b:=by
 unfold dc at h ⊢;rw[List.find?_append]at h;cases e:l.find? (λr=>p==r.1)with
 |some r=>simp_all
 |none=>grind
theorem Mq(J:m.solo=true){w fb mb x y}(hb:w.Bk x y)(P:w.fair.aA.length<=6/\w.aF.length<=3)(Q:oz w mb σ)
 (h:∀bk σ',oz w mb σ'->jm mb σ σ'->σ' bk=some (.cells (uO 1 0 (xP w (x,y))))->KF (.val (.ref bk 0)) σ'):aB prog m 32 [zL fb mb w 0,.agg [u8 x,u8 y]] σ KF:=by
 obtain⟨l,s,A⟩:=Q;refine aB.start lay [15] Vi 2 Tryz.func32 rfl rfl (by rfl) (by kernel_rfl) ?_
 simp[Tryz.f32]
 have f:∀{o:Oper}{env:Env}{σ:ab}{K R:aaP},o.op=.lookup 117 (.tmp 9) (.tmp 10) false->env 9=.map mb->env 10=oU .u8 (x,y)->σ mb=some (oT (oU .u8) l)->K ((dc l (x,y)).getD (.lit (.pointer none))) σ->aJ prog o env σ K R:=λS T E U F=>vY lay (Pq.key lay Kv rfl) S Tj T E U F
 have t:dc l (x,y)=none\/∃bk,dc l (x,y)=some (.ref bk 0)/\bk≠mb/\σ bk=some (.cells (uO 1 0 (xP w (x,y)))):=by
  cases e:dc l (x,y)with
  |none=>simp_all
  |some a=>simp_all
 rcases t with j|⟨bk,j,V,B⟩
 . refine⟨f rfl (by simp) (by simp[oU]) s ?_,?_⟩
   rotate_left
   refine rO.intro λd hd=>?_
   have u:mb≠d:=λe=>by simp_all
   simp;refine f rfl (by simp) (by simp[oU]) (by simp[ab.ah,u,s]) ?_
   rw[j];refine aN.go lay [15] ?_;simp
   rotate_left
   rw[j];refine aN.go lay [15] ?_;simp;refine rO.intro λd hd=>?_
   have u:mb≠d:=λe=>by simp_all
   simp
   all_goals
    refine aa.run lay [15] ?_;simp;refine nT (vx:=.pointer none) (vy:=.pointer none) (r:=.bool true) rfl (λk v g=>by simpa using zn.1 g) (λk v g=>by simpa using zn.1 g) (by kernel_rfl) ?_
    refine aa.run lay [15] ?_;simp;refine cz.intro λbk C=>?_
    obtain⟨W,X,i⟩:=ab.aP C;have D:mb≠bk:=λe=>by rw[<-e,s]at i;cases i
    simp[X,ab.ah];refine qw (Pq.key lay Kv rfl) rfl (b:=mb) (l:=l) (n:=(x,y)) (a:=.ref bk 0) (by simp) (by simp[oU]) (by simp) (by simp[ab.set,u,D,s]) j ?_
    refine aN.go lay [15] ?_;simp;refine aa.bu 5 (b:=d) (.ref bk 0) (by simp[ab.set,zj u]) (by simp) rfl ?_
    refine aa.jR (λe q=>(e 2=.cp (zL fb mb w 0) 0/\e 3=.cp (.agg [u8 x,u8 y]) 0/\e 5=.cp (.ref bk 0) 0)/\q mb=some (oT (oU .u8) (l++[((x,y),.ref bk 0)]))/\q bk=some (.cells (uO 0 0 (List.replicate 18 0)))/\jm mb σ q) ⟨by simp,by simp[ab.set,ab.del,u],by simp[ab.set,ab.del,W,zj D,List.replicate,sN],λc v g z=>?_⟩ ?_
    . have Y:c≠d:=λe=>by rw[e,hd]at g;cases g
      have G:c≠bk:=λe=>by rw[e,i]at g;cases g
      simp[ab.set,ab.del,Y,G,z,g]
    rintro env q ⟨⟨Z,e3,L⟩,q1,q2,M⟩
    refine aa.run lay [15] ?_;simp[Z,e3,L];refine cf Tryz.func59 rfl (Bm J q2 rfl rfl rfl λK F=>gy Tryz.func60 rfl rfl rfl (Mp J hb.hx hb.hy hb.pq hb.some P (ab.aj _ _ _) (F _ _ (ab.aj _ _ _) rfl rfl rfl ?_)))
    simp only[ab.set_set];refine aa.run lay [15] ?_;simp[L];refine .done (h bk _ ⟨_,(ab.ah _ _ D).trans q1,λp a H=>?_⟩ (λc v g z=>?_) (ab.aj _ _ _))
    . rcases Fe H with H|⟨rfl,rfl⟩
      . obtain⟨N,rfl,O,I⟩:=A _ _ H
        have h3:N≠bk:=λe=>by rw[e,i]at I;cases I
        exact⟨N,rfl,O,(ab.ah _ _ h3).trans (M _ _ I O)⟩
      . exact⟨bk,rfl,zj D,ab.aj _ _ _⟩
    . have G:c≠bk:=λe=>by rw[e,i]at g;cases g
      exact(ab.ah _ _ G).trans (M _ _ g z)
 . refine⟨f rfl (by simp) (by simp[oU]) s ?_,?_⟩
   rotate_left
   refine rO.intro λd hd=>?_
   have u:mb≠d:=λe=>by simp_all
   simp;refine f rfl (by simp) (by simp[oU]) (by simp[ab.ah,u,s]) ?_
   rw[j];refine aN.go lay [15] ?_;simp
   rotate_left
   rw[j];refine aN.go lay [15] ?_;simp;refine rO.intro λd hd=>?_
   simp
   all_goals
    refine aa.bu 5 (b:=d) (.ref bk 0) (ab.aj _ _ _) (by simp) rfl ?_
    rw[eG hd];refine aa.run lay [15] ?_;simp;refine nT (vx:=.pointer (some ⟨bk,0,none⟩)) (vy:=.pointer none) (r:=.bool false) rfl (λk v g=>by simpa using S6.1 g) (λk v g=>by simpa using zn.1 g) (by kernel_rfl) ?_
    refine aa.run lay [15] ?_;simp;refine cf Tryz.func59 rfl (Dc B rfl ?_);refine aa.run lay [15] ?_;simp;exact .done (h bk σ ⟨l,s,A⟩ (.refl mb σ) B)
abbrev kE(w:gO)(h:Int):Int:=aW (bI w h)
abbrev kC(w:gO)(h:Int):Int:=aW (dP w h)
structure gO.Open(w:gO):Prop where
 qo:w.fair.aA.length<=6/\w.aF.length<=3
 bk:∀h,w.Bk (kE w h) (kC w h)
def eP(w:gO)(h i c:Int):Int:=(xP w (kE w h,kC w h)).getD (3*i.toNat+c.toNat) 0
theorem Iz  f   es cs :(zP f es cs).length=18:=by
 have key:∀(l:abf) (N:abe),(l.foldl (λN x=>u' f es cs x N) N).length=N.length:=λl=>by
  induction l with
  |nil=>simp_all
  |cons a l b=>exact λN=>(b _).trans (Mn ..)
 exact key _ _
theorem Df(p:m.solo=true){w fb mb h i c}(b:w.Open)(hi:0<=i/\i<6)(f:0<=c/\c<3)(q:oz w mb σ)(d:∀σ',oz w mb σ'->jm mb σ σ'->KF (.val (xO (eP w h i c))) σ'):aB prog m 18 [zL fb mb w 0,int h,int i,int c] σ KF:=by
 refine fs [] Tryz.func18 rfl (by kernel_rfl) ?_
 simp[Tryz.f18];refine cf Tryz.func33 rfl (CK.zN b.qo.1 b.qo.2 ?_);apply rn;simp;refine cf Tryz.func32 rfl (Mq p (b.bk h) b.qo q λbk σ' g j k=>?_)
 have hlen:=Iz (cW w (az (kE w h)) (az (kC w h))) (az (kE w h)) (az (kC w h));obtain⟨N,l⟩:∃N,N=xP w (kE w h,kC w h):=⟨_,rfl⟩;have r:N.length=18:=by simp_all
 have s:eP w h i c=N.getD (3*i.toNat+c.toNat) 0:=by rw[l];rfl
 rw[<-l]at k
 have a:(AV.lit (.int .u32 1)::.lit (.int .i32 0)::.lit (.int .u32 0)::N.map sN)[3+i.toNat*3+c.toNat]?=some (sN (eP w h i c)):=by
  have e:3+i.toNat*3+c.toNat=3*i.toNat+c.toNat+3:=by omega
  have t:3*i.toNat+c.toNat<N.length:=by omega
  simp_all
 generalize eP w h i c=n at d a;apply rn;simp[k,hi.1,hi.2,f.1,f.2,a]
 by_cases o:n=0
 . subst o
   refine fX lay rfl Tg rfl (.inl ⟨by simp[sN],rfl⟩) (.inr ⟨rfl,rfl⟩) ?_
   apply rn;simp;exact .done (d σ' g j)
 . have e:sN n=xO n:=YA o
   rw[e];refine fX lay rfl Tg rfl (.inr ⟨⟨zO n,.agg [],by simp⟩,rfl⟩) (.inr ⟨rfl,rfl⟩) ?_
   apply rn;simp;exact .done (d σ' g j)
def tV(n:Int):Bool:=n==1||n==3
theorem tX{t f:Nat}(h:eu prog (Go.method (prog.types.size+Made.depth) t (.agg #[])  "palfrey/cry.holds")=some (f,.agg #[])):nC prog t  "palfrey/cry.holds" f (.agg []) (.agg []):=uM λk v b=>by
 cases b with
 | agg c l d e=>
   obtain⟨c⟩:=c
   match c,d with
   |[],_=>exact⟨_,h,.agg _ _ rfl λi v a h=>by simp at h⟩
theorem Dg(h:KF (.val (bool true)) σ):aB prog m 164 [.agg []] σ KF:=by
 refine fs [] Tryz.func164 rfl (by kernel_rfl) ?_;simp[Tryz.f164];exact .done h
theorem Dh(h:KF (.val (bool true)) σ):aB prog m 178 [.agg []] σ KF:=by
 refine fs [] Tryz.func178 rfl (by kernel_rfl) ?_;simp[Tryz.f178];exact .done h
theorem Di(h:KF (.val (bool false)) σ):aB prog m 165 [.agg []] σ KF:=by
 refine fs [] Tryz.func165 rfl (by kernel_rfl) ?_;simp[Tryz.f165];exact .done h
theorem Mr(b:m.solo=true){w fb mb h i c}(d:w.Open)(hi:0<=i/\i<6)(f:0<=c/\c<3)(g:oz w mb σ)(a:∀σ',oz w mb σ'->jm mb σ σ'->KF (.val (bool (tV (eP w h i c)))) σ'):aB prog m 41 [int c,.cp (zL fb mb w 0) 0,.cp (int h) 0,.cp (int i) 0] σ KF:=by
 refine fs [] Tryz.func41 rfl (by kernel_rfl) ?_
 simp[Tryz.f41];refine cf Tryz.func18 rfl (Df b d hi f g λσ' j k=>?_)
 have a:=a σ' j k;generalize eP w h i c=n at a;unfold tV at a
 by_cases l:n=1
 . subst l
   apply rn;simp;refine aa.invoke rfl rfl rfl (by simp) rfl (tX (by kernel_rfl)) Tryz.func164 rfl rfl (Dg ?_)
   apply rn;simp;exact .done a
 by_cases o:n=3
 . subst o
   apply rn;simp;refine aa.invoke rfl rfl rfl (by simp) rfl (tX (by kernel_rfl)) Tryz.func178 rfl rfl (Dh ?_)
   apply rn;simp;exact .done a
 have e:xO n=.kz 108 (.agg []):=by unfold xO zO;simp_all
 rw[e];apply rn;simp;refine aa.invoke rfl rfl rfl (by simp) rfl (tX (by kernel_rfl)) Tryz.func165 rfl rfl (Di ?_)
 apply rn;simp;rw[show(n==1)=false by simp_all,show(n==3)=false by simp_all]at a
 exact .done a
theorem Ms{σ0 σ σ2 a kk es}(h:Tok σ0 σ a kk es)(d:∀b e,σ b=some (.tail e)->σ2 b=some (.tail e)):Tok (σ2.off a) σ2 a kk es:=by
 rcases h.2 with⟨rfl,rfl⟩|rfl|⟨b,e,_,rfl,f⟩
 . exact⟨ab.le_refl _,.inl ⟨rfl,rfl⟩⟩
 . exact⟨ab.le_refl _,.inr (.inl rfl)⟩
 . refine⟨λc x g=>?_,.inr (.inr ⟨b,e,by simp[ab.off,bH,ab.del],rfl,d b e f⟩)⟩
   simp only[ab.off,bH,ab.del]at g
   simp_all
structure TU(I:abh)  mb :Prop where
 le:∀{σ σ'},I σ->(∀c x,σ c=some x->(∀e,x≠.tail e)->σ' c=some x)->I σ'
 mb:∀{σ},I σ->∀e,σ mb≠some (.tail e)
theorem Mt{σ0 σ a kk es}(h:Tok σ0 σ a kk es){c x}(b:σ c=some x)(d:∀e,x≠.tail e):(σ.off a) c=some x:=by
 rw[ab.fK λe=>?_]
 . exact b
 . obtain⟨_,n,q⟩:=h.bb e
   grind
theorem TV{I mb}(z:TU I mb){f l p}(T:l.length<=1000)(A:f.flat=true)
 (P:∀x∈l,∀  σ   K ,I σ->(∀σ',I σ'->jm mb σ σ'->K (.val (bool (p x))) σ')->cX prog m f [int x] σ K)
 (Q:I σ) (h:∀σ',I σ'->jm mb σ σ'->KF (.val (ints (l.filter p))) σ'):aB prog m 40 [.agg [f],ints l] σ KF:=by
 refine fs [] Tryz.func40 rfl (by kernel_rfl) ?_
 simp[Tryz.f40];refine⟨A,?_⟩;refine aa.loop l.length (λk s=>∃env σ' a,s=⟨env,σ',[],.no⟩/\env 2=.cp (.agg [f]) 0/\env 8=ints l/\env 9=int l.length/\env 10=int k/\env 5=a/\I σ'/\Tok (σ'.off a) σ' a 1 (((l.take k).filter p).map int)/\jm mb σ (σ'.off a)) ?_ ?_
 . refine⟨_,σ,AV.nil,rfl,?_,?_,?_,?_,?_,Q,Tok.nil σ 1,jm.refl mb σ⟩<;>simp
 rintro U k _ V ⟨env,σ',a,rfl,B,C,D,bc,v,E,d,hb⟩ L
 apply rn;simp[D,bc];apply aI.intro<;>intro w<;>simp at w<;>simp[B,C,bc,v,w]
 . have F:(l.take (k+1)).filter p=(l.take k).filter p++if p l[k]then[l[k]]else[]:=by
    rw[Yz w,ZF]
    grind
   have R:((l.take k).filter p).length<=k:=YO (Zf _ _) (by grind)
   refine P _ (zD w) _ _ E λσ2 M j=>?_
   have o:=Ms d (σ2:=σ2) (λb e r=>j b _ r λq=>z.mb E e (q ▸ r))
   have g:jm mb σ (σ2.off a):=λc x i y=>by
    have N:=hb c x i y;have G:bH a≠some c:=λe=>by obtain⟨n,_⟩:=d.bb e;grind
    rw[ab.fK G]at N ⊢;exact j c x N y
   apply rn;simp;cases O:p l[k]
   . rw[O,YA (by simp),Zo]at F
     simp[bc];refine⟨by omega,L _ (by omega) ⟨_,σ2,a,rfl,?_,?_,?_,?_,?_,M,by grind,g⟩⟩<;>simp[B,C,D,v]
   . rw[O,YG rfl]at F
     simp[v];refine aQ lay rfl rfl rfl eC rfl eC rfl uI (by decide) (by grind) (σ0:=σ2.off a) (es:=((l.take k).filter p).map int) (xs:=[int l[k]]) (by simpa[v]using o) (.inr ⟨_,by simp;rfl⟩) λS H t=>?_
     apply rn;simp[bc];have u:=t.here;refine⟨by omega,L _ (by omega) ⟨_,H,S,rfl,?_,?_,?_,?_,?_,z.le M λc x i J=>t.1 _ _ (Mt o i J),by rw[F,YS];exact u.1,λc x i y=>u.2 _ _ (g c x i y)⟩⟩<;>simp[B,C,D]
 . have ek:k=l.length:=by omega
   subst ek;rw[YZ]at d;refine .qk d.W (.less d.1 (.done (h _ (z.le E λc x i J=>Mt d i J) hb)))
theorem Ff(w:gO)(mb:Nat):TU (oz w mb) mb where
 le h hk:=by
  obtain⟨l,b,c⟩:=h;refine⟨l,hk _ _ b (by simp[oT]),λp a d=>?_⟩;obtain⟨bk,f,g,i⟩:=c p a d;exact⟨bk,f,g,hk _ _ i (by simp)⟩
 mb h e q:=by obtain⟨l,b,_⟩:=h;rw[b]at q;simp[oT]at q
theorem Bn{n:Nat}{x:Int}(h:x∈rp n):0<=x/\x<n:=by obtain⟨k,a,rfl⟩:=YN.1 h;have:=YB.1 a;omega
theorem vv(n:Nat):(rp n).length=n:=by unfold rp;rw[YV,ZI]
def yz(w:gO)(h i:Int):abe:=(rp w.aF.length).filter λc=>tV (eP w h i c)
theorem On(c:m.solo=true){w:gO}{fb mb:Nat}{h i:Int}(b:w.Open)(hi:0<=i/\i<6)(d:oz w mb σ)(a:∀σ',oz w mb σ'->jm mb σ σ'->KF (.val (ints (yz w h i))) σ'):aB prog m 22 [zL fb mb w 0,int h,int i] σ KF:=by
 have k:=b.qo.2;refine fs [] Tryz.func22 rfl (by kernel_rfl) ?_;simp[Tryz.f22];refine cf Tryz.func42 rfl (Iv (by omega) ?_);apply rn;simp;refine cf Tryz.func40 rfl (TV (Ff w mb) (by rw[vv];omega) rfl (λx e σ K f a=>gy Tryz.func41 rfl rfl rfl (Mr c b hi (by have:=Bn e;omega) f a)) d λσ' g j=>?_);apply rn;simp;exact .done (a σ' g j)
theorem Iw.Pr{σ σ':ab}{fb mb:Nat}{w:gO}(h:Iw σ fb mb w σ'):oz w mb σ':=⟨[],by rw[h.eq,ab.ah _ _ (zj h.ne),ab.aj],λp a b=>by simp[dc]at b⟩
theorem Iw.less{σ σ' σ2:ab}{fb mb:Nat}{w:gO}(h:Iw σ fb mb w σ')(hb:jm mb σ' σ2):σ.Le σ2:=λc x a=>by
 have d:c≠fb:=λe=>by rw[e,h.f0]at a;cases a
 have b:c≠mb:=λe=>by rw[e,h.m0]at a;cases a
 exact hb c x (by rw[h.eq,ab.ah _ _ d,ab.ah _ _ b];exact a) b
abbrev Mw:AV:=.lit (.slice none 0 0)
theorem Vu{a b c d a' b' c' d':AV}(e:a.W a')(f:b.W b')(g:c.W c')(h:d.W d'):Wl [a,b,c,d] [a',b',c',d']:=.cons e (.cons f (.cons g (.cons h .nil)))
theorem IA(f:m.solo=true){w:gO}(g:w.xJ)(e:w.fair.aA.length<=6/\w.aF.length<=3){h:Int}(i:nf w [h] [] []=0)(j:KF (.val (.cH [ints (az (kE w h)),ints (az (kC w h)),int 0])) σ):aB prog m 19 [ia w,int h] σ KF:=by
 have k:Wl [ia w,.sl 1 [int h] .exact,Mw,Mw] [ia w,ints [h],ints [],ints []]:=Vu (.refl _) (jH 1 _ _) (lR 1) (lR 1);refine fs Ve Tryz.func19 rfl (by kernel_rfl) ?_;simp[Tryz.f19];refine dQ Tryz.func17 rfl rfl k (xL f g ⟨by simp,by simp,by simp⟩ (λq=>absurd i q) λq a fb mb l=>?_);have c:=l.less (.refl mb a);apply rn;simp;refine cf Tryz.func33 rfl (CK.zN e.1 e.2 ?_);refine aa.runN lay [] 1 ?_;simp;refine cz.intro λd hd=>?_
 simp;change aa _ _ _ _ _ _ _ _ _;refine aa.runN lay [] 1 ?_;simp;change aa _ _ _ _ _ _ _ _ _;refine aa.bu 9 (b:=d) (Mk w h) (ab.aj _ _ _) (by simp) rfl ?_;rw[eG hd];apply rn;simp;refine cf Tryz.func34 rfl (jV ?_);apply pg;simp;refine cf Tryz.func34 rfl (jV ?_);apply pg;simp;apply rn;simp;exact .less c (.done j)
theorem Oo(a:m.solo=true){w:gO}(c:w.xJ)(d:w.Open){h i:Int}(hi:0<=i/\i<6)(e:nf w [h] [i] []=0)(f:KF (.val (.cH [ints (yz w h i),int 0])) σ):aB prog m 10 [ia w,int h,int i] σ KF:=by
 have g:Wl [ia w,.sl 1 [int h] .exact,.sl 1 [int i] .exact,Mw] [ia w,ints [h],ints [i],ints []]:=Vu (.refl _) (jH 1 _ _) (jH 1 _ _) (lR 1);refine fs [] Tryz.func10 rfl (by kernel_rfl) ?_;simp[Tryz.f10];refine dQ Tryz.func17 rfl rfl g (xL a c ⟨by simp,by simp,by simp⟩ (λq=>absurd e q) λq j fb mb b=>?_);apply rn;simp;refine cf Tryz.func22 rfl (On a d hi b.Pr λk n l=>?_);apply rn;simp;exact .less (b.less l) (.done f)
def foundAt(w:gO)(c:Int)(h i:Nat):Prop:=eP w h i c=1/\∀a b:Nat,(a<h\/a=h/\b<i)->b<w.fair.aA.length->eP w a b c≠1
theorem zQ(F:m.solo=true){w:gO}(H:w.xJ)(G:w.Open){c:Int}(I:0<=c/\c<3)(J:nf w [] [] [c]=0)(K:∀h i:Nat,h<73->i<w.fair.aA.length->foundAt w c h i->KF (.val (.cH [int h,int i,int 0])) σ)
 (L:(∀o f:Nat,o<73->f<w.fair.aA.length->eP w o f c≠1)->KF (.val (.cH [int 0,int 0,int 11])) σ):aB prog m 6 [ia w,int c] σ KF:=by
 have M:Wl [ia w,Mw,Mw,.sl 1 [int c] .exact] [ia w,ints [],ints [],ints [c]]:=Vu (.refl _) (lR 1) (lR 1) (jH 1 _ _);have T:=G.qo.1;refine fs [] Tryz.func6 rfl (by kernel_rfl) ?_;simp[Tryz.f6];refine dQ Tryz.func17 rfl rfl M (xL F H ⟨by simp,by simp,by simp⟩ (λq=>absurd J q) λq u fb mb A=>?_);apply rn;simp;refine aa.loop 73 (λk s=>∃env d,s=⟨env,d,[],.no⟩/\(env 1=int c/\env 2=.cp (ia w) 0/\env 9=.fn (.func 18) [zL fb mb w 0] []/\env 24=int k)/\oz w mb d/\jm mb u d/\∀o f:Nat,o<k->f<w.fair.aA.length->eP w o f c≠1) ⟨_,_,rfl,by simp,A.Pr,.refl mb u,λo f q=>absurd q (Nat.not_lt_zero _)⟩ ?_;rintro U k _ N ⟨env,d,rfl,⟨g,l,n,vf⟩,x,p,v⟩ O;apply rn;simp[g,l,n,vf];refine aI.intro (λB=>?_) (λB=>?_)<;>(try simp[-Int.not_lt,-Int.not_le,-Nat.not_lt,-Nat.not_le]at B)<;>(try simp[g,l,n,vf,B])
 . refine aa.loop w.fair.aA.length (λj s=>∃env d,s=⟨env,d,[],.no⟩/\(env 1=int c/\env 2=.cp (ia w) 0/\env 9=.fn (.func 18) [zL fb mb w 0] []/\env 24=int k/\env 10=int k/\env 30=int w.fair.aA.length/\env 31=int j)/\oz w mb d/\jm mb u d/\∀f:Nat,f<j->eP w k f c≠1) ⟨_,_,rfl,by simp[g,l,n,vf],x,p,λf q=>absurd q (Nat.not_lt_zero _)⟩ ?_
   rintro V j _ W ⟨env,d,rfl,⟨g,l,n,vf,bc,a,b⟩,x,p,r⟩ C;apply rn;simp[g,l,n,vf,bc,a,b];refine aI.intro (λD=>?_) (λD=>?_)<;>(try simp[-Int.not_lt,-Int.not_le,-Nat.not_lt,-Nat.not_le]at D)<;>(try simp[g,l,n,vf,bc,a,b,D])
   . refine gy Tryz.func18 rfl rfl rfl (Df F G (by omega) I x λE P Q=>?_)
     have t:=p.trans Q;by_cases y:eP w k j c=1
     . rw[show xO (eP w k j c)=.kz 71 (.agg [])by rw[y];rfl]
       apply rn;simp[g,l,n,vf,bc,a,b];refine .less (A.less t) (.done (K k j (by omega) (by omega) ⟨y,λo f q z=>?_⟩));rcases q with q|⟨rfl,q⟩
       . exact v o f q z
       . exact r f q
     . have R:zO (eP w k j c)≠71:=by unfold zO;rw[YA y];split<;>decide
       apply rn;simp[g,l,n,vf,bc,a,b,R];refine⟨by omega,C _ (by omega) ⟨_,E,rfl,⟨by simp[g,l,n,vf,bc,a,b],by simp[g,l,n,vf,bc,a,b],by simp[g,l,n,vf,bc,a,b],by simp[g,l,n,vf,bc,a,b],by simp[g,l,n,vf,bc,a,b],by simp[g,l,n,vf,bc,a,b],by simp⟩,P,t,λf q=>?_⟩⟩;by_cases e:f=j
       . subst e;exact y
       . exact r f (by omega)
   . have S:j=w.fair.aA.length:=by omega
     subst S;refine⟨by omega,O _ (by omega) ⟨_,d,rfl,⟨by simp[g,l,n,vf,bc,a,b],by simp[g,l,n,vf,bc,a,b],by simp[g,l,n,vf,bc,a,b],by simp⟩,x,p,λo f q z=>?_⟩⟩;by_cases e:o=k
     . subst e;exact r f z
     . exact v o f (by omega) z
 . have ek:k=73:=by omega
   subst ek;exact .less (A.less p) (.done (L v))
end
section
open Go.cr Go.Conc
theorem xQ  p :∀n ,n<=6->(0<=aW ((rp n).filter p)/\aW ((rp n).filter p)<64)/\az (aW ((rp n).filter p))=(rp n).filter p
 | 0,_=>by
   show(0<=aW []/\aW []<64)/\az (aW [])=[];decide
 | n + 1,h=>by
   obtain⟨a,b⟩:=xQ p n (by omega);rw[xN];split
   . rw[mK]
     exact⟨(EY a (by omega)).1,by rw[zF a (by omega) λe c=>by grind,b]⟩
   simp_all
section
variable{w:gO}
abbrev Dj(w:gO)(es cs:abe):abe:=es++cs.map λ(c:Int)=>c+(w.fair.aA.length:Int)
theorem Mx{i:Int}(h:0<=i/\i<w.fair.aA.length):aK (iN w) i=aK w.fair i:=by
 have:i.toNat<w.fair.aA.length:=by omega
 unfold aK iN
 grind
theorem My{c:Int}(h:0<=c/\c<w.aF.length):aK (iN w) (c+w.fair.aA.length)=(pJ w c).lost:=by
 have a:c.toNat<w.aF.length:=by omega
 have e:(c+w.fair.aA.length).toNat=w.fair.aA.length+c.toNat:=by omega
 unfold aK iN pJ
 simp_all
theorem TW:(iN w).aA.length=w.fair.aA.length+w.aF.length:=by simp_all
theorem Dk{es cs:abe}(b:∀i∈es,0<=i/\i<w.fair.aA.length)(d:∀i∈cs,0<=i/\i<w.aF.length):od (iN w) (cW w es cs) (Dj w es cs):=
 ⟨rfl,rfl,rfl,rfl,aas _,λi a=>by
   grind,by
   show _=(es++cs.map λ(c:Int)=>c+(w.fair.aA.length:Int)).map (aK (iN w));rw[YS,aab];show es.map (aK w.fair)++_=_;rw[ZS (g:=aK (iN w)) λi a=>(Mx (b i a)).symm];congr 1
   . exact ZS λi a=>(My (d i a)).symm⟩
theorem IB(b:w.Valid){es cs:abe}(f:∀i∈es,0<=i/\i<w.fair.aA.length)(g:∀i∈cs,0<=i/\i<w.aF.length)(j:es.length+cs.length<=6):(cW w es cs).Good:=by
 have a:=lK b.Mi b.qo;have c:=Dk f g
 have d:∀e∈(cW w es cs).aA,e∈(iN w).aA:=λe q=>by rw[c.sF]at q;obtain⟨i,h,rfl⟩:=YN.1 q;exact gk (c.Qq i h)
 have hlen:(cW w es cs).aA.length=es.length+cs.length:=by grind
 exact⟨⟨by omega,a.fits.roads,a.fits.row,λe q=>a.fits.marks e (d e q)⟩,a.fr,a.to,a.le,a.cK,a.aV,by omega,λe q=>a.sF e (d e q),a.IK⟩
theorem gN{h i}(hi:i∈bI w h):0<=i/\i<w.fair.aA.length:=Bn (Zj.1 hi).1
theorem kV{h i}(hi:i∈dP w h):0<=i/\i<w.aF.length:=Bn (Zj.1 hi).1
theorem rl  w   h :(bI w h).length<=w.fair.aA.length:=by
 have:=Zf (pE w h) (rp w.fair.aA.length)
 rwa [vv]at this
theorem xR  w   h :(dP w h).length<=w.aF.length:=by
 have:=Zf (pC w h) (rp w.aF.length)
 rwa [vv]at this
theorem gO.Valid.kE(a:w.Valid)(h:Int):az (kE w h)=bI w h:=(xQ _ _ (by have:=a.qo;omega)).2
theorem gO.Valid.kC(a:w.Valid)(h:Int):az (kC w h)=dP w h:=(xQ _ _ (by have:=a.qo;omega)).2
abbrev iy(w:gO)(h:Int):Fr:=cW w (bI w h) (dP w h)
abbrev gQ(w:gO)(h:Int):abe:=Dj w (bI w h) (dP w h)
theorem qh  w   h :od (iN w) (iy w h) (gQ w h):=Dk (λ_=>gN) λ_=>kV
theorem og(a:w.Valid)  h :(iy w h).Good:=IB a (λ_=>gN) (λ_=>kV) (by have:=rl w h;have:=xR w h;have:=a.qo;omega)
theorem gO.Valid.open(a:w.Valid):w.Open:=by
 have c:=a.qo;refine⟨⟨by omega,a.Fa.1⟩,λh=>?_⟩;have hb:=og a h;obtain⟨v,b⟩:=ZQ _ a.some;obtain⟨u,d,_⟩:=(qh w h).cT (lK a.Mi c) hb b;refine⟨?_,?_,?_,?_⟩<;>simp only[a.kE,a.kC]
 . exact λ_=>gN
 . exact λ_=>kV
 . exact hb
 grind
end
def GS(L:abe)(g g':Int)(v:abe):Bool:=fE (L.idxOf g:Int) (L.idxOf g':Int) v
theorem Dl{L:abe}{g}(h:g∈L):L.getD (L.idxOf g) 0=g:=by grind
theorem od.sub{f x y L M}(h:od f x L)(a:od f y M)(d:∀i∈M,i∈L)(b:x.aV<=y.aV):od x y (M.map λi=>(L.idxOf i:Int)):=by
 have c:∀i∈M,(L.idxOf i:Int)<L.length:=λi q=>by grind
 refine⟨by rw[a.roads,h.roads],by rw[a.fr,h.fr],by rw[a.to,h.to],by rw[a.cK,h.cK],b,λj q=>?_,?_⟩
 . obtain⟨i,e,rfl⟩:=YN.1 q
   rw[h.len];simp_all
 . rw[a.sF,aab]
   refine ZS λi q=>?_
   have:=h.at (j:=(L.idxOf i:Int)) ⟨by omega,c i q⟩
   simp_all
theorem Oq{f x y L M}(h:od f x L)(b:od f y M)(c:∀i∈M,i∈L)(d:x.aV<=y.aV)(j:x.Good)(k:y.Good){v}(l:v∈aG x []):∃u∈aG y [],∀g∈M,∀g'∈M,GS M g g' u=GS L g g' v:=by
 obtain⟨u,m,e⟩:=(h.sub b c d).cT j k l;have a:∀g∈M,M.idxOf g<M.length/\(M.map λi=>(L.idxOf i:Int)).getD (M.idxOf g) 0=(L.idxOf g:Int):=λg q=>by grind
 refine⟨u,m,λg q g' n=>?_⟩;have o:=a g q;have p:=a g' n;have:=e (M.idxOf g) (M.idxOf g') (by simp_all) (by simp_all);unfold GS
 simp_all
theorem Gp  f  (es cs:abe)  x  (N:abe) (a:cs.Nodup) (b:∀c∈cs,0<=c/\c<3) (g:3*(es.getD x 0).toNat+2<N.length)  q :∀n ,n<=cs.length ->
 ((List.range n).foldl (λN y=>N.set (3*(es.getD x 0).toNat+(cs.getD y 0).toNat) (ni f x ((es.length:Int)+y))) N).length=N.length/\
 (∀y<n,((List.range n).foldl (λN y=>N.set (3*(es.getD x 0).toNat+(cs.getD y 0).toNat) (ni f x ((es.length:Int)+y))) N).getD (3*(es.getD x 0).toNat+(cs.getD y 0).toNat) 0=ni f x ((es.length:Int)+y))/\
 ((∀y<n,q≠3*(es.getD x 0).toNat+(cs.getD y 0).toNat)->((List.range n).foldl (λN y=>N.set (3*(es.getD x 0).toNat+(cs.getD y 0).toNat) (ni f x ((es.length:Int)+y))) N).getD q 0=N.getD q 0)
 |0,_=>⟨rfl,λy d=>by omega,λ_=>rfl⟩
 | n + 1,o=>by
   obtain⟨p,r,j⟩:=Gp f es cs x N a b g q n (by omega);rw[YT,Zq,Zr,List.foldl_nil];generalize (List.range n).foldl _ N=R at *;have s:=b _ (gn (l:=cs) (i:=n) (by omega));refine⟨by simp_all,λy d=>?_,λh=>?_⟩
   . by_cases e:y=n
     . subst e
       rw[zA,Zx (by omega)];rfl
     . have k:(cs.getD y 0).toNat≠(cs.getD n 0).toNat:=λq=>by
        have m:=b _ (gn (l:=cs) (i:=y) (by omega));have:cs.getD y 0=cs.getD n 0:=by omega
        rw[zA,zA,zR (show y<cs.length by omega),zR (show n<cs.length by omega)]at this;exact e (xz a this)
       grind
   . rw[zA,Zv (λe=>h n (by omega) e.symm),<-List.getD_eq_getElem?_getD]
     exact j λy d=>h y (by omega)
theorem Dm  f   es cs  (a:es.Nodup) (g:∀i∈es,0<=i/\i<6) (b:cs.Nodup) (d:∀c∈cs,0<=c/\c<3)  q :∀n ,n<=es.length ->
 ((List.range n).foldl (λN x=>u' f es cs x N) (List.replicate 18 0)).length=18/\
 (∀x<n,∀y<cs.length,((List.range n).foldl (λN x=>u' f es cs x N) (List.replicate 18 0)).getD (3*(es.getD x 0).toNat+(cs.getD y 0).toNat) 0=ni f x ((es.length:Int)+y))/\
 ((∀x<n,∀y<cs.length,q≠3*(es.getD x 0).toNat+(cs.getD y 0).toNat)->((List.range n).foldl (λN x=>u' f es cs x N) (List.replicate 18 0)).getD q 0=0)
 |0,_=>⟨by simp,λy j=>by omega,λ_=>by grind⟩
 | n + 1,w=>by
   obtain⟨o,p,r⟩:=Dm f es cs a g b d q n (by omega);rw[YT,Zq,Zr,List.foldl_nil];obtain⟨R,k⟩:∃R,R=(List.range n).foldl (λN x=>u' f es cs x N) (List.replicate 18 0):=⟨_,rfl⟩;rw[<-k]at o p r ⊢;have z:=g _ (gn (l:=es) (i:=n) (by omega));have s:3*(es.getD n 0).toNat+2<R.length:=by omega
   have key:=λq=>Gp f es cs n R b d s q cs.length (YF _)
   refine⟨by unfold u';exact(key 0).1.trans o,λx A y j=>?_,λh=>?_⟩
   . by_cases e:x=n
     . subst e;exact(key 0).2.1 y j
     . have t:=g _ (gn (l:=es) (i:=x) (by omega))
       have u:(es.getD x 0).toNat≠(es.getD n 0).toNat:=λq=>by
        have:es.getD x 0=es.getD n 0:=by omega
        rw[zA,zA,zR (show x<es.length by omega),zR (show n<es.length by omega)]at this;exact e (xz a this)
       have v:=d _ (gn j);unfold u';rw[(key _).2.2 λB m=>by have:=d _ (gn m);omega]
       grind
   . unfold u'
     grind
section
variable{w:gO}
theorem zS  n :(rp n).Nodup:=by unfold rp;rw[List.Nodup,List.pairwise_map];exact(List.nodup_range (n:=n)).imp λh e=>h (by omega)
theorem sO  w   h :(bI w h).Nodup:=(zS _).filter _
theorem Bo  w   h :(dP w h).Nodup:=(zS _).filter _
theorem tY{es cs i}(hi:i∈es):(Dj w es cs).idxOf i=es.idxOf i:=by grind
theorem Ot{cs:abe}{n c}:(cs.map fun  c=>c+n).idxOf (c+n)=cs.idxOf c:=by
 induction cs with
 |nil=>rfl
 |cons a l b=>grind
theorem IC{es cs:abe}{c:Int}(a:∀i∈es,i<w.fair.aA.length)(b:0<=c):(Dj w es cs).idxOf (c+w.fair.aA.length)=es.length+cs.idxOf c:=by unfold Dj;rw[List.idxOf_append,YA λq=>by grind,Ot,Nat.add_comm]
abbrev Mz(w:gO)(h i c:Int):Int:=tQ (aG (iy w h) []) ((gQ w h).idxOf i) ((gQ w h).idxOf (c+w.fair.aA.length))
theorem Gq(a:w.Valid){h i c}(hi:0<=i/\i<6)(b:0<=c/\c<3):eP w h i c=if i∈bI w h/\c∈dP w h then Mz w h i c else 0:=by
 have m:=a.qo;have n:=a.Fa.1;obtain⟨_,d,f⟩:=Dm (iy w h) (bI w h) (dP w h) (sO w h) (λi q=>by have:=gN q;omega) (Bo w h) (λi q=>by have:=kV q;omega) (3*i.toNat+c.toNat) _ (YF _)
 have e:eP w h i c=(zP (iy w h) (bI w h) (dP w h)).getD (3*i.toNat+c.toNat) 0:=by show(zP (cW w (az (kE w h)) (az (kC w h))) (az (kE w h)) (az (kC w h))).getD (3*i.toNat+c.toNat) 0=_;rw[a.kE,a.kC]
 rw[e];unfold zP;split
 . next q=>
   obtain⟨g,o⟩:=sL q.1;obtain⟨j,p⟩:=sL q.2;have:=d _ g _ j;rw[Dl q.1,Dl q.2]at this;rw[this];unfold Mz tQ ni;rw[tY q.1,IC (λi q=>(gN q).2) b.1]
   simp_all
 . next q=>
   refine f λx k y l e=>q ?_
   have r:=gN (gn k);have s:=kV (gn l);have t:(bI w h).getD x 0=i:=by omega
   have u:(dP w h).getD y 0=c:=by omega
   grind
theorem tZ(a:w.Valid)  h :0<(aG (iy w h) []).length:=by
 have:=(a.open.bk h).some;simp only[a.kE,a.kC]at this
 grind
theorem Ou(a:w.Valid){h i c}(hi:0<=i/\i<6)(d:0<=c/\c<3):tV (eP w h i c)=true↔(i∈bI w h/\c∈dP w h)/\∃v∈aG (iy w h) [],GS (gQ w h) i (c+w.fair.aA.length) v=true:=by
 have b:=tZ a h;rw[Gq a hi d];split
 . next q=>
   have f:=xA b (x:=(gQ w h).idxOf i) (y:=(gQ w h).idxOf (c+w.fair.aA.length))
   have g:tV (Mz w h i c)=true↔Mz w h i c≠2:=by rcases It (aG (iy w h) []) ((gQ w h).idxOf i) ((gQ w h).idxOf (c+w.fair.aA.length)) b with e|e|e<;>simp[Mz,e,tV]
   rw[g,Ne,f];unfold GS
   simp_all
 . next q=>exact⟨λz=>(by cases z),λz=>absurd z.1 q⟩
theorem xS(a:w.Valid){h i c}(hi:0<=i/\i<6)(d:0<=c/\c<3):eP w h i c=1↔(i∈bI w h/\c∈dP w h)/\∀v∈aG (iy w h) [],GS (gQ w h) i (c+w.fair.aA.length) v=true:=by
 have b:=tZ a h;rw[Gq a hi d];split
 . next q=>exact⟨λz=>⟨q,(tR b).1 z⟩,λz=>(tR b).2 z.2⟩
 simp_all
end
end
section
open Go Go.cr Go.Conc
variable{m:Mo}{σ:ab}{KF:aaQ}
theorem Ov{P Q:Prop}(f:P->Q)(p:P):Q:=f p
end
section
open Go.cr Go.Conc
section
variable{w:gO}
theorem Vv{n:Nat}{i:Int}(h:0<=i/\i<n):i∈rp n:=YN.2 ⟨i.toNat,YB.2 (by omega),by omega⟩
theorem xT  v :∀  l   i ,v∈l->hQ i l v=i+l.idxOf v
 |[],_,h=>by cases h
 | a ::l,i,h=>by
   rw[hQ,List.idxOf_cons];by_cases e:a=v
   . simp[e]
   . have:(a==v)=false:=by grind
     rw[YA e,this,xT v l (i+1) ((YQ.1 h).resolve_left λq=>e q.symm)];simp;omega
theorem Ow(a:w.Valid){h i c}(hi:0<=i/\i<6)(b:c<w.aF.length):(c:Int)∈yz w h i↔(i∈bI w h/\(c:Int)∈dP w h)/\∃v∈aG (iy w h) [],GS (gQ w h) i ((c:Int)+w.fair.aA.length) v=true:=by
 have:=a.Fa.1;unfold yz;rw[Zj,Ou a hi ⟨by omega,by omega⟩]
 grind
theorem xU{h b}(d:h<=b):(∀i∈bI w h,i∈bI w b)/\∀i∈dP w h,i∈dP w b:=by
 refine⟨λi q=>?_,λi q=>?_⟩
 . obtain⟨c,a⟩:=Zj.1 q
   have a:=ZO a;exact Zj.2 ⟨c,decide_eq_true (by omega)⟩
 . obtain⟨c,a⟩:=Zj.1 q
   unfold pC at a;rw[za,KD,KD]at a;refine Zj.2 ⟨c,?_⟩;unfold pC
   grind
theorem Fg{h a}(b:h<=a):∀g∈gQ w h,g∈gQ w a:=λg q=>by
 obtain⟨c,d⟩:=xU (w:=w) b
 grind
theorem MA(b:w.Valid){h a}(c:h<=a){v}(d:v∈aG (iy w a) []):∃u∈aG (iy w h) [],∀g∈gQ w h,∀g'∈gQ w h,GS (gQ w h) g g' u=GS (gQ w a) g g' v:=Oq (qh w a) (qh w h) (Fg c) (aas _) (og b a) (og b h) d
theorem Ox{h i c}(q:i∈bI w h/\c∈dP w h):i∈gQ w h/\c+w.fair.aA.length∈gQ w h:=⟨List.mem_append_left _ q.1,List.mem_append_right _ (YN.2 ⟨c,q.2,rfl⟩)⟩
theorem ID(b:w.Valid){h d i c}(f:h<=d)(hi:0<=i/\i<6)(g:0<=c/\c<3)(a:eP w h i c=1):eP w d i c=1:=by
 rw[xS b hi g]at a ⊢;obtain⟨j,k⟩:=xU (w:=w) f;obtain⟨m,n⟩:=Ox a.1;refine⟨⟨j _ a.1.1,k _ a.1.2⟩,λv l=>?_⟩;obtain⟨u,o,e⟩:=MA b f l
 grind
end
section
variable{w:gO}
theorem Dp(a:w.Valid){c d b:Nat}(g:c<w.aF.length)(hi:b<w.fair.aA.length)(e:foundAt w c d b){h:Int}(f:(d:Int)<=h):eP w h b c=1:=by have i:=a.qo;have j:=a.Fa.1;exact ID a f ⟨by omega,by omega⟩ ⟨by omega,by omega⟩ e.1
end
section
variable{w:gO}
theorem MB(e:w.Valid){t b x:Int}{c:Nat}(i:c<w.aF.length)(f:x∈bI w t)(j:eP w t b c=1)(k:0<=b/\b<6):(tQ (aG (iy w t) []) ((bI w t).idxOf b) ((bI w t).idxOf x)=1->(c:Int)∈yz w t x)/\(tQ (aG (iy w t) []) ((bI w t).idxOf b) ((bI w t).idxOf x)=2->(c:Int)∉yz w t x):=by
 have r:=e.qo;have s:=e.Fa.1;have u:=gN f;have g:=tZ e t;obtain⟨⟨l,m⟩,d⟩:=(xS e k ⟨by omega,by omega⟩).1 j
 have n:(gQ w t).idxOf b=(bI w t).idxOf b:=tY l;have o:(gQ w t).idxOf x=(bI w t).idxOf x:=tY f;rw[Ow e ⟨by omega,by omega⟩ i,tR g,xA g]
 have key:∀v,GS (gQ w t) b ((c:Int)+w.fair.aA.length) v=true->(fE ((bI w t).idxOf b:Int) ((bI w t).idxOf x) v=true↔GS (gQ w t) x ((c:Int)+w.fair.aA.length) v=true):=λv q=>by unfold GS fE at q ⊢;rw[n,KD]at q;rw[o,KD,KD];rw[<-q];exact⟨λz=>z.symm,λz=>z.symm⟩
 refine⟨λq=>⟨⟨f,m⟩,?_⟩,λq z=>?_⟩
 . obtain⟨v,a⟩:=List.exists_mem_of_length_pos g
   exact⟨v,a,(key v (d v a)).1 (q v a)⟩
 . obtain⟨_,v,a,p⟩:=z
   have h:=q v a;rw[(key v (d v a)).2 p]at h;cases h
end
end
section
open Go Go.cr Go.Conc
def Gr(f:Fr):Bool:=decide (f.aA.length<100) && decide (f.roads.length<100) && f.roads.all (λr=>decide (r.length<100)) && f.aA.all (λe=>decide (e.marks.length<100))
theorem sP{f}(h:Gr f=true):f.Fits:=by simp only[Gr,za,KD,YE]at h;obtain⟨⟨⟨a,b⟩,c⟩,d⟩:=h;exact⟨by omega,by omega,λr g=>by grind,λe i=>by grind⟩
def Dq(f:Fr):Bool:=Gr f && decide (check f=0)
theorem MC{f}(h:Dq f=true):f.Good:=by simp only[Dq,za,KD]at h;exact Fr.pq (sP h.1) h.2
def oh(h:Int):Int:=if h<0 then -1 else if 72<h then 72 else h
theorem MD  h :∃k:Nat,k<74/\oh h=(k:Int)-1:=by refine⟨(oh h+1).toNat,?_,?_⟩<;>(unfold oh;split<;>(try split)<;>omega)
def Fh(w:gO):Bool:=(rp w.fair.aA.length).all (λi=>decide (0<=(aK w.fair i).hour) && decide ((aK w.fair i).hour<=72)) && (rp w.aF.length).all λi=>decide (0<=jl w i.toNat)
theorem Dr{w}(a:Fh w=true)  h :kE w h=kE w (oh h)/\kC w h=kC w (oh h):=by
 simp only[Fh,za,YE,KD]at a
 have c:bI w h=bI w (oh h):=ZN λx b=>by
  have:=a.1 x b;unfold pE oh
  grind
 have d:dP w h=dP w (oh h):=ZN λx b=>by
  have:=a.2 x b;unfold pC oh
  grind
 grind
def Vw(w:gO)(p:Int × Int):Bool:=(az p.1).all (λi=>decide (0<=i) && decide (i<w.fair.aA.length)) && (az p.2).all (λi=>decide (0<=i) && decide (i<w.aF.length)) && Dq (cW w (az p.1) (az p.2)) && decide (aG (cW w (az p.1) (az p.2)) []≠[])
theorem TX{w p}(h:Vw w p=true):w.Bk p.1 p.2:=by simp only[Vw,za,YE,KD]at h;exact⟨h.1.1.1,h.1.1.2,MC h.1.2,h.2⟩
def Ps(w:gO)(L:List (Int × Int)):Bool:=decide (w.fair.aA.length<=6) && decide (w.aF.length<=3) && Fh w && (List.range 74).all (λk=>L.contains (kE w ((k:Int)-1),kC w ((k:Int)-1))) && L.all (Vw w)
theorem Oy{w L}(h:Ps w L=true):w.Open:=by
 simp only[Ps,za,YE,KD]at h;refine⟨⟨h.1.1.1.1,h.1.1.1.2⟩,λt=>?_⟩;obtain⟨a,b⟩:=Dr h.1.1.2 t;obtain⟨k,c,ek⟩:=MD t;rw[a,b,ek];exact TX (p:=(kE w ((k:Int)-1),kC w ((k:Int)-1))) (h.2 _ (by grind))
def Pt(w:gO):Bool:=Dq w.fair && w.aF.all (λc=>Gr (lone w.fair c.lost) && decide (check (lone w.fair c.lost)=0)) && decide (w.ways.length<100) && decide (w.aF.length<100)
theorem Oz{w}(h:Pt w=true):w.xJ:=by simp only[Pt,Dq,za,YE,KD]at h;obtain⟨⟨⟨⟨d,e⟩,a⟩,f⟩,g⟩:=h;exact⟨sP d,e,λc b=>⟨sP (a c b).1,(a c b).2⟩,by omega,by omega⟩
end
section
open Go.cr Go.Conc
variable{m:Mo}{σ:ab}{KF:aaQ}
theorem xV{P:abm}{m:Mo}{fid n:Nat}{ro:aaX}{hold:aaV}{K:cr.Exit->St->Prop}{todo:abb}{D:List ye}{rc:Rec}{G:Prop}(I:aaO)
 (a:(∀env σ,I env σ->aa P m fid n ro hold todo ⟨env,σ,D,rc⟩ K)->G) (b:∀env σ,I env σ->aa P m fid n ro hold todo ⟨env,σ,D,rc⟩ K):G:=a b
end
section
open Go Go.cr Go.Conc
variable{m:Mo}{σ:ab}{KF:aaQ}
section
variable{c k:Nat}{nums:abe}
namespace WY
abbrev Vx:aaV:=[⟨2,.take [0,2,3,4,7,9] false (.both 1 (.one 5 (.take [6,8] true (.one 10 (.done)))) (.one 5 (.take [1,6,8] true (.one 10 (.done)))))⟩]
theorem QA{a b t:Int}(c:2<=t/\t<=4)(d:0<=a/\a<t)(hb:1<=b/\b<t):0<=(a+b).tmod t/\(a+b).tmod t<t/\(a+b).tmod t≠a:=by
 rw[Int.tmod_eq_emod_of_nonneg (by omega)];have:t=2\/t=3\/t=4:=by omega
 grind
theorem ME{a t}(b:2<=t/\t<=4):oA .rem .i64 a t=some (.int .i64 (a.tmod t)):=by simp[oA];omega
theorem MF{t}(hk:k+7<1000000)(G:nums.length<1152921504606846976)(ht:2<=t/\t<=4)(hb:bn c nums k σ)(h:∀  x  σ',pG t x=0->oD c nums (k+7) σ σ'->KF (.val (lG x)) σ'):aB prog m 16 [.ref c 0,int t] σ KF:=by
 obtain⟨n0,s0,_,a7⟩:=id hb;refine fs Vx Tryz.func16 rfl (by kernel_rfl) ?_
 simp[Tryz.f16];refine cz.intro λi h4=>?_
 have n4:c≠i:=λe=>by simp_all
 have O:∀x,bn c nums k (σ.set i x):=λx=>⟨n0,s0,by assumption,by rw[ab.ah _ _ n4];exact a7⟩
 simp;have V:-9223372036854775808<=t-1/\t-1<=9223372036854775807:=by omega
 simp[V.1,V.2];refine cf Tryz.func15 rfl (eF (by omega) G ⟨by omega,by omega⟩ (O _) λd aC P L=>?_)
 apply rn;simp;refine cf Tryz.func14 rfl (ed (by omega) G (by omega) (by omega) L.1 λr v aE w=>?_)
 apply rn;simp;refine cz.intro λf h5=>?_
 have A:f≠c:=λe=>by subst e;obtain⟨_,_,_,q⟩:=w.1;simp_all
 have aL:∀y,y≠c->y≠i->v y=σ y:=λy o W=>by rw[w.2 y o,L.2 y o,ab.ah _ _ W]
 have q4:v i=some (.cells [int 0,int 0,int 0,int 0,int 0]):=by rw[w.2 i (zj n4),L.2 i (zj n4),ab.aj]
 have s:f≠i:=λe=>by simp_all
 have P:0<=d/\d<t:=by omega
 apply xV (I:=λenv σ'=>∃b,(1<=b/\b<t)/\env 0=.ref c 0/\env 1=int t/\env 4=.ref i 0/\env 5=.ref f 0/\bn c nums (k+3) σ'/\σ' i=some (.cells [int 0,int 0,int 0,int 0,int 0])/\σ' f=some (.cells [int d,int ((d+b).tmod t),int r,int 0,int 0])/\∀y,y≠c->y≠i->y≠f->σ' y=σ y)
 . intro u
   simp[aH,V.1,V.2]
   have Q:bn c nums (k+2) (v.set f (.cells [int d,int 0,int r,int 0,int 0])):=by obtain⟨n,z,B,R⟩:=w.1;exact⟨n,z,B,by rw[ab.ah _ _ (zj A)];exact R⟩
   have fin:∀(b:Int) (g:ab),1<=b/\(b<=t-1\/b=1)->oD c nums (k+2+1) (v.set f (.cells [int d,int 0,int r,int 0,int 0])) g->g f=some (.cells [int d,int 0,int r,int 0,int 0])/\(-9223372036854775808<=d+b/\d+b<=9223372036854775807)/\∀(env:Env) (X:sT),env 0=.ref c 0->env 1=int t->env 4=.ref i 0->env 5=.ref f 0->X=.cells [int d,int ((d+b).tmod t),int r,int 0,int 0]->(∃b,(1<=b/\b<t)/\env 0=.ref c 0/\env 1=int t/\env 4=.ref i 0/\env 5=.ref f 0/\bn c nums (k+3) (g.set f X)/\(g.set f X) i=some (.cells [int 0,int 0,int 0,int 0,int 0])/\(g.set f X) f=some (.cells [int d,int ((d+b).tmod t),int r,int 0,int 0])/\∀y,y≠c->y≠i->y≠f->(g.set f X) y=σ y):=λb g p j=>by
    refine⟨by rw[j.2 f A,ab.aj],by omega,λenv X M H J K eX=>⟨b,by omega,M,H,J,K,?_,?_,by rw[ab.aj,eX],λy o W y3=>?_⟩⟩
    . obtain⟨n,z,B,R⟩:=j.1
      exact⟨n,z,by omega,by rw[ab.ah _ _ (zj A)];exact R⟩
    . rw[ab.ah _ _ (zj s),j.2 i (zj n4),ab.ah _ _ (zj s)];exact q4
    . rw[ab.ah _ _ y3,j.2 y o,ab.ah _ _ y3];grind
   refine⟨?_,?_⟩
   . refine cf Tryz.func14 rfl (ed (by omega) G (by omega) (by omega) Q λb g p j=>?_)
     obtain⟨g5,B,gI⟩:=fin b g p j;have Y:=ME (a:=d+b) ht;apply pg;simp[g5,B.1,B.2,Y,aH];exact u _ _ (gI _ _ (by simp) (by simp) (by simp) (by simp) rfl)
   . refine cf Tryz.func14 rfl (ed (by omega) G (by omega) (by omega) Q λb g p j=>?_)
     obtain⟨g5,B,gI⟩:=fin b g p j;have Y:=ME (a:=d+b) ht;apply pg;simp[g5,B.1,B.2,Y,aH];exact u _ _ (gI _ _ (by simp) (by simp) (by simp) (by simp) rfl)
 rintro env g ⟨b,p,M,H,J,K,a8,u4,u5,a9⟩
 apply rn;simp[M,H,J,K];refine cf Tryz.func15 rfl (eF (by omega) G ⟨by omega,by omega⟩ a8 λo aO b0 C=>?_)
 apply rn;simp[M,H,J,K];refine cf Tryz.func27 rfl (mq (l:=[0,0,o]) (by omega) G (by simp) C.1 λfr S b1 D=>?_)
 have hf:0<=fr/\fr<=20:=by grind
 have v5:S f=some (.cells [int d,int ((d+b).tmod t),int r,int 0,int 0]):=by rw[D.2 f A,C.2 f A];exact u5
 have r2:-9223372036854775808<=fr+20/\fr+20<=9223372036854775807:=by omega
 apply rn;simp[M,H,J,K,v5,aH,r2.1,r2.2];obtain⟨Z,ad,ax⟩:∃Z:Int,Z=(if fr+20<72 then fr+20 else 72)/\fr<=Z/\Z<=72:=⟨_,rfl,by omega,by omega⟩
 rw[<-ad]
 have T:bn c nums (k+5) (S.set f (.cells [int d,int ((d+b).tmod t),int r,int fr,int 0])):=by obtain⟨n,z,B,R⟩:=D.1;exact⟨n,z,by omega,by rw[ab.ah _ _ (zj A)];exact R⟩
 refine cf Tryz.func14 rfl (ed (by omega) G (by omega) (by omega) T λW b2 b3 E=>?_)
 apply rn;simp[M,H,J,K];refine cf Tryz.func27 rfl (mq (l:=[72,72,W]) (by omega) G (by simp) E.1 λtt U al F=>?_)
 have b4:fr<=tt/\tt<=72:=by simp at al;omega
 have w5:U f=some (.cells [int d,int ((d+b).tmod t),int r,int fr,int 0]):=by rw[F.2 f A,E.2 f A,ab.aj]
 have w4:U i=some (.cells [int 0,int 0,int 0,int 0,int 0]):=by rw[F.2 i (zj n4),E.2 i (zj n4),ab.ah _ _ (zj s),D.2 i (zj n4),C.2 i (zj n4)];exact u4
 apply rn;simp[M,H,J,K,w5,w4,s,zj s,ab.ah,aH];obtain⟨nb,zb,O,av⟩:=F.1;have ay:=QA ht P p
 have hw:pG t ⟨d,(d+b).tmod t,r,fr,tt⟩=0:=by
  have H:bE d 0 (t-1)=true:=by simp only[bE,za,KD];omega
  have Y:bE ((d+b).tmod t) 0 (t-1)=true:=by simp only[bE,za,KD];omega
  have e3:bE r 1 12=true:=by simp only[bE,za,KD];omega
  have J:bE fr 0 72=true:=by simp only[bE,za,KD];omega
  have K:bE tt 0 72=true:=by simp only[bE,za,KD];omega
  unfold pG
  grind
 refine .less (σ':=σ.set c (.cells [ints nums,int nb,.lit (.int .u64 zb)])) (λy x N=>?_) (.done (h ⟨d,(d+b).tmod t,r,fr,tt⟩ _ hw ⟨⟨nb,zb,by omega,ab.aj _ _ _⟩,λy N=>ab.ah _ _ N⟩))
 have s5:σ f=none:=by simp_all
 by_cases o:y=c
 . subst o
   rw[ab.aj]at N;rw[ab.ah _ _ n4,ab.ah _ _ (zj A),av];exact N
 . rw[ab.ah _ _ o]at N
   have y4:y≠i:=λe=>by simp_all
   have y5:y≠f:=λe=>by simp_all
   rw[ab.ah _ _ y4,ab.ah _ _ y5,F.2 y o,E.2 y o,ab.ah _ _ y5,D.2 y o,C.2 y o,a9 y o y4 y5];exact N
end WY
end
end
open Go.cr Go.Conc
variable{m:Mo}{σ:ab}{KF:aaQ}
def jW(a b:abe):abe:=a.filter λx=>decide (x∉b)
def TY(a b:abe):Int:=((jW a b).length:Int)+((jW b a).length:Int)
theorem xW{a b:abe}{i}  h :jW (a.take (i+1)) b=jW (a.take i) b++if a[i]∈b then[]else[a[i]]:=by
 unfold jW;rw[Yz h,ZF]
 grind
theorem nj  a b :(jW a b).length<=a.length:=Zf _ _
def MG:aaK:=[[],[0],[1],[2],[0,1],[0,2],[1,2],[0,1,2]]
theorem Ds{l}(h:l.Sublist [0,1,2]):l∈MG:=by cases h<;>(rename_i h;cases h<;>(rename_i h;cases h<;>(rename_i h;cases h;decide)))
theorem OA:∀a∈MG,∀b∈MG,TY a b=bL (aW a) (aW b):=by decide +kernel
theorem Dt{a b}(c:a.Sublist [0,1,2])(hb:b.Sublist [0,1,2]):TY a b=bL (aW a) (aW b):=OA _ (Ds c) _ (Ds hb)
theorem Fi{a b}(x:a.length<1000000)(hb:b.length<1000000)(h:KF (.val (int (TY a b))) σ):aB prog m 26 [ints a,ints b] σ KF:=by
 refine fs [] Tryz.func26 rfl (by kernel_rfl) ?_
 simp[Tryz.f26];refine aa.loop a.length (λi s=>∃env,s=⟨env,σ,[],.no⟩/\env 0=ints a/\env 1=ints b/\env 5=int ((jW (a.take i) b).length:Int)/\env 6=int i) ⟨_,rfl,by simp[jW]⟩ ?_
 rintro u i _ v ⟨env,rfl,e,f,d,n⟩ r
 rcases Zb i a.length with g1|g1
 . have t:(i:Int)<a.length:=by omega
   have j:=nj (a.take i) b;rw[ZD]at j;have f1:-9223372036854775808<=(i:Int)+1/\(i:Int)+1<=9223372036854775807:=by omega
   have o:-9223372036854775808<=((jW (a.take i) b).length:Int)+1/\((jW (a.take i) b).length:Int)+1<=9223372036854775807:=by omega
   have c:=xW (b:=b) g1;apply rn;simp[e,f,d,n,g1];refine cf Tryz.func8 rfl (m5 (by omega) ?_)
   by_cases q:a[i]∈b
   . rw[YG q,Zo]at c
     have k:¬nW b a[i]<0:=by have:=(jS b a[i]).2 q;omega
     apply rn;simp[e,f,d,n,k,f1.1,f1.2]
     simp_all
   . rw[YA q]at c
     have k:nW b a[i]<0:=by
      rcases Int.lt_or_le (nW b a[i]) 0 with g|g
      . exact g
      . exact absurd ((jS b a[i]).1 g) q
     apply rn;simp[e,f,d,n,k,f1.1,f1.2,o.1,o.2]
     simp_all
 . have l:i=a.length:=by omega
   subst l;rw[YZ]at d;have w:=nj a b;apply rn;simp[e,f,d,n];refine aa.loop b.length (λi s=>∃env,s=⟨env,σ,[],.no⟩/\env 0=ints a/\env 1=ints b/\env 5=int (((jW a b).length:Int)+((jW (b.take i) a).length:Int))/\env 7=int i) ⟨_,rfl,by simp[e,f,jW,d]⟩ ?_
   clear e f d n r
   rintro u i _ v ⟨env,rfl,e,f,d,p⟩ r
   rcases Zb i b.length with g1|g1
   . have t:(i:Int)<b.length:=by omega
     have j:=nj (b.take i) a;rw[ZD]at j;have f1:-9223372036854775808<=(i:Int)+1/\(i:Int)+1<=9223372036854775807:=by omega
     have o:-9223372036854775808<=((jW a b).length:Int)+((jW (b.take i) a).length:Int)+1/\((jW a b).length:Int)+((jW (b.take i) a).length:Int)+1<=9223372036854775807:=by omega
     have c:=xW (b:=a) g1;apply rn;simp[e,f,d,p,g1];refine cf Tryz.func8 rfl (m5 (by omega) ?_)
     by_cases q:b[i]∈a
     . rw[YG q,Zo]at c
       have k:¬nW a b[i]<0:=by have:=(jS a b[i]).2 q;omega
       apply rn;simp[e,f,d,p,k,f1.1,f1.2]
       simp_all
     . rw[YA q]at c
       have k:nW a b[i]<0:=by
        rcases Int.lt_or_le (nW a b[i]) 0 with g|g
        . exact g
        . exact absurd ((jS a b[i]).1 g) q
       apply rn;simp[e,f,d,p,k,f1.1,f1.2,o.1,o.2];refine r _ g1 ⟨_,rfl,by simp_all,by simp_all,by simp[c,Int.add_assoc]⟩
   . have l:i=b.length:=by omega
     subst l;rw[YZ]at d;apply rn;simp[e,f,d,p];exact .done h
