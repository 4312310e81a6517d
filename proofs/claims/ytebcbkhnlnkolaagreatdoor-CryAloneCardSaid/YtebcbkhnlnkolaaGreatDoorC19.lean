import Derived.Test.YtebcbkhnlnkolaaGreatDoorC18
set_option linter.all false
set_option maxHeartbeats 1000000
set_option maxRecDepth 4000
namespace Go.Proofs.YtebcbkhnlnkolaaGreatDoor
open Go.Proofs.Tryz (prog)
abbrev afg:=List Way
section
open Go.bN Go.Conc
variable{m:Mo}{σ:ab}{KF:aeQ}
theorem QS:oC prog nn:=⟨⟨_,_,Tryz.func104,rfl,rfl,rfl⟩,⟨_,_,Tryz.func105,rfl,rfl,rfl⟩⟩
def Bs(w:cC):Prop:=w.aj.length<=3/\∀c∈w.aj,(0<=c.town/\c.town<w.aF)/\0<=c.hour/\c.hour<=72
def F8(w:cC)(c:BC):Int:=(cQ w.ways w.aF.toNat c.town c.hour).getD 0 0
def ba(w:cC)(j:Nat):Int:=match w.aj[j]? with|some c=>F8 w c|none=>0
abbrev tK(fb mb:Nat)(w:cC)(o:Nat):AV:=Te fb mb w (int (ba w 0)) (int (ba w 1)) (int (ba w 2)) [9,10] o
structure MY(σ:ab)  fb mb  (w:cC)  σ' :Prop where
 f0:σ fb=none
 m0:σ mb=none
 ne:fb≠mb
 eq:σ'=(σ.set mb (pG (sC .u8) [])).set fb (.part (bW 9))
def yh(n:Nat):aff:=[9,10]++(List.range n).map (11+·)
abbrev wkL(mb:Nat)(w:cC):afk:=[kq w.fair.az,rows w.fair.roads,int w.fair.aU,int w.fair.dD,int w.fair.cJ,int w.fair.aX,int w.aF,xr w.ways,gS w.aj,.lit (.int .i32 0),.lit (.int .u32 0),int 0,int 0,int 0,.map mb]
abbrev Vt(fb mb:Nat)(w:cC)(o:Nat):AV:=Te fb mb w (int 0) (int 0) (int 0) (yh w.aj.length) o
def Wp(n:Nat):Nat->aeR:=λi=>if i=9 then some (.int .i32 0)else if i=10 then some (.int .u32 0)else if 11<=i/\i<11+n then some (.int .i64 0)else none
theorem qy{n i}:i∈yh n↔i=9\/i=10\/11<=i/\i<11+n:=by
 unfold yh;rw[aan,aab];constructor
 . grind
 rintro(h|h|h)
 . simp_all
 . simp_all
 exact .inr ⟨i-11,zH.2 (by omega),by omega⟩
theorem QT{n i}(h:i∈yh n):9<=i:=by have:=qy.1 h;omega
theorem Vu{n mb w}(h:n<=3)  i   v  (a:Wp n i=some v):(wkL mb w)[i]?=some (.lit v):=by
 unfold Wp at a;split at a
 . simp_all
 split at a
 . simp_all
 split at a
 . next e=>
   cases a;have:i=11\/i=12\/i=13:=by omega
   rcases this with rfl|rfl|rfl<;>rfl
 cases a
theorem QU  n i :Wp n i=none↔i∉yh n:=by
 rw[qy];unfold Wp
 grind
theorem v7{w}(hs:m.solo=true)(hl:w.ways.length<1152921504606846976)(hw:∀x∈w.ways,rW w.aF x)(hn:1<=w.aF/\w.aF<=4)(hc:Bs w)(hK:∀σ' fb mb,MY σ fb mb w σ'->KF (.val (tK fb mb w 0)) σ'):aB prog m 73 [bS w] σ KF:=by
 have h3:=hc.1;refine aB.start lay [10] [] 1 Tryz.func73 rfl rfl (by rfl) (by kernel_rfl) ?_;simp[Tryz.f73];refine xQ (sC .u8) rfl λmb Ff=>?_
 refine aa.run lay [10] ?_;simp[aI];refine bO.intro λfb S=>?_
 simp;obtain⟨fm,mf,I⟩:=ab.aS S;refine bO.intro λbw B=>?_
 obtain⟨wf,T,B⟩:=ab.aS B;obtain⟨wm,mw,B⟩:=ab.aS B;simp;refine bO.intro λgb o=>?_
 obtain⟨gw,wg,o⟩:=ab.aS o;obtain⟨gf,U,o⟩:=ab.aS o;obtain⟨gm,mg,o⟩:=ab.aS o;simp[wf,T,wm,mw,gw,wg,gf,U,gm,mg,fm,mf,ab.ah];refine aa.part fb (wkL mb w) (yh w.aj.length) (Wp w.aj.length) (bw:=bw) (l1:=[.ref fb 0]) (l2:=[Vt fb mb w 0]) (by simp[ab.ah,T,U]) (Vu h3) (QU w.aj.length) (λt=>.inl rfl) wf (by simp[ab.ah,wg]) rfl (λi a a' W h2=>?_) ?_
 . match i with
   |0=>simp at W h2;subst W;subst h2;exact .inr ⟨0,rfl,rfl⟩
   |i+1=>simp at W
 refine aa.bf 3 (b:=bw) (Vt fb mb w 0) (ab.ai _ _ _) (by simp) rfl ?_;refine aa.gN (λe σ'=>(e 3=.cp (Vt fb mb w 0) 0/\e 4=.ref gb 0/\e 15=gS w.aj/\e 16=int w.aj.length/\e 17=int 0)/\σ' fb=some (.part (Wp w.aj.length))/\σ' gb=some (.cells [.lit (.int .u64 0),.lit (.int .u32 0)])/\σ' mb=some (pG (sC .u8) [])/\∀c x,σ c=some x->c≠fb/\c≠mb/\c≠gb/\σ' c=some x) ⟨by simp,by simp[ab.del,ab.set,T],by simp[ab.del,ab.set,gw,gf],by simp[ab.del,ab.set,mw,mf,mg],λc x C=>?_⟩ ?_
 . have D:c≠fb:=λe=>by simp_all
   have E:c≠mb:=λe=>by simp_all
   have P:c≠gb:=λe=>by simp_all
   have X:c≠bw:=λe=>by simp_all
   exact⟨D,E,P,by simp[ab.del,ab.set,D,E,P,X,C]⟩
 rintro env al ⟨⟨g,h,Eb,Ad,d⟩,F,s2,s3,H⟩;refine aa.X7 hs (n:=w.aj.length) (fo:=9) (GI:=λx=>x=.map []) (λj=>.int .i64 (ba w j)) T9 Ua C4 C5 QS (by omega) U fm gm s2 F rfl rfl (λj Q q=>(QU _ _).1 q (qy.2 (.inr (.inr (by omega))))) s3 rfl rfl rfl ?_;rintro A ⟨J,rfl,Y,rfl,rfl,K,p,y,L,G⟩ Fin kd Z k0 M;refine aa.gN (λe σ'=>(e 3=.cp (Vt A.fb A.mb w 0) 0/\e 4=.ref A.gb 0/\e 15=gS w.aj/\e 16=int w.aj.length/\e 17=int 0)/\σ' A.fb=some .jf/\∀c x,σ c=some x->c≠A.fb/\c≠A.mb/\σ' c=some x) ⟨⟨g,h,Eb,Ad,d⟩,ab.ai _ _ _,λc x C=>?_⟩ ?_
 . obtain⟨D,E,P,X⟩:=H c x C
   exact⟨D,E,by simp[ab.del,ab.set,D,E,P,X]⟩
 rintro env av ⟨⟨g,h,Eb,Ad,d⟩,F,H⟩;refine aa.X6 (λk s=>∃e σ',s=⟨e,σ',[],.told kd Z k0⟩/\(e 3=.cp (Vt A.fb A.mb w 0) 0/\e 4=.ref A.gb 0/\e 15=gS w.aj/\e 16=int w.aj.length/\e 17=int k)/\σ' A.fb=some .jf/\∀c x,σ c=some x->c≠A.fb/\c≠A.mb/\σ' c=some x) ⟨_,_,rfl,⟨g,h,Eb,Ad,d⟩,F,H⟩ ?_ ?_
 . rintro r k _ hk ⟨env,σ',rfl,⟨g,h,Eb,Ad,d⟩,F,H⟩ ih
   rw[J]at hk;have z:k<w.aj.length:=by omega
   have f:(k:Int)<w.aj.length:=by omega
   refine aa.runN lay [] 17 ?_;simp[g,h,Eb,Ad,d,z,f];refine bO.intro λD ax=>?_
   simp[g,h,Eb,Ad,d,z,f];refine bO.intro λE N=>?_
   obtain⟨n1,n2,N⟩:=ab.aS N;simp[g,h,Eb,Ad,d,z,f,n1,n2,ab.ah];change aa _ _ _ _ _ _ _ _ _;refine aa.runN lay [] 4 ?_;simp[g,h,Eb,Ad,d,z,f,n1,n2,ab.ah];change aa _ _ _ _ _ _ _ _ _;refine aa.bf 6 (b:=E) (iC w.aj[k]) (ab.ai _ _ _) (by simp) rfl ?_;refine aa.bf 5 (b:=D) (int k) (by simp[ab.del,ab.set,n1,n2]) (by simp) rfl ?_;refine aa.O9 rfl (by rw[p];rfl) rfl (by simp) (by rw[p];exact Tryz.func100) rfl rfl (by simp[g,h,Eb,Ad,d,z,f]) ?_;refine aa.runN lay [] 4 ?_;simp[g,h,Eb,Ad,d,z,f];change aa _ _ _ _ _ _ _ _ _;have Q:A.n-(r+1)=k:=by omega
   have b1:A.fb≠D:=λe=>by simp_all
   have b2:A.fb≠E:=λe=>by simp_all
   have O:=hc.2 _ (ys z);refine aa.Tz y (hold':=T6) (first:=[]) (cap:=[.ref A.gb 0,.cp (Vt A.fb A.mb w 0) 0,.cp (iC w.aj[k]) 0,.cp (int k) 0]) rfl rfl rfl (by simp) (by simp[g,h,Eb,Ad,d,z,f]) Tryz.func101 rfl rfl (by show(4:Nat)<=25;decide) (by simp[ab.del,ab.set,b1,b2,F]) (by kernel_rfl) (by rw[p];exact Tryz.func102) rfl rfl (by rw[K];exact Tryz.func105) rfl rfl (λk1=>?_) ?_
   . rw[Q]
     exact Br (λi hi=>QT hi) ⟨rfl,rfl,Y,K,p,y⟩ (by omega) (λx=>by rw[L]) hl hw hn O.1 O.2 (by rw[G];simp[ba,z,F8]) rfl
   have f1:-9223372036854775808<=(k:Int)+1/\(k:Int)+1<=9223372036854775807:=by omega
   refine aa.run lay [10] ?_;simp[g,h,Eb,Ad,d,z,f,f1.1,f1.2];refine ih _ ⟨_,_,rfl,by simp[g,h,Eb,Ad,d,z,f],by simp[ab.del,ab.set,b1,b2,F],λc x C=>?_⟩;obtain⟨x1,x2,x3⟩:=H c x C;have y1:c≠D:=λe=>by grind
   have y2:c≠E:=λe=>by grind
   exact⟨x1,x2,by simp[ab.del,ab.set,y1,y2,x3]⟩
 rintro _ ⟨env,σ',rfl,⟨g,h,Eb,Ad,d⟩,F,H⟩;rw[J]at d;refine aa.runN lay [] 9 ?_;simp[g,h,Eb,Ad,d];change aa _ _ _ _ _ _ _ _ _;refine aa.Pg y ((bN.bu (env.upd 18 (bool false)) (some 25) (.bL [])).upd 3 (.cp (tK A.fb A.mb w 0) 0)) rfl (by rw[p];rfl) rfl (by simp) (by rw[p];exact Tryz.func106) rfl rfl (by simp_all) F rfl M (λkk a7 t v R=>?_) λa ha=>?_
 . change V kk v (bN.bu (env.upd 18 (bool false)) (some 25) (.bL []) t)at R
   by_cases e:t=3
   . subst e
     rw[show(bN.bu (env.upd 18 (bool false)) (some 25) (.bL [])) 3=.cp (Vt A.fb A.mb w 0) 0 by simp[g]]at R;rw[show((bN.bu (env.upd 18 (bool false)) (some 25) (.bL [])).upd 3 (.cp (tK A.fb A.mb w 0) 0)) 3=.cp (tK A.fb A.mb w 0) 0 by simp];refine V.cp1 rfl rfl (λu=>SL (l:=wkL A.mb w) (hole:=yh w.aj.length) rfl λj Q ay=>?_) R;by_cases hm:j∈yh w.aj.length
     . have aC:11<=j/\j<11+w.aj.length:=by
        have:=qy.1 hm
        simp_all
       refine .inr ⟨.int .i64 (ba w (j-11)),?_,rfl,?_⟩
       . have:=a7 (j-11) (by omega)
         rwa [G,show A.cell (j-11)=j by unfold cd.cell;omega]at this
       have:j=11\/j=12\/j=13:=by omega
       rcases this with rfl|rfl|rfl<;>rfl
     refine .inl ⟨hm,?_⟩;have aE:j<15:=Q;have hz:∀i,w.aj.length<=i->int (ba w i)=int 0:=λi hi=>by rw[ba,adl hi]
     have aL:¬(11<=j/\j<11+w.aj.length):=λq=>hm (qy.2 (.inr (.inr q)))
     by_cases a8:j=11
     . subst a8;simp[hz 0 (by omega)]
     by_cases a9:j=12
     . subst a9;simp[hz 1 (by omega)]
     by_cases ad:j=13
     . subst ad;simp[hz 2 (by omega)]
     have:j=0\/j=1\/j=2\/j=3\/j=4\/j=5\/j=6\/j=7\/j=8\/j=9\/j=10\/j=14:=by omega
     rcases this with rfl|rfl|rfl|rfl|rfl|rfl|rfl|rfl|rfl|rfl|rfl|rfl<;>rfl
   simpa[Env.upd,e]using R
 rw[L]at ha;subst ha;refine aa.run lay [10] ?_;simp[g,h,Eb,Ad,d];refine .less (σ':=(σ.set A.mb (pG (sC .u8) [])).set A.fb (.part (bW 9))) ?_ (.done (hK _ _ _ ⟨I,Ff,fm,rfl⟩));intro c x C;by_cases c1:c=A.fb
 . simp_all
 by_cases c2:c=A.mb
 . subst c2
   rw[ab.ah _ _ c1,ab.ai]at C;rw[ab.ah _ _ c1,ab.ai];exact C
 rw[ab.ah _ _ c1,ab.ah _ _ c2]at C ⊢
 simp_all
def dI(w:cC)(aQ a aj:afe):Int:=if fJ w=0 then(if aQ.all (bz · 0 72)=false then 1 else if a.all (bz · 0 (w.fair.az.length-1))=false then 3 else if aj.all (bz · 0 (w.aj.length-1))=false then 3 else 0)else fJ w
theorem oW{α}  g :∀{l:List α},eh g l=0->∀x∈l,g x=0
 |[],_,x,hx=>by simp at hx
 | a ::l,h,x,hx=>by
   unfold eh at h;split at h
   . next e=>
     rcases aaw.1 hx with rfl|hx
     . exact e
     . exact oW g h x hx
   omega
theorem MZ{t x}(h:kF t x=0):rW t x:=by
 unfold kF at h;split at h
 . cases h
 next a=>
 split at h
 . cases h
 next b=>
 split at h
 . cases h
 split at h
 . cases h
 next c=>
 split at h
 . cases h
 next d=>
 split at h
 . cases h
 next e=>
 have f:=dU (by simpa using a);have g:=dU (by simpa using b);have i:=dU (by simpa using c);have j:=dU (by simpa using d);have k:=dU (by simpa using e);unfold rW;omega
structure cC.Valid(w:cC):Prop where
 jA:w.pv
 aF:1<=w.aF/\w.aF<=4
 cN:∀x∈w.ways,rW w.aF x
 few:w.ways.length<=6
 ov:Bs w
 late:∀c∈w.aj,c.lost.hour<=c.hour
 mT:w.fair.az.length+w.aj.length<=6
 some:aJ (dS w) []≠[]
theorem cC.valid{w}(d:w.pv)(h:fJ w=0):w.Valid:=by
 unfold fJ at h;split at h
 . cases h
 next f=>
 split at h
 . cases h
 next o=>
 split at h
 . omega
 next p=>
 split at h
 . cases h
 next q=>
 split at h
 . omega
 next g=>
 split at h
 . cases h
 next r=>
 split at h
 . cases h
 next i=>
 have j:=dU (a:=w.aF) (by simpa using f)
 have e:w.fair.az.length+w.aj.length<=6:=by omega
 have b:∀c∈w.aj,((0<=c.town/\c.town<w.aF)/\0<=c.hour/\c.hour<=72)/\c.lost.hour<=c.hour:=λc b=>by
  have:=oW _ (by simpa using g) c b
  unfold uR at this;split at this
  . cases this
  next k=>
  split at this
  . cases this
  next l=>
  split at this
  . cases this
  next s=>
  have t:=dU (by simpa using k)
  have u:=dU (by simpa using l)
  omega
 have m:=gW d e;have v:gX (dS w)≠0:=i;refine⟨d,j,λx n=>MZ (oW _ (by omega) x n),by omega,⟨by omega,λc h=>(b c h).1⟩,λc h=>(b c h).2,e,(wu m).1 ?_⟩
 have:0<=gX (dS w):=by unfold gX;omega
 omega
theorem Jh  p  (l:afe){i}  h :(l.drop i).all p=(p l[i] && (l.drop (i+1)).all p):=by rw[ace h,acd]
theorem jz{w}(A:m.solo=true)(y:w.pv){aQ a aj}(D:aQ.length<1000000/\a.length<1000000/\aj.length<1000000)
 (f:dI w aQ a aj≠0->KF (.val (.bL [.lit (.pointer none),int (dI w aQ a aj)])) σ)
 (r:dI w aQ a aj=0->∀σ' fb mb,MY σ fb mb w σ'->KF (.val (.bL [tK fb mb w 0,int 0])) σ'):aB prog m 41 [bS w,ints aQ,ints a,ints aj] σ KF:=by
 unfold dI at f r;refine fs [] Tryz.func41 rfl (by kernel_rfl) ?_;simp[Tryz.f41];refine cf Tryz.func75 rfl (Jg A y ?_);apply rn;simp;apply aG.intro<;>intro t<;>simp at t<;>simp[t]
 . simp[t]at f
   exact .done f
 have v:=cC.valid y t;have z:=y.ways;have E:=v.mT;simp only[t,aay]at f r;refine aa.loop aQ.length (λk s=>∃env,s=⟨env,σ,[],.no⟩/\env 2=ints a/\env 3=ints aj/\env 4=.cp (bS w) 0/\env 22=ints aQ/\env 23=int aQ.length/\env 24=int k/\aQ.all (bz · 0 72)=(aQ.drop k).all (bz · 0 72)) ⟨_,rfl,by simp⟩ ?_;rintro F k _ x ⟨env,rfl,B,C,q,yH,Nd,yI,b⟩ u;apply rn;simp[Nd,yI];apply aG.intro<;>intro h<;>simp at h<;>simp[B,C,yH,yI,h]
 . rw[Jh _ _ h]at b
   refine cf Tryz.func76 rfl (fD ?_);apply rn;simp;refine aG.intro (λd=>?_) (λd=>?_)<;>(try simp at d)<;>(try simp[yI,d])
   . rw[d,aeo]at b
     refine⟨by omega,u _ (by omega) ⟨_,rfl,?_,?_,?_,?_,?_,?_,b⟩⟩<;>simp[B,C,q,yH,Nd]
   . simp[b,d]at f
     exact .done f
 have ek:k=aQ.length:=by omega
 subst ek;rw[adZ,aex]at b;simp only[b,adO,aao]at f r;refine aa.xj ?_;apply rn;simp;refine aa.loop a.length (λk s=>∃env,s=⟨env,σ,[],.no⟩/\env 4=.cp (bS w) 0/\env 34=.sl 1 [ints a,ints aj] .exact/\env 35=int 2/\env 36=int 0/\env 13=int 0/\env 41=ints a/\env 42=int a.length/\env 43=int k/\a.all (bz · 0 (w.fair.az.length-1))=(a.drop k).all (bz · 0 (w.fair.az.length-1))) ⟨_,rfl,by simp[q]⟩ ?_;rintro G k _ x ⟨env,rfl,q,i,g,j,n,o,p,e,b⟩ u;refine aa.runN lay [] 25 ?_;simp[p,e];apply aG.intro<;>intro h<;>simp at h<;>simp[q,j,o,e,h]
 . rw[Jh _ _ h]at b
   refine aa.op rfl (cH rfl) (by simp) (λc=>by simp) (sV lay rfl T5 rfl pQ (l:=[int w.fair.az.length,int w.aj.length]) (by simp) (by simp[mN,aI]) ?_);apply rn;simp[n];refine⟨by omega,?_⟩;refine cf Tryz.func76 rfl (fD ?_);apply rn;simp;refine aG.intro (λd=>?_) (λd=>?_)<;>(try simp at d)<;>(try simp[e,d])
   . rw[d,aeo]at b
     refine⟨by omega,u _ (by omega) ⟨_,rfl,?_,?_,?_,?_,?_,?_,?_,?_,b⟩⟩<;>simp[q,i,g,j,n,o,p]
   . rw[d,Bool.false_and]at b
     simp only[b,aay]at f;exact .done (f (by decide))
 have ek:k=a.length:=by omega
 subst ek;rw[adZ,aex]at b;simp only[b,adO,aao]at f r;refine aa.again (by kernel_rfl) ?_;apply rn;simp[i,g];refine aa.loop aj.length (λk s=>∃env,s=⟨env,σ,[],.no⟩/\env 4=.cp (bS w) 0/\env 34=.sl 1 [ints a,ints aj] .exact/\env 35=int 2/\env 36=int 1/\env 13=int 1/\env 41=ints aj/\env 42=int aj.length/\env 43=int k/\aj.all (bz · 0 (w.aj.length-1))=(aj.drop k).all (bz · 0 (w.aj.length-1))) ⟨_,rfl,by simp[q,i,g]⟩ ?_;rintro H k _ x ⟨env,rfl,q,i,g,j,n,o,p,e,b⟩ u;refine aa.runN lay [] 25 ?_;simp[p,e];apply aG.intro<;>intro h<;>simp at h<;>simp[q,j,o,e,h]
 . rw[Jh _ _ h]at b
   refine aa.op rfl (cH rfl) (by simp) (λc=>by simp) (sV lay rfl T5 rfl pQ (l:=[int w.fair.az.length,int w.aj.length]) (by simp) (by simp[mN,aI]) ?_);apply rn;simp[n];refine⟨by omega,?_⟩;refine cf Tryz.func76 rfl (fD ?_);apply rn;simp;refine aG.intro (λd=>?_) (λd=>?_)<;>(try simp at d)<;>(try simp[e,d])
   . rw[d,aeo]at b
     refine⟨by omega,u _ (by omega) ⟨_,rfl,?_,?_,?_,?_,?_,?_,?_,?_,b⟩⟩<;>simp[q,i,g,j,n,o,p]
   . rw[d,Bool.false_and]at b
     simp only[b,aay]at f;exact .done (f (by decide))
 have ek:k=aj.length:=by omega
 subst ek;rw[adZ,aex]at b;simp only[b,adO,aao]at f r;refine aa.again (by kernel_rfl) ?_;apply rn;simp[q,g];refine cf Tryz.func73 rfl (v7 A z v.cN v.aF v.ov λσ' fb mb x=>?_);apply rn;simp;exact .done (r trivial σ' fb mb x)
end
section
open Go Go.bN Go.Conc
open Go.Extern
variable{m:Mo}{σ:ab}{KF:aeQ}
abbrev YJ(t:Nat):Value:=.pointer (some ⟨1,t,none⟩)
abbrev YK(t:Nat):AV:=.ou 197 (.agg [.lit (YJ t)])
theorem yi{P}{t f:Nat}{name a a'}(h:∀k v,V k v a->∃r,gg P (Go.method (P.types.size+Made.depth) t v name)=some (f,r)/\V k r a'):qQ P t name f a a':=λk O v K g b c=>by obtain⟨r,d,e⟩:=h k v b;exact rC _ d (c r e)
theorem M0{t f:Nat}{name}(h:∀h,gg prog (Go.method (prog.types.size+Made.depth) 197 (.agg #[h]) name)=some (f,.agg #[h])):qQ prog 197 name f (.agg [.lit (YJ t)]) (.agg [.lit (YJ t)]):=yi λk v a=>by
 obtain⟨x,rfl,_⟩:=IM.1 a
 simp_all
theorem Vv  k   t :V k (.iface 197 (.agg #[YJ t])) (YK t):=T4.2 ⟨_,rfl,IM.2 ⟨_,rfl,.lit _⟩⟩
abbrev Dd:AV:=.ou 93 (.agg [])
theorem QV(h:KF (.val (bool false)) σ):aB prog m 43 [.lit .nilIface,Dd] σ KF:=by
 refine fs [] Tryz.func43 rfl (by kernel_rfl) ?_;simp[Tryz.f43];refine er lay rfl F5 rfl (.inl ⟨rfl,rfl⟩) (.inl ⟨rfl,rfl⟩) ?_;apply rn;simp;refine rD (vx:=.nilIface) (vy:=.iface 93 (.agg #[])) (r:=.bool false) rfl (λk v a=>by simpa using CY.1 a) (λk v a=>V.SO (by simpa using a)) (by kernel_rfl) ?_;apply rn;simp;exact .done h
theorem QW  h :gg prog (Go.method (prog.types.size+Made.depth) 197 (.agg #[h])  "Comparable")=some (229,.agg #[h]):=by kernel_rfl
theorem Tf(h:KF (.val (bool true)) σ):aB prog m 78 [Dd,Dd,bool true] σ KF:=by
 refine fs [] Tryz.func78 rfl (by kernel_rfl) ?_;simp[Tryz.f78];refine aa.xj ?_;apply rn;simp;refine rD (vx:=.iface 93 (.agg #[])) (vy:=.iface 93 (.agg #[])) (r:=.bool true) rfl (λk v a=>V.SO (by simpa using a)) (λk v a=>V.SO (by simpa using a)) (by kernel_rfl) ?_;apply rn;simp;exact .done h
theorem Kx(h:KF (.val (bool true)) σ):aB prog m 43 [Dd,Dd] σ KF:=by
 refine fs [] Tryz.func43 rfl (by kernel_rfl) ?_;simp[Tryz.f43];refine er lay rfl F5 rfl (.inr ⟨⟨_,_,rfl⟩,rfl⟩) (.inl ⟨rfl,rfl⟩) ?_;apply rn;simp;refine er lay rfl F5 rfl (.inr ⟨⟨_,_,rfl⟩,rfl⟩) (.inl ⟨rfl,rfl⟩) ?_;apply rn;simp;refine cL.ext Tryz.func77 rfl rfl (by kernel_rfl) (e:=ReflectliteType.typeOf) (by kernel_rfl) (ye.pure (v:=.iface 197 (.agg #[YJ 93])) (a:=YK 93) (λk f d=>?_) (λk=>Vv k _) ?_)
 . obtain⟨v,b,c⟩:=d.one
   subst b;rw[V.SO c]
   kernel_rfl
 apply rn;simp;refine aa.SN rfl rfl (cH rfl) (by simp) rfl (M0 QW) Tryz.func229 rfl rfl (by kernel_rfl) (e:=ReflectliteType.method λt=>do Rtype.noPackHeld  "Comparable" t;pure (.bool (<-typeInfo t).comparable)) (by kernel_rfl) (ye.pure (v:=.bool true) (a:=bool true) (λk f d=>?_) (λk=>.lit _) ?_)
 . obtain⟨v,b,c⟩:=d.one
   subst b;obtain⟨u,rfl,g⟩:=IM.1 c;rw[CY.1 g]
   kernel_rfl
 apply rn;simp;refine cf Tryz.func78 rfl (Tf ?_);apply rn;simp;exact .done h
theorem oU{w fb mb c}(b:c<3)(h:if 72<ba w c then KF (.val (.bL [int 0,Dd])) σ else KF (.val (.bL [int (ba w c),.lit .nilIface])) σ):aB prog m 42 [tK fb mb w 0,int c] σ KF:=by
 have:c=0\/c=1\/c=2:=by omega
 rcases this with rfl|rfl|rfl
 all_goals
  refine fs [] Tryz.func42 rfl (by kernel_rfl) ?_;simp[Tryz.f42];refine aG.intro (λa=>?_) (λa=>?_)<;>(try simp[-Int.not_lt,-Int.not_le]at a)<;>(try simp[a]at h)<;>(try simp[a])<;>(try exact .done h)
 all_goals exact .done h
def pE(w:cC)(h:Int)(i:Int):Bool:=decide ((aP w.fair i).hour<=h)
def pC(w:cC)(h:Int)(i:Int):Bool:=decide (ba w i.toNat<=72) && decide (ba w i.toNat<=h)
def dE(w:cC)(h:Int):afe:=(m8 w.fair.az.length).filter (pE w h)
def dv(w:cC)(h:Int):afe:=(m8 w.aj.length).filter (pC w h)
abbrev Ng(w:cC)(h:Int):AV:=.agg [u8 (aR (dE w h)),u8 (aR (dv w h))]
theorem se  k   p :(m8 (k+1)).filter p=(m8 k).filter p++if p k then[(k:Int)]else[]:=by
 unfold m8;rw[aaB,aaq,aca]
 grind
theorem lI  l   n :aR (l++[n])=cB (aR l) n:=by
 unfold aR
 simp_all
namespace CK
abbrev aad:aeV:=[⟨6,.take [0,1,2,3,4,5] true (.one 6 (.done))⟩,⟨13,.take [0,3,6] false (.both 1 (.one 2 (.take [4,5] true (.one 7 (.done)))) (.one 2 (.take [1,4,5] true (.one 7 (.done)))))⟩]
theorem B7{w fb mb h}(H:w.fair.az.length<=6)(I:w.aj.length<=3)(z:KF (.val (Ng w h)) σ):aB prog m 49 [tK fb mb w 0,int h] σ KF:=by
 refine fs aad Tryz.func49 rfl (by kernel_rfl) ?_
 simp[Tryz.f49];refine bO.intro λb hb=>?_
 simp;refine bO.intro λd hd=>?_
 obtain⟨J,A,hd⟩:=ab.aS hd;simp;refine aa.loop w.fair.az.length (λk s=>∃env,s=⟨env,(σ.set b (.cells [u8 0,u8 0])).set d (.cells [u8 (aR ((m8 k).filter (pE w h))),u8 0]),[],.no⟩/\env 0=tK fb mb w 0/\env 1=int h/\env 4=.ref b 0/\env 5=.ref d 0/\env 16=kq w.fair.az/\env 17=int w.fair.az.length/\env 18=int k) ⟨_,rfl,by simp⟩ ?_
 rintro K k _ B ⟨env,rfl,i,j,n,g,Ad,o,wo⟩ p
 refine aa.runN lay [] 17 ?_;simp[o,wo];apply aG.intro<;>intro r<;>simp at r<;>simp[i,Ad,wo,r]
 . have C:aP w.fair k=w.fair.az[k]:=by simp[aP,r]
   refine bO.intro λq D=>?_
   obtain⟨L,M,E⟩:=ab.aS D;obtain⟨N,O,P⟩:=ab.aS E;simp
   change aa _ _ _ _ _ _ _ _ _
   refine aa.runN lay [] 2 ?_;simp
   change aa _ _ _ _ _ _ _ _ _
   refine aa.bf 7 (b:=q) (bj w.fair.az[k]) (ab.ai _ _ _) (by simp) rfl ?_
   rw[dH (by omega)]
   apply rn;simp[j];have a:=se k (pE w h);have t:pE w h k=decide (w.fair.az[k].hour<=h):=by unfold pE;rw[C]
   apply aG.intro<;>intro u<;>simp at u<;>simp[g,wo,u,vW]
   . rw[t,show decide (w.fair.az[k].hour<=h)=true by grind,Rp rfl]at a
     apply rn;simp[wo];refine⟨by omega,p _ (by omega) ⟨_,by rw[a,lI];rfl,by simp[i,j,n,g,Ad,o]⟩⟩
   rw[t,show decide (w.fair.az[k].hour<=h)=false by grind,KD (by simp),aaE]at a
   refine⟨by omega,p _ (by omega) ⟨_,by rw[a],by simp[i,j,n,g,Ad,o]⟩⟩
 have ek:k=w.fair.az.length:=by omega
 subst ek;rw[show(m8 w.fair.az.length).filter (pE w h)=dE w h from rfl]
 apply rn;simp;refine aa.loop w.aj.length (λk s=>∃env,s=⟨env,(σ.set b (.cells [u8 0,u8 0])).set d (.cells [u8 (aR (dE w h)),u8 (aR ((m8 k).filter (pC w h)))]),[],.no⟩/\env 0=tK fb mb w 0/\env 1=int h/\env 4=.ref b 0/\env 5=.ref d 0/\env 39=int w.aj.length/\env 40=int k) ⟨_,rfl,by simp[i,j,n,g]⟩ ?_
 rintro v k _ B ⟨env,rfl,i,j,n,g,l,f⟩ p
 apply rn;simp[l,f];apply aG.intro<;>intro r<;>simp at r<;>simp[i,n,g,f,r,A,ab.ah]
 . have a:=se k (pC w h)
   have t:pC w h k=(decide (ba w k<=72) && decide (ba w k<=h)):=rfl;refine cf Tryz.func42 rfl (oU (by omega) ?_)
   split
   . next u=>
     apply rn;simp;refine cf Tryz.func43 rfl (Kx ?_);apply rn;simp[f];rw[t,show decide (ba w k<=72)=false by simp;omega,Bool.false_and,KD (by simp),aaE]at a
     refine⟨by omega,p _ (by omega) ⟨_,by rw[a],by simp[i,j,n,g,l]⟩⟩
   next u=>
   apply rn;simp;refine cf Tryz.func43 rfl (QV ?_);apply rn;simp[j];rw[t,show decide (ba w k<=72)=true by simp;omega,aeo]at a
   apply aG.intro<;>intro y<;>simp at y<;>simp[g,f,y]
   . rw[show decide (ba w k<=h)=true by grind,Rp rfl]at a
     have:k=0\/k=1\/k=2:=by omega
     refine⟨?_,?_⟩
     all_goals
      refine cf Tryz.func87 rfl (QQ ?_)
      rcases this with rfl|rfl|rfl
     all_goals
      apply pg;simp[vW];apply rn;simp[f]
     all_goals exact p _ (by omega) ⟨_,by rw[a,lI];rfl,by simp[i,j,n,g,l]⟩
   rw[show decide (ba w k<=h)=false by grind,KD (by simp),aaE]at a
   refine⟨by omega,p _ (by omega) ⟨_,by rw[a],by simp[i,j,n,g,l]⟩⟩
 have ek:k=w.aj.length:=by omega
 subst ek;rw[show(m8 w.aj.length).filter (pC w h)=dv w h from rfl]
 refine .less (λc x F=>?_) (.done z)
 have v:c≠b:=λe=>by grind
 have G:c≠d:=λe=>by grind
 rw[ab.ah _ _ v,ab.ah _ _ G,ab.ah _ _ v];exact F
end CK
theorem s8{b o l n}(a:σ b=some (.cells l))(c:l[o]?=some (.lit (.int .u32 n)))(h:KF (.val (bool (n !=0))) σ):aB prog m 151 [.ref b o] σ KF:=by
 refine fs [] Tryz.func151 rfl (by kernel_rfl) ?_;simp[Tryz.f151];refine cL.ext Tryz.func184 rfl rfl (by kernel_rfl) (e:=Atomic.loadT (.int .u32)) (by kernel_rfl) (IN (rB b o) a c ?_);apply rn;simp;exact .done h
theorem Vw(h:KF (.val (.lit (.int .u32 1))) σ):aB prog m 200 [bool true] σ KF:=by
 refine fs [] Tryz.func200 rfl (by kernel_rfl) ?_;simp[Tryz.f200];exact .done h
theorem E3{b o l}(a:σ b=some (.cells l))(c:o<l.length)(h:KF (.val (.bL [])) (σ.set b (.cells (l.set o (.lit (.int .u32 1)))))):aB prog m 185 [.ref b o,bool true] σ KF:=by
 refine fs Yt Tryz.func185 rfl (by kernel_rfl) ?_;simp[Tryz.f185];refine cf Tryz.func200 rfl (Vw ?_);apply pg;simp;refine cL.ext Tryz.func199 rfl rfl (by kernel_rfl) (e:=Atomic.storeT) (by kernel_rfl) (GR (rB b o) a c ?_);apply pg;simp;apply rn;simp;exact .done h
theorem Hj{b l f}(a:σ b=some (.cells l))(c:l[0]?=some (.lit (.int .u32 1)))(h:KF (.val (.bL [])) σ):aB prog m 113 [.ref b 0,f] σ KF:=by
 refine fs [] Tryz.func113 rfl (by kernel_rfl) ?_;simp[Tryz.f113];refine cf Tryz.func151 rfl (s8 a c ?_);apply rn;simp;exact .done h
theorem Hk(c:m.solo=true){b l f}(a:σ b=some (.cells l))(o:l[0]?=some (.lit (.int .u32 0)))(d:l[1]?=some (.lit (.int .i32 0)))(e:l[2]?=some (.lit (.int .u32 0)))
 (g:∀K ,(∀σ' l',σ' b=some (.cells l')->l'[0]?=some (.lit (.int .u32 0))->l'[1]?=some (.lit (.int .i32 1))->l'[2]?=some (.lit (.int .u32 0))->KF (.val (.bL [])) (σ'.set b (.cells ((l'.set 0 (.lit (.int .u32 1))).set 1 (.lit (.int .i32 0)))))->K (.val (.bL [])) σ')->cL prog m f [] (σ.set b (.cells (l.set 1 (.lit (.int .i32 1))))) K):
 aB prog m 152 [.ref b 0,f] σ KF:=by
 refine fs [] Tryz.func152 rfl (by kernel_rfl) ?_;simp[Tryz.f152];refine cf Tryz.func104 rfl (ID C4 C5 QS c (rB b 1) a d e ?_);apply rn;simp;refine aa.defer rfl rfl rfl rfl (by simp) rfl ?_;apply rn;simp;have h:(σ.set b (.cells (l.set 1 (.lit (.int .i32 1))))) b=some (.cells (l.set 1 (.lit (.int .i32 1)))):=ab.ai _ _ _;have i:(l.set 1 (.lit (.int .i32 1)))[0]?=some (.lit (.int .u32 0)):=by simp_all
 refine cf Tryz.func151 rfl (s8 h i ?_);apply rn;simp;refine aa.defer rfl rfl rfl rfl (by simp) rfl ?_;apply rn;simp;refine g _ λσ' l' j k p q n=>?_
 apply rn;simp;refine tP.func Tryz.func185 rfl rfl (E3 j (aas.1 k).1 ?_);refine tP.func Tryz.func105 rfl rfl (EJ C4 C5 QS c (rB b 1) (ab.ai _ _ _) (by simp_all) (by simp_all) ?_);rw[ab.set_set];exact⟨[],rfl,.done n⟩
theorem E4(d:m.solo=true){b l f}(a:σ b=some (.cells l))(c:l[0]?=some (.lit (.int .u32 0)))(e:l[1]?=some (.lit (.int .i32 0)))(g:l[2]?=some (.lit (.int .u32 0)))
 (h:∀K ,(∀σ' l',σ' b=some (.cells l')->l'[0]?=some (.lit (.int .u32 0))->l'[1]?=some (.lit (.int .i32 1))->l'[2]?=some (.lit (.int .u32 0))->KF (.val (.bL [])) (σ'.set b (.cells ((l'.set 0 (.lit (.int .u32 1))).set 1 (.lit (.int .i32 0)))))->K (.val (.bL [])) σ')->cL prog m f [] (σ.set b (.cells (l.set 1 (.lit (.int .i32 1))))) K):
 aB prog m 113 [.ref b 0,f] σ KF:=by
 refine aB.thaw ?_;refine fs [] Tryz.func113 rfl (by kernel_rfl) ?_;simp[Tryz.f113];refine cf Tryz.func151 rfl (s8 a c ?_);apply rn;simp;refine cf Tryz.func152 rfl (Hk d a c e g λK i=>h K λσ' l' j k n o p=>i σ' l' j k n o ?_);apply rn;simp;exact .done (.done p)
end
open Go Go.bN Go.Conc
variable{m:Mo}{σ:ab}{KF:aeQ}
def uj(w:cC)(c:Int):BC:=w.aj.getD c.toNat ⟨⟨0,0,0,[],0,0⟩,0,0⟩
abbrev bs(w:cC)(es cs:afe):Fr:={w.fair with az:=es.map (aP w.fair)++cs.map λc=>(uj w c).lost}
abbrev Cf(f:Fr):afk:=[rows f.roads,int f.aU,int f.dD,int f.cJ,int f.aX]
abbrev Ji:afk:=[.lit (.slice none 0 0),.lit (.slice none 0 0),int 0,int 0,int 0,int 0]
theorem HL{a a' l}(h:a.W a'):(AV.agg (a::l)).W (.agg (a'::l)):=nY rfl λi x y c b=>by
 cases i with
 |zero=>simp_all
 |succ i=>simp at c b;rw[c]at b;cases b;exact .refl _
namespace CF
abbrev aae:aeV:=[⟨6,.take [0,2,3,4,5,6,7,8,9,10,13] false (.both 1 (.one 11 (.one 12 (.one 14 (.done)))) (.one 11 (.take [1] true (.one 12 (.one 14 (.done))))))⟩,⟨11,.take [1,2,3,4,5,6,7,8,9] false (.both 0 (.one 10 (.one 11 (.one 12 (.done)))) (.one 10 (.take [0] true (.one 11 (.one 12 (.done))))))⟩]
theorem QX{w fb mb x y}(U:∀i∈aD x,0<=i/\i<w.fair.az.length)(V:∀i∈aD y,0<=i/\i<w.aj.length)(h:KF (.val (bF (bs w (aD x) (aD y)))) σ):aB prog m 59 [tK fb mb w 0,.agg [u8 x,u8 y]] σ KF:=by
 have X:=qx x;have Y:=qx y;refine fs aae Tryz.func59 rfl (by kernel_rfl) ?_
 simp[Tryz.f59];refine bO.intro λb hb=>?_
 simp;refine bO.intro λd l=>?_
 obtain⟨n1,n2,hd⟩:=ab.aS l;simp;refine cf Tryz.func50 rfl (lN ?_);apply rn;simp
 refine aa.loop (aD x).length (λk s=>∃env f a,s=⟨env,f,[],.no⟩/\env 0=tK fb mb w 0/\env 3=.cp (.agg [u8 x,u8 y]) 0/\env 4=.ref b 0/\env 5=.ref d 0/\env 18=ints (aD x)/\env 19=int (aD x).length/\env 20=int k/\f d=some (.cells (a::Cf w.fair))/\Tok (σ.set b (.cells Ji)) f a 6 (((aD x).take k).map λi=>bj (aP w.fair i))) ⟨_,_,_,rfl,by simp,by simp,by simp,by simp,by simp,by simp,by simp,ab.ai _ _ _,(Tok.nil _ _).beside l (by simp[bt])⟩ ?_
 rintro c0 k _ Z ⟨env,f,a,rfl,E,S,F,n,wo,R3,BR,p,g⟩ K
 have L:=g.cells;apply rn;simp[R3,BR];apply aG.intro<;>intro o<;>simp at o<;>simp[E,S,n,wo,BR,o]
 . obtain⟨i,r⟩:∃i,(aD x)[k]=i:=⟨_,rfl⟩
   have t:=U i (r ▸ ys o);have j:i.toNat<w.fair.az.length:=by omega
   have M:aP w.fair i=w.fair.az[i.toNat]:=by simp[aP,j]
   simp only[r];have u:w.fair.az[i.toNat]?=some w.fair.az[i.toNat]:=zA j;refine⟨t.1,?_⟩;simp[n,p,u]
   have N:((aD x).take (k+1)).map (λi=>bj (aP w.fair i))=((aD x).take k).map (λi=>bj (aP w.fair i))++[bj w.fair.az[i.toNat]]:=by rw[za o,aaq,r,<-M];rfl
   have O:bt a≠some d:=λe=>by obtain⟨_,_,q⟩:=g.aV e;simp_all
   refine⟨?_,?_⟩
   all_goals
    refine aN lay rfl rfl rfl nX rfl nX rfl Ap (by decide) (by simp only[aac,ack,aaI,aaW];omega) (σ0:=f.off a) (es:=((aD x).take k).map λi=>bj (aP w.fair i)) (xs:=[bj w.fair.az[i.toNat]]) (by simpa using g.here.1) (.inr ⟨_,by simp;rfl⟩) λa' P A=>?_
    have G:=A.cells;have T:P d=some (.cells (a::Cf w.fair)):=A.1 _ _ (by rw[ab.dF O];exact p)
    have B:=A.base g.here.2;rw[<-N]at B;apply pg;simp[T,G.1,G.2,aI];apply rn;simp[BR];refine⟨by omega,K _ (by omega) ⟨_,_,a',rfl,by simp[E],by simp[S],by simp[F],by simp[n],by simp[wo],by simp[R3],by simp,ab.ai _ _ _,B.beside l (λe=>by obtain⟨_,_,q⟩:=B.aV e;rw[T]at q;cases q)⟩⟩
 have ek:k=(aD x).length:=by omega
 subst ek;rw[aar]at g;refine cf Tryz.func50 rfl (lN ?_);apply rn;simp
 have H:a.W (kq ((aD x).map (aP w.fair)++(((aD y).take 0).map λc=>(uj w c).lost))):=by simp only[List.take_zero,List.map_nil,aaE];have:=g.W;show a.W (.sl 6 (((aD x).map (aP w.fair)).map bj) .any);rw[adX];exact this
 refine aa.loop (aD y).length (λk s=>∃env f z,s=⟨env,f,[],.no⟩/\env 0=tK fb mb w 0/\env 4=.ref b 0/\env 5=.ref d 0/\env 41=ints (aD y)/\env 42=int (aD y).length/\env 43=int k/\f d=some (.cells (z::Cf w.fair))/\(z.cells=[z]/\z.flat=true)/\z.W (kq ((aD x).map (aP w.fair)++(((aD y).take k).map λc=>(uj w c).lost)))/\(σ.set b (.cells Ji)).Le f) ⟨_,_,a,rfl,by simp[E],by simp[F],by simp[n],by simp,by simp,by simp,p,L,H,g.1⟩ ?_
 rintro Q k _ Z ⟨env,f,z,rfl,E,F,n,I,J,C,p,R,H,D⟩ K
 have qb:f b=some (.cells Ji):=D _ _ (ab.ai _ _ _);apply rn;simp[J,C];apply aG.intro<;>intro o<;>simp at o<;>simp[E,F,n,I,C,p,qb,R.2,o,aI]
 . obtain⟨i,r⟩:∃i,(aD y)[k]=i:=⟨_,rfl⟩
   have t:=V i (r ▸ ys o);have j:i.toNat<w.aj.length:=by omega
   have M:uj w i=w.aj[i.toNat]:=by simp[uj,j]
   simp only[r];have u:w.aj[i.toNat]?=some w.aj[i.toNat]:=zA j;refine⟨t.1,?_⟩;simp[n,p,u]
   have N:((aD y).take (k+1)).map (λc=>(uj w c).lost)=((aD y).take k).map (λc=>(uj w c).lost)++[w.aj[i.toNat].lost]:=by rw[za o,aaq,r,<-M];rfl
   have hW:Wl [AV.agg (z::Cf w.fair),.sl 6 [bj w.aj[i.toNat].lost] .exact] [bF (bs w (aD x) ((aD y).take k)),kq [w.aj[i.toNat].lost]]:=.cons (HL H) (.cons (eZ _ _ _) .nil);refine⟨?_,?_⟩
   all_goals
    refine bp Tryz.func97 rfl rfl hW (Hi (by simp only[aam,aac,ack,aaI,aaW];omega) ?_)
    rw[adr,<-N];apply pg;simp[n,p];apply rn;simp[C];refine⟨by omega,K _ (by omega) ⟨_,_,_,rfl,by simp[E],by simp[F],by simp[n],by simp[I],by simp[J],by simp,ab.ai _ _ _,⟨rfl,rfl⟩,by simp only[List.map_take];exact .refl _,ab.fK D l⟩⟩
 have ek:k=(aD y).length:=by omega
 subst ek;rw[aar]at H;refine .px (HL H) (.less (λc v hv=>?_) (.done h))
 have Q:c≠b:=λe=>by grind
 rw[ab.ah _ _ Q];exact D _ _ (by rw[ab.ah _ _ Q];exact hv)
end CF
def pP(f:Fr)(x y:Int):Int:=jd (((aJ f []).filter (jl x y)).length:Int) (aJ f []).length
def De(n:Int):Nat:=if n=1 then 98 else if n=3 then 241 else 167
abbrev Bt(n:Int):AV:=.ou (De n) (.agg [])
def v8(n:Int):AV:=if n=0 then .lit .nilIface else Bt n
def yk(f:Fr)(es cs:afe)(x:Nat)(N:afe):afe:=(List.range cs.length).foldl (λN y=>N.set (3*(es.getD x 0).toNat+(cs.getD y 0).toNat) (pP f x ((es.length:Int)+y))) N
def Cb(f:Fr)(es cs:afe):afe:=(List.range es.length).foldl (λN x=>yk f es cs x N) (List.replicate 18 0)
abbrev yj(a b:Int)(N:afe):afk:=[.lit (.int .u32 a),.lit (.int .i32 b),.lit (.int .u32 0)]++N.map v8
theorem QY  f   x y :pP f x y≠0:=by unfold pP jd;omega
theorem kT{σ:ab}{b x}(h:σ b=some x):σ.set b x=σ:=by
 funext c;by_cases e:c=b
 . simp_all
 simp[ab.set,e]
theorem QZ  f   es cs   x   N :(yk f es cs x N).length=N.length:=by
 have key:∀(l:aff) (N:afe),(l.foldl (λN y=>N.set (3*(es.getD x 0).toNat+(cs.getD y 0).toNat) (pP f x ((es.length:Int)+y))) N).length=N.length:=λl=>by
  induction l with
  |nil=>simp_all
  |cons a l b=>simp_all
 exact key _ N
theorem Hl{a b c}{N:afe}{i j n}(d:3*i+j<N.length)(f:n≠0):aI (a::b::c::N.map v8) (3+i*3+j) [Bt n]=a::b::c::(N.set (3*i+j) n).map v8:=by
 have e:3+i*3+j=3*i+j+1+1+1:=by omega
 rw[e];generalize 3*i+j=p at d ⊢;unfold aI;simp only[List.take_succ_cons,aaI,aaW,adn,List.drop_succ_cons,List.cons_append];rw[adF,List.set_eq_take_append_cons_drop,Rp (by simp_all)];simp[v8,f]
theorem Q0(Q:m.solo=true){w fb mb bk x y}(K:∀i∈aD x,0<=i/\i<w.fair.az.length)(L:∀i∈aD y,0<=i/\i<w.aj.length)(D:(bs w (aD x) (aD y)).Good)(R:aJ (bs w (aD x) (aD y)) []≠[])(h6:w.fair.az.length<=6/\w.aj.length<=3)
 (hb:σ bk=some (.cells (yj 0 1 (List.replicate 18 0)))) (h:KF (.val (.bL [])) (σ.set bk (.cells (yj 0 1 (Cb (bs w (aD x) (aD y)) (aD x) (aD y)))))):
 aB prog m 114 [.cp (tK fb mb w 0) 0,.cp (.agg [u8 x,u8 y]) 0,.cp (.ref bk 0) 0] σ KF:=by
 have S:=qx x;have T:=qx y;refine fs Yn Tryz.func114 rfl (by kernel_rfl) ?_;simp[Tryz.f114]
 repeat' first
  |refine⟨?_,?_⟩
  | (refine cf Tryz.func59 rfl (CF.QX K L ?_)
     apply pg;simp)
  | (refine cf Tryz.func50 rfl (lN ?_)
     apply pg;simp)
  | (refine nH.intro λd hd=>?_
     simp)
 all_goals
  refine aa.bf 3 (b:=d) (bF (bs w (aD x) (aD y))) (ab.ai _ _ _) (by simp) rfl ?_;rw[dH hd];apply rn;simp;refine aa.loop (aD x).length (λk s=>∃env N,s=⟨env,σ.set bk (.cells (yj 0 1 N)),[],.no⟩/\N.length=18/\N=(List.range k).foldl (λN i=>yk (bs w (aD x) (aD y)) (aD x) (aD y) i N) (List.replicate 18 0)/\env 2=.cp (.ref bk 0) 0/\env 3=.cp (bF (bs w (aD x) (aD y))) 0/\env 4=ints (aD x)/\env 5=ints (aD y)/\env 21=ints (aD x)/\env 22=int (aD x).length/\env 23=int k) ⟨_,List.replicate 18 0,by rw[kT hb],rfl,rfl,by simp⟩ ?_;rintro c0 k _ hk ⟨env,N,rfl,U,p,q,r,u,v,yG,yH,Nd⟩ V;apply rn;simp[yH,Nd];apply aG.intro<;>intro B<;>simp at B<;>simp[v,yG,Nd,B]
  . obtain⟨i,E⟩:∃i,(aD x)[k]=i:=⟨_,rfl⟩
    have W:=K i (E ▸ ys B);have F:(aD x).getD k 0=i:=by simp[zD,B,E]
    refine aa.loop (aD y).length (λj s=>∃env g,s=⟨env,σ.set bk (.cells (yj 0 1 g)),[],.no⟩/\g.length=18/\g=(List.range j).foldl (λN M=>N.set (3*i.toNat+((aD y).getD M 0).toNat) (pP (bs w (aD x) (aD y)) k (((aD x).length:Int)+M))) N/\env 2=.cp (.ref bk 0) 0/\env 3=.cp (bF (bs w (aD x) (aD y))) 0/\env 4=ints (aD x)/\env 5=ints (aD y)/\env 21=ints (aD x)/\env 22=int (aD x).length/\env 23=int k/\env 6=int k/\env 7=int i/\env 28=ints (aD y)/\env 29=int (aD y).length/\env 30=int j) ⟨_,N,rfl,U,rfl,by simp[q,r,u,v,yG,yH,Nd,E]⟩ ?_;rintro c1 j _ hj ⟨env,g,rfl,l,e,q,r,u,v,yG,yH,Nd,O,P,z,A,n⟩ G;apply rn;simp[A,n];apply aG.intro<;>intro C<;>simp at C<;>simp[r,u,Nd,O,z,n,C]
    . obtain⟨c,o⟩:∃c,(aD y)[j]=c:=⟨_,rfl⟩
      have X:=L c (o ▸ ys C);have H:(aD y).getD j 0=c:=by simp[zD,C,o]
      have Y:(bs w (aD x) (aD y)).az.length=(aD x).length+(aD y).length:=by simp
      simp only[o];refine⟨by omega,?_⟩;refine cf Tryz.func22 rfl (S7 (f:=bs w (aD x) (aD y)) Q D.fits D.yl ⟨by omega,by omega⟩ ⟨by omega,by omega⟩ R (Nat.lt_of_le_of_lt (EX D _) (by decide)) ?_);apply rn;simp[q,P];refine⟨by omega,by omega,?_⟩;refine cf Tryz.func115 rfl (Jf (t:=De (pP (bs w (aD x) (aD y)) k (((aD x).length:Int)+j))) rfl ?_);have I:3+i.toNat*3+c.toNat<=20:=by omega
      have J:=λa b d=>Hl (a:=a) (b:=b) (c:=d) (N:=g) (i:=i.toNat) (j:=c.toNat) (by omega) (QY (bs w (aD x) (aD y)) k (((aD x).length:Int)+j))
      apply pg;simp[l,I,J];apply rn;simp[n];simp only[<-List.map_set];refine⟨by omega,G _ (by omega) ⟨_,g.set (3*i.toNat+c.toNat) (pP (bs w (aD x) (aD y)) k (((aD x).length:Int)+j)),rfl,by rw[ada];exact l,?_,by simp[q,r,u,v,yG,yH,Nd,O,P,z,A]⟩⟩;rw[aaB,aaG,<-e];simp only[aaS,List.foldl_nil,H]
    have Z:j=(aD y).length:=by omega
    subst Z;refine⟨by omega,V _ (by omega) ⟨_,g,rfl,l,?_,by simp[q,r,u,v,yG,yH]⟩⟩;rw[aaB,aaG,<-p];simp only[aaS,List.foldl_nil];unfold yk;rw[F];exact e
  have ek:k=(aD x).length:=by omega
  subst ek;refine .done ?_;rw[p];exact h
theorem Uc:FN prog 145 104 165 102 .u8:=.of (by kernel_rfl) (by kernel_rfl) (by kernel_rfl) (by kernel_rfl)
abbrev Bu(w:cC)(p:Int × Int):afe:=Cb (bs w (aD p.1) (aD p.2)) (aD p.1) (aD p.2)
def gh(w:cC)(mb:Nat)(σ:ab):Prop:=∃l,σ mb=some (pG (sC .u8) l)/\∀p a,dP l p=some a->∃bk,a=.ref bk 0/\bk≠mb/\σ bk=some (.cells (yj 1 0 (Bu w p)))
def gV(mb:Nat)(σ σ':ab):Prop:=∀c x,σ c=some x->c≠mb->σ' c=some x
theorem gV.refl  mb   σ :gV mb σ σ:=λ_ _ h _=>h
theorem gV.trans{mb a b c}(h:gV mb a b)(e:gV mb b c):gV mb a c:=λd x q n=>e d x (h d x q n) n
structure cC.Bk(w:cC)  x y :Prop where
 hx:∀i∈aD x,0<=i/\i<w.fair.az.length
 hy:∀i∈aD y,0<=i/\i<w.aj.length
 pw:(bs w (aD x) (aD y)).Good
 some:aJ (bs w (aD x) (aD y)) []≠[]
theorem Jj{l}{p q:Int × Int}{a b}(h:dP (l++[(q,b)]) p=some a):dP l p=some a\/p=q/\a=b:=by
 unfold dP at h ⊢;rw[List.find?_append]at h;cases e:l.find? (λr=>p==r.1)with
 |some r=>simp_all
 |none=>grind
theorem Q1(J:m.solo=true){w fb mb x y}(hb:w.Bk x y)(P:w.fair.az.length<=6/\w.aj.length<=3)(Q:gh w mb σ)
 (h:∀bk σ',gh w mb σ'->gV mb σ σ'->σ' bk=some (.cells (yj 1 0 (Bu w (x,y))))->KF (.val (.ref bk 0)) σ'):aB prog m 81 [tK fb mb w 0,.agg [u8 x,u8 y]] σ KF:=by
 obtain⟨l,s,A⟩:=Q;refine aB.start lay [15] Z' 2 Tryz.func81 rfl rfl (by rfl) (by kernel_rfl) ?_
 simp[Tryz.f81]
 have f:∀{o:Oper}{env:Env}{σ:ab}{K R:aeP},o.op=.lookup 145 (.tmp 9) (.tmp 10) false->env 9=.map mb->env 10=sC .u8 (x,y)->σ mb=some (pG (sC .u8) l)->K ((dP l (x,y)).getD (.lit (.pointer none))) σ->aT prog o env σ K R:=λS T E U F=>zZ lay (Uc.key lay Pl rfl) S Yf T E U F
 have t:dP l (x,y)=none\/∃bk,dP l (x,y)=some (.ref bk 0)/\bk≠mb/\σ bk=some (.cells (yj 1 0 (Bu w (x,y)))):=by
  cases e:dP l (x,y)with
  |none=>simp_all
  |some a=>simp_all
 rcases t with j|⟨bk,j,V,B⟩
 . refine⟨f rfl (by simp) (by simp[sC]) s ?_,?_⟩
   rotate_left
   refine nH.intro λd hd=>?_
   have u:mb≠d:=λe=>by simp_all
   simp;refine f rfl (by simp) (by simp[sC]) (by simp[ab.ah,u,s]) ?_
   rw[j];refine aK.go lay [15] ?_;simp
   rotate_left
   rw[j];refine aK.go lay [15] ?_;simp;refine nH.intro λd hd=>?_
   have u:mb≠d:=λe=>by simp_all
   simp
   all_goals
    refine aa.run lay [15] ?_;simp;refine rD (vx:=.pointer none) (vy:=.pointer none) (r:=.bool true) rfl (λk v g=>by simpa using CY.1 g) (λk v g=>by simpa using CY.1 g) (by kernel_rfl) ?_
    refine aa.run lay [15] ?_;simp;refine bO.intro λbk C=>?_
    obtain⟨W,X,i⟩:=ab.aS C;have D:mb≠bk:=λe=>by rw[<-e,s]at i;cases i
    simp[X,ab.ah];refine tT (Uc.key lay Pl rfl) rfl (b:=mb) (l:=l) (n:=(x,y)) (a:=.ref bk 0) (by simp) (by simp[sC]) (by simp) (by simp[ab.set,u,D,s]) j ?_
    refine aK.go lay [15] ?_;simp;refine aa.bf 5 (b:=d) (.ref bk 0) (by simp[ab.set,zs u]) (by simp) rfl ?_
    refine aa.gN (λe q=>(e 2=.cp (tK fb mb w 0) 0/\e 3=.cp (.agg [u8 x,u8 y]) 0/\e 5=.cp (.ref bk 0) 0)/\q mb=some (pG (sC .u8) (l++[((x,y),.ref bk 0)]))/\q bk=some (.cells (yj 0 0 (List.replicate 18 0)))/\gV mb σ q) ⟨by simp,by simp[ab.set,ab.del,u],by simp[ab.set,ab.del,W,zs D,List.replicate,v8],λc v g z=>?_⟩ ?_
    . have Y:c≠d:=λe=>by rw[e,hd]at g;cases g
      have G:c≠bk:=λe=>by rw[e,i]at g;cases g
      simp[ab.set,ab.del,Y,G,z,g]
    rintro env q ⟨⟨Z,e3,L⟩,q1,q2,M⟩
    refine aa.run lay [15] ?_;simp[Z,e3,L];refine cf Tryz.func113 rfl (E4 J q2 rfl rfl rfl λK F=>fF Tryz.func114 rfl rfl rfl (Q0 J hb.hx hb.hy hb.pw hb.some P (ab.ai _ _ _) (F _ _ (ab.ai _ _ _) rfl rfl rfl ?_)))
    simp only[ab.set_set];refine aa.run lay [15] ?_;simp[L];refine .done (h bk _ ⟨_,(ab.ah _ _ D).trans q1,λp a H=>?_⟩ (λc v g z=>?_) (ab.ai _ _ _))
    . rcases Jj H with H|⟨rfl,rfl⟩
      . obtain⟨N,rfl,O,I⟩:=A _ _ H
        have h3:N≠bk:=λe=>by rw[e,i]at I;cases I
        exact⟨N,rfl,O,(ab.ah _ _ h3).trans (M _ _ I O)⟩
      exact⟨bk,rfl,zs D,ab.ai _ _ _⟩
    have G:c≠bk:=λe=>by rw[e,i]at g;cases g
    exact(ab.ah _ _ G).trans (M _ _ g z)
 refine⟨f rfl (by simp) (by simp[sC]) s ?_,?_⟩
 rotate_left
 refine nH.intro λd hd=>?_
 have u:mb≠d:=λe=>by simp_all
 simp;refine f rfl (by simp) (by simp[sC]) (by simp[ab.ah,u,s]) ?_
 rw[j];refine aK.go lay [15] ?_;simp
 rotate_left
 rw[j];refine aK.go lay [15] ?_;simp;refine nH.intro λd hd=>?_
 simp
 all_goals
  refine aa.bf 5 (b:=d) (.ref bk 0) (ab.ai _ _ _) (by simp) rfl ?_
  rw[dH hd];refine aa.run lay [15] ?_;simp;refine rD (vx:=.pointer (some ⟨bk,0,none⟩)) (vy:=.pointer none) (r:=.bool false) rfl (λk v g=>by simpa using X5.1 g) (λk v g=>by simpa using CY.1 g) (by kernel_rfl) ?_
  refine aa.run lay [15] ?_;simp;refine cf Tryz.func113 rfl (Hj B rfl ?_);refine aa.run lay [15] ?_;simp;exact .done (h bk σ ⟨l,s,A⟩ (.refl mb σ) B)
abbrev kE(w:cC)(h:Int):Int:=aR (dE w h)
abbrev kC(w:cC)(h:Int):Int:=aR (dv w h)
structure cC.Open(w:cC):Prop where
 mT:w.fair.az.length<=6/\w.aj.length<=3
 bk:∀h,w.Bk (kE w h) (kC w h)
def il(w:cC)(h i c:Int):Int:=(Bu w (kE w h,kC w h)).getD (3*i.toNat+c.toNat) 0
theorem M3  f   es cs :(Cb f es cs).length=18:=by
 have key:∀(l:aff) (N:afe),(l.foldl (λN x=>yk f es cs x N) N).length=N.length:=λl=>by
  induction l with
  |nil=>simp_all
  |cons a l b=>exact λN=>(b _).trans (QZ ..)
 exact key _ _
theorem Hm(p:m.solo=true){w fb mb h i c}(b:w.Open)(hi:0<=i/\i<6)(f:0<=c/\c<3)(q:gh w mb σ)(d:∀σ',gh w mb σ'->gV mb σ σ'->KF (.val (Bt (il w h i c))) σ'):aB prog m 46 [tK fb mb w 0,int h,int i,int c] σ KF:=by
 refine fs [] Tryz.func46 rfl (by kernel_rfl) ?_
 simp[Tryz.f46];refine cf Tryz.func49 rfl (CK.B7 b.mT.1 b.mT.2 ?_);apply rn;simp;refine cf Tryz.func81 rfl (Q1 p (b.bk h) b.mT q λbk σ' g j k=>?_)
 have hlen:=M3 (bs w (aD (kE w h)) (aD (kC w h))) (aD (kE w h)) (aD (kC w h));obtain⟨N,l⟩:∃N,N=Bu w (kE w h,kC w h):=⟨_,rfl⟩;have r:N.length=18:=by simp_all
 have s:il w h i c=N.getD (3*i.toNat+c.toNat) 0:=by rw[l];rfl
 rw[<-l]at k
 have a:(AV.lit (.int .u32 1)::.lit (.int .i32 0)::.lit (.int .u32 0)::N.map v8)[3+i.toNat*3+c.toNat]?=some (v8 (il w h i c)):=by
  have e:3+i.toNat*3+c.toNat=3*i.toNat+c.toNat+3:=by omega
  have t:3*i.toNat+c.toNat<N.length:=by omega
  simp_all
 generalize il w h i c=n at d a;apply rn;simp[k,hi.1,hi.2,f.1,f.2,a]
 by_cases o:n=0
 . subst o
   refine er lay rfl Ye rfl (.inl ⟨by simp[v8],rfl⟩) (.inr ⟨rfl,rfl⟩) ?_
   apply rn;simp;exact .done (d σ' g j)
 have e:v8 n=Bt n:=KD o;rw[e];refine er lay rfl Ye rfl (.inr ⟨⟨De n,.agg [],by simp⟩,rfl⟩) (.inr ⟨rfl,rfl⟩) ?_
 apply rn;simp;exact .done (d σ' g j)
def uk(n:Int):Bool:=n==1||n==3
theorem xv{t f:Nat}(h:gg prog (Go.method (prog.types.size+Made.depth) t (.agg #[])  "palfrey/cry.holds")=some (f,.agg #[])):qQ prog t  "palfrey/cry.holds" f (.agg []) (.agg []):=yi λk v b=>by
 cases b with
 | agg c l d e=>
   obtain⟨c⟩:=c
   match c,d with
   |[],_=>exact⟨_,h,.agg _ _ rfl λi v a h=>by simp at h⟩
theorem Hn(h:KF (.val (bool true)) σ):aB prog m 225 [.agg []] σ KF:=by
 refine fs [] Tryz.func225 rfl (by kernel_rfl) ?_;simp[Tryz.f225];exact .done h
theorem Ho(h:KF (.val (bool true)) σ):aB prog m 239 [.agg []] σ KF:=by
 refine fs [] Tryz.func239 rfl (by kernel_rfl) ?_;simp[Tryz.f239];exact .done h
theorem Hp(h:KF (.val (bool false)) σ):aB prog m 226 [.agg []] σ KF:=by
 refine fs [] Tryz.func226 rfl (by kernel_rfl) ?_;simp[Tryz.f226];exact .done h
theorem Q2(b:m.solo=true){w fb mb h i c}(d:w.Open)(hi:0<=i/\i<6)(f:0<=c/\c<3)(g:gh w mb σ)(a:∀σ',gh w mb σ'->gV mb σ σ'->KF (.val (bool (uk (il w h i c)))) σ'):aB prog m 88 [int c,.cp (tK fb mb w 0) 0,.cp (int h) 0,.cp (int i) 0] σ KF:=by
 refine fs [] Tryz.func88 rfl (by kernel_rfl) ?_
 simp[Tryz.f88];refine cf Tryz.func46 rfl (Hm b d hi f g λσ' j k=>?_)
 have a:=a σ' j k;generalize il w h i c=n at a;unfold uk at a
 by_cases l:n=1
 . subst l
   apply rn;simp;refine aa.invoke rfl rfl rfl (by simp) rfl (xv (by kernel_rfl)) Tryz.func225 rfl rfl (Hn ?_)
   apply rn;simp;exact .done a
 by_cases o:n=3
 . subst o
   apply rn;simp;refine aa.invoke rfl rfl rfl (by simp) rfl (xv (by kernel_rfl)) Tryz.func239 rfl rfl (Ho ?_)
   apply rn;simp;exact .done a
 have e:Bt n=.ou 167 (.agg []):=by unfold Bt De;simp_all
 rw[e];apply rn;simp;refine aa.invoke rfl rfl rfl (by simp) rfl (xv (by kernel_rfl)) Tryz.func226 rfl rfl (Hp ?_)
 apply rn;simp;rw[show(n==1)=false by simp_all,show(n==3)=false by simp_all]at a
 exact .done a
theorem wh{σ0 σ σ2 a kk es}(h:Tok σ0 σ a kk es)(d:∀b e,σ b=some (.tail e)->σ2 b=some (.tail e)):Tok (σ2.off a) σ2 a kk es:=by
 rcases h.2 with⟨rfl,rfl⟩|rfl|⟨b,e,_,rfl,f⟩
 . exact⟨ab.le_refl _,.inl ⟨rfl,rfl⟩⟩
 . exact⟨ab.le_refl _,.inr (.inl rfl)⟩
 refine⟨λc x g=>?_,.inr (.inr ⟨b,e,by simp[ab.off,bt,ab.del],rfl,d b e f⟩)⟩;simp only[ab.off,bt,ab.del]at g
 simp_all
structure YL(I:afi)  mb :Prop where
 le:∀{σ σ'},I σ->(∀c x,σ c=some x->(∀e,x≠.tail e)->σ' c=some x)->I σ'
 mb:∀{σ},I σ->∀e,σ mb≠some (.tail e)
theorem Jk{σ0 σ a kk es}(h:Tok σ0 σ a kk es){c x}(b:σ c=some x)(d:∀e,x≠.tail e):(σ.off a) c=some x:=by
 rw[ab.dF λe=>?_]
 . exact b
 obtain⟨_,n,q⟩:=h.aV e
 grind
theorem Ud{I mb}(z:YL I mb){f l p}(T:l.length<=1000)(A:f.flat=true)
 (P:∀x∈l,∀  σ   K ,I σ->(∀σ',I σ'->gV mb σ σ'->K (.val (bool (p x))) σ')->cL prog m f [int x] σ K)
 (Q:I σ) (h:∀σ',I σ'->gV mb σ σ'->KF (.val (ints (l.filter p))) σ'):aB prog m 79 [.agg [f],ints l] σ KF:=by
 refine fs [] Tryz.func79 rfl (by kernel_rfl) ?_
 simp[Tryz.f79];refine⟨A,?_⟩;refine aa.loop l.length (λk s=>∃env σ' a,s=⟨env,σ',[],.no⟩/\env 2=.cp (.agg [f]) 0/\env 8=ints l/\env 9=int l.length/\env 10=int k/\env 5=a/\I σ'/\Tok (σ'.off a) σ' a 1 (((l.take k).filter p).map int)/\gV mb σ (σ'.off a)) ?_ ?_
 . refine⟨_,σ,AV.nil,rfl,?_,?_,?_,?_,?_,Q,Tok.nil σ 1,gV.refl mb σ⟩<;>simp
 rintro U k _ V ⟨env,σ',a,rfl,B,C,D,cu,v,E,d,hb⟩ L
 apply rn;simp[D,cu];apply aG.intro<;>intro w<;>simp at w<;>simp[B,C,cu,v,w]
 . have F:(l.take (k+1)).filter p=(l.take k).filter p++if p l[k]then[l[k]]else[]:=by
    rw[za w,aca]
    grind
   have R:((l.take k).filter p).length<=k:=aap (aaN _ _) (by grind)
   refine P _ (ys w) _ _ E λσ2 M j=>?_
   have o:=wh d (σ2:=σ2) (λb e r=>j b _ r λq=>z.mb E e (q ▸ r))
   have g:gV mb σ (σ2.off a):=λc x i y=>by
    have N:=hb c x i y;have G:bt a≠some c:=λe=>by obtain⟨n,_⟩:=d.aV e;grind
    rw[ab.dF G]at N ⊢;exact j c x N y
   apply rn;simp;cases O:p l[k]
   . rw[O,KD (by simp),aaE]at F
     simp[cu];refine⟨by omega,L _ (by omega) ⟨_,σ2,a,rfl,?_,?_,?_,?_,?_,M,by grind,g⟩⟩<;>simp[B,C,D,v]
   rw[O,Rp rfl]at F;simp[v];refine aN lay rfl rfl rfl cK rfl cK rfl pQ (by decide) (by grind) (σ0:=σ2.off a) (es:=((l.take k).filter p).map int) (xs:=[int l[k]]) (by simpa[v]using o) (.inr ⟨_,by simp;rfl⟩) λS H t=>?_
   apply rn;simp[cu];have u:=t.here;refine⟨by omega,L _ (by omega) ⟨_,H,S,rfl,?_,?_,?_,?_,?_,z.le M λc x i J=>t.1 _ _ (Jk o i J),by rw[F,aaq];exact u.1,λc x i y=>u.2 _ _ (g c x i y)⟩⟩<;>simp[B,C,D]
 have ek:k=l.length:=by omega
 subst ek;rw[aar]at d;refine .px d.W (.less d.1 (.done (h _ (z.le E λc x i J=>Jk d i J) hb)))
theorem uK  w   mb :YL (gh w mb) mb where
 le h hk:=by
  obtain⟨l,b,c⟩:=h;refine⟨l,hk _ _ b (by simp[pG]),λp a d=>?_⟩
  grind
 mb h e q:=by obtain⟨l,b,_⟩:=h;rw[b]at q;simp[pG]at q
theorem uO{n x}(h:x∈m8 n):0<=x/\x<n:=by grind
theorem mU  n :(m8 n).length=n:=by grind
def qE(w:cC)(h i:Int):afe:=(m8 w.aj.length).filter λc=>uk (il w h i c)
def ot(w:cC)(h:Int):afe:=(m8 w.fair.az.length).filter λi=>decide (0<(qE w h i).length)
theorem Dl(c:m.solo=true){w fb mb h i}(b:w.Open)(hi:0<=i/\i<6)(d:gh w mb σ)(a:∀σ',gh w mb σ'->gV mb σ σ'->KF (.val (ints (qE w h i))) σ'):aB prog m 51 [tK fb mb w 0,int h,int i] σ KF:=by
 have j:=b.mT.2;refine fs [] Tryz.func51 rfl (by kernel_rfl) ?_;simp[Tryz.f51];refine cf Tryz.func74 rfl (xu (by omega) ?_);apply rn;simp;refine cf Tryz.func79 rfl (Ud (uK w mb) (by grind) rfl (λx k σ K e a=>fF Tryz.func88 rfl rfl rfl (Q2 c b hi (by grind) e a)) d λσ' f g=>?_);apply rn;simp;exact .done (a σ' f g)
theorem Q3(a:m.solo=true){w fb mb h i}(b:w.Open)(hi:0<=i/\i<6)(c:gh w mb σ)(d:∀σ',gh w mb σ'->gV mb σ σ'->KF (.val (bool (decide (0<(qE w h i).length)))) σ'):aB prog m 80 [int i,.cp (tK fb mb w 0) 0,.cp (int h) 0] σ KF:=by
 refine fs [] Tryz.func80 rfl (by kernel_rfl) ?_;simp[Tryz.f80];refine cf Tryz.func51 rfl (Dl a b hi c λσ' e f=>?_);apply rn;simp;refine .done ?_
 simp_all
theorem Bv(c:m.solo=true){w fb mb h}(b:w.Open)(d:gh w mb σ)(a:∀σ',gh w mb σ'->gV mb σ σ'->KF (.val (ints (ot w h))) σ'):aB prog m 45 [tK fb mb w 0,int h] σ KF:=by
 have i:=b.mT.1;refine fs [] Tryz.func45 rfl (by kernel_rfl) ?_;simp[Tryz.f45];refine cf Tryz.func74 rfl (xu (by omega) ?_);apply rn;simp;refine cf Tryz.func79 rfl (Ud (uK w mb) (by grind) rfl (λx j σ K e a=>fF Tryz.func80 rfl rfl rfl (Q3 c b (by grind) e a)) d λσ' f g=>?_);apply rn;simp;exact .done (a σ' f g)
theorem MY.yW{σ σ' fb mb w}(h:MY σ fb mb w σ'):gh w mb σ':=⟨[],by rw[h.eq,ab.ah _ _ (zs h.ne),ab.ai],λp a b=>by simp[dP]at b⟩
theorem MY.less{σ σ' σ2 fb mb w}(h:MY σ fb mb w σ')(hb:gV mb σ' σ2):σ.Le σ2:=λc x a=>by
 have d:c≠fb:=λe=>by rw[e,h.f0]at a;cases a
 have b:c≠mb:=λe=>by rw[e,h.m0]at a;cases a
 exact hb c x (by rw[h.eq,ab.ah _ _ d,ab.ah _ _ b];exact a) b
abbrev mz:AV:=.lit (.slice none 0 0)
theorem Rk{a b c d a' b' c' d'}(e:a.W a')(f:b.W b')(g:c.W c')(h:d.W d'):Wl [a,b,c,d] [a',b',c',d']:=.cons e (.cons f (.cons g (.cons h .nil)))
theorem ja(e:m.solo=true){w}(f:w.pv){c:Nat}(h:c<3)(i:dI w [] [] [(c:Int)]=0)(b:if 72<ba w c then KF (.val (.bL [int 0,int 11])) σ else KF (.val (.bL [int (ba w c),int 0])) σ):aB prog m 15 [bS w,int c] σ KF:=by
 have j:Wl [bS w,mz,mz,.sl 1 [int c] .exact] [bS w,ints [],ints [],ints [(c:Int)]]:=Rk (.refl _) (dR 1) (dR 1) (eZ 1 _ _);refine fs [] Tryz.func15 rfl (by kernel_rfl) ?_;simp[Tryz.f15];refine bp Tryz.func41 rfl rfl j (jz e f (by simp) (λq=>absurd i q) λ_ d fb mb k=>?_);have a:=k.less (.refl mb d);apply rn;simp;refine cf Tryz.func42 rfl (oU h ?_);split at b
 . next g=>rw[Rp g];apply rn;simp;refine cf Tryz.func43 rfl (Kx ?_);apply rn;simp;exact .less a (.done b)
 next g=>
 rw[KD g];apply rn;simp;refine cf Tryz.func43 rfl (QV ?_);apply rn;simp;exact .less a (.done b)
theorem Q4(a:m.solo=true){w}(f:w.pv)(g:w.Open){h}(b:dI w [h] [] []≠0->KF (.val (.bL [mz,int (dI w [h] [] [])])) σ)(i:dI w [h] [] []=0->KF (.val (.bL [ints (ot w h),int 0])) σ):aB prog m 17 [bS w,int h] σ KF:=by
 have j:Wl [bS w,.sl 1 [int h] .exact,mz,mz] [bS w,ints [h],ints [],ints []]:=Rk (.refl _) (eZ 1 _ _) (dR 1) (dR 1);obtain⟨e,k⟩:∃e,e=dI w [h] [] []:=⟨_,rfl⟩;refine fs [] Tryz.func17 rfl (by kernel_rfl) ?_;simp[Tryz.f17];refine bp Tryz.func41 rfl rfl j (jz a f (by simp) (λq=>?_) λq l fb mb c=>?_)
 . rw[<-k]at q b ⊢
   have d:(e !=0)=true:=by grind
   apply rn;simp[d];exact .done (b q)
 apply rn;simp;refine cf Tryz.func45 rfl (Bv a g c.yW λn d o=>?_);apply rn;simp;exact .less (c.less o) (.done (i q))
def sP(w:cC)(h i:Int):Bool:=decide (0<(qE w h i).length)
def bZ(w:cC)(i:Int):Nat->Int × List (Int × Int)
 |0=>(1048576,[])
 |h+1=>if(h:Int)<=72/\sP w h i=true then(if(h:Int)<(bZ w i h).1 then(h:Int)else(bZ w i h).1,(bZ w i h).2)else if(bZ w i h).1<1048576 then(1048576,(bZ w i h).2++[((bZ w i h).1,(h:Int)-1)])else(1048576,(bZ w i h).2)
def cR(w:cC)(i:Int):aeI:=(bZ w i 74).2
abbrev mK(r:Int × Int):AV:=.agg [int r.1,int r.2]
theorem E5  w   i :∀h ,0<=(bZ w i h).1/\(bZ w i h).1<=1048576
 |0=>by simp[bZ]
 | h+1=>by
   have:=E5 w i h;unfold bZ
   grind
theorem Hq  w   i :∀d h ,(bZ w i h).2 <+: (bZ w i (h+d)).2
 |0,h=>List.prefix_refl _
 | d+1,h=>by
   refine(Hq w i d h).trans ?_;show _ <+: (bZ w i ((h+d)+1)).2
   conv=>rhs;unfold bZ
   grind
theorem Ky{w i h}(d:h<74){r}(b:(bZ w i (h+1)).2=(bZ w i h).2++[r]):∃f ,(cR w i)[(bZ w i h).2.length]=r:=by
 have a:=Hq w i (73-h) (h+1);rw[show h+1+(73-h)=74 by omega,b]at a;obtain⟨t,c⟩:=a;have e:cR w i=(bZ w i h).2++[r]++t:=c.symm
 grind
theorem Df(C:m.solo=true){w fb mb i}(D:w.Open)(hi:0<=i/\i<6){y}{I:Nat->afi}(E:y.cells=[y]/\y.flat=true)
 (t:∀k σ σ',I k σ->gV mb σ σ'->gh w mb σ'->I k σ') (hb:∀k σ,I k σ->gh w mb σ)
 (B:∀k  F   σ   K ,I k σ->(∀σ',I (k+1) σ'->K (.val (bool true)) σ')->cL prog m y [mK (cR w i)[k]] σ K)
 (G:I 0 σ) (h:∀σ',I (cR w i).length σ'->KF (.val (.bL [])) σ'):aB prog m 92 [y,.cp (tK fb mb w 0) 0,.cp (int i) 0] σ KF:=by
 refine fs [] Tryz.func92 rfl (by kernel_rfl) ?_
 simp[Tryz.f92];refine aa.loop 74 (λk s=>∃env σ',s=⟨env,σ',[],.no⟩/\env 0=y/\env 1=.cp (tK fb mb w 0) 0/\env 2=.cp (int i) 0/\env 4=int (bZ w i k).1/\env 7=int k/\I (bZ w i k).2.length σ') ⟨_,_,rfl,by simp,by simp,by simp,by simp[bZ],by simp,G⟩ ?_
 rintro N k _ F ⟨env,σ',rfl,c,j,l,r,d,n⟩ o
 have H:=E5 w i k;apply rn;simp[d];apply aG.intro<;>intro p<;>simp at p<;>simp[d,p]
 . have p:k<74:=by omega
   refine tL.intro (λu=>?_) (λu=>?_)<;>(try simp[-Int.not_lt,-Int.not_le]at u)<;>(try simp[j,l,r,u])
   . refine cf Tryz.func51 rfl (Dl C D hi (hb _ _ n) λJ L M=>?_)
     have n:=t _ _ _ n M L;apply rn;simp;apply aG.intro<;>intro v<;>simp at v<;>simp[r,d,v]
     . have b:bZ w i (k+1)=(if (k:Int)<(bZ w i k).1 then (k:Int)else (bZ w i k).1,(bZ w i k).2):=by
        conv=>lhs;unfold bZ
        rw[Rp ⟨by omega,by unfold sP;simp_all⟩]
       refine⟨by omega,o _ (by omega) ⟨_,_,rfl,by simp[c],by simp[j],by simp[l],by rw[b];simp,by simp,by grind⟩⟩
     have x:¬((k:Int)<=72/\sP w k i=true):=λq=>by have:=q.2;simp[sP,v]at this
     refine tL.intro (λe=>?_) (λe=>?_)<;>(try simp[-Int.not_lt,-Int.not_le]at e)<;>(try simp[c,r,d,e])
     . have b:bZ w i (k+1)=(1048576,(bZ w i k).2++[((bZ w i k).1,(k:Int)-1)]):=by
        conv=>lhs;unfold bZ
        grind
       obtain⟨z,f⟩:=Ky (w:=w) (i:=i) p (by rw[b])
       have a:=B _ z;rw[f]at a;refine⟨by omega,?_⟩
       refine a _ _ n λg A=>?_
       apply rn;simp[d];refine⟨by omega,o _ (by omega) ⟨_,g,rfl,by simp[c],by simp[j],by simp[l],by rw[b];simp,by simp,by grind⟩⟩
     have b:bZ w i (k+1)=(1048576,(bZ w i k).2):=by
      conv=>lhs;unfold bZ
      grind
     refine⟨by omega,o _ (by omega) ⟨_,_,rfl,?_,?_,?_,by simp_all,?_,by simp_all⟩⟩<;>simp[c,j,l]
   have x:¬((k:Int)<=72/\sP w k i=true):=λq=>by omega
   refine tL.intro (λe=>?_) (λe=>?_)<;>(try simp[-Int.not_lt,-Int.not_le]at e)<;>(try simp[c,r,d,e])
   . have b:bZ w i (k+1)=(1048576,(bZ w i k).2++[((bZ w i k).1,(k:Int)-1)]):=by
      conv=>lhs;unfold bZ
      grind
     obtain⟨z,f⟩:=Ky (w:=w) (i:=i) p (by rw[b])
     have a:=B _ z;rw[f]at a;refine⟨by omega,?_⟩
     refine a _ _ n λg A=>?_
     apply rn;simp[d];refine⟨by omega,o _ (by omega) ⟨_,g,rfl,?_,?_,?_,by simp_all,?_,by simp_all⟩⟩<;>simp[c,j,l]
   have b:bZ w i (k+1)=(1048576,(bZ w i k).2):=by
    conv=>lhs;unfold bZ
    grind
   refine⟨by omega,o _ (by omega) ⟨_,_,rfl,?_,?_,?_,by simp_all,?_,by simp_all⟩⟩<;>simp[c,j,l]
 have ek:k=74:=by omega
 subst ek;exact .done (h _ n)
abbrev E6(fb mb:Nat)(w:cC)(i:Int):AV:=.fn (.func 92) [] [.cp (tK fb mb w 0) 0,.cp (int i) 0]
theorem Dg{w fb mb i}(h:KF (.val (E6 fb mb w i)) σ):aB prog m 56 [tK fb mb w 0,int i] σ KF:=by
 refine fs [] Tryz.func56 rfl (by kernel_rfl) ?_;simp[Tryz.f56];exact .done h
theorem tH  w   i :∀h ,(bZ w i h).2.length<=h
 |0=>by simp[bZ]
 | h+1=>by
   have:=tH w i h;unfold bZ
   grind
theorem gh.mono{w mb σ σ'}(h:gh w mb σ)(b:∀d x,σ d=some x->(∀e,x≠.tail e)->(∀a,x≠.cells [a])->(∀y,x≠.loop y)->(∀o,x≠.raw o)->σ' d=some x):gh w mb σ':=by
 obtain⟨l,c,f⟩:=h;refine⟨l,b _ _ c (by simp[pG]) (by simp[pG]) (by simp[pG]) (by simp[pG]),λp a g=>?_⟩
 grind
abbrev rN(l:aeI):AV:=.sl 2 (l.map mK) .any
theorem B3(Q:m.solo=true){w fb mb i}(hO:w.Open)(hi:0<=i/\i<6)(hB:gh w mb σ)(h:∀σ',gh w mb σ'->gV mb σ σ'->KF (.val (rN (cR w i))) σ'):aB prog m 98 [mz,E6 fb mb w i] σ KF:=by
 have hlen:=tH w i 74;refine aB.start lay [2] [] 2 Tryz.func98 rfl rfl (by rfl) (by kernel_rfl) ?_
 simp[Tryz.f98];refine bO.intro λc hc=>?_
 simp;refine aa.rangeFunc rfl λR r l S T s=>?_
 obtain⟨r1,r2,S⟩:=ab.aS S;obtain⟨B,l2,T⟩:=ab.aS T;generalize C:zu.mk _ _ _ _ _ _ _ _ _=al;have nm:∀d,σ d=none->d≠mb:=λd hd e=>by obtain⟨x,q,_⟩:=hB;simp_all
 have cm:=nm c hc;have lm:=nm l T;have rm:=nm r S;refine fF Tryz.func92 rfl rfl rfl (Df Q hO hi (y:=.fn (.yield l) [] []) (I:=λk σ'=>gh w mb σ'/\σ' l=some (.loop al)/\σ' r=some (.raw (.deferred (some [])))/\∃a,σ' c=some (.cells [a])/\Tok (σ'.off a) σ' a 2 (((cR w i).take k).map mK)/\gV mb σ (σ'.off a)) ⟨rfl,rfl⟩ ?_ ?_ ?_ ?_ ?_)
 . rintro k f ad ⟨D,z,E,a,F,g,G⟩ t U
   refine⟨U,t _ _ z lm,t _ _ E rm,a,t _ _ F cm,wh g λb e o=>t b _ o λq=>(uK w mb).mb D e (q ▸ o),λd x H hd=>?_⟩
   have J:=G d x H hd;have V:bt a≠some d:=λe=>by obtain⟨n,_⟩:=g.aV e;simp_all
   rw[ab.dF V]at J ⊢;exact t _ _ J hd
 . simp_all
 . rintro k t f K ⟨D,z,E,a,F,g,G⟩ hK
   have Y:=g.cells;subst C;refine cL.zX (hold:=[]) R Tryz.func98 z rfl ?_;apply rn;simp[pD];refine bO.intro λq hq=>?_
   simp
   change aa _ _ _ _ _ _ _ _ _
   refine aa.runN lay [] 1 ?_;simp
   change aa _ _ _ _ _ _ _ _ _
   refine aa.bf 5 (b:=q) (mK (cR w i)[k]) (ab.ai _ _ _) (by simp) rfl ?_
   rw[dH hq];refine aa.beginRound z rfl ?_;have cl:∀x,(f.set l x) c=some (.cells [a]):=λx=>(ab.ah _ _ (zs B)).trans F
   apply rn;simp[cl];have H:∀X,Tok ((f.set l X).off a) (f.set l X) a 2 (((cR w i).take k).map mK):=λX=>wh g λb e o=>(ab.ah _ _ (λq=>by simp_all)).trans o
   have Q:((cR w i).take (k+1)).map mK=((cR w i).take k).map mK++[mK (cR w i)[k]]:=by rw[za t,aaq];rfl
   refine aN lay rfl rfl rfl Yd rfl Yd rfl Z2 (by decide) (by simp only[aac,ack,aaI,aaW];unfold cR;omega) (es:=((cR w i).take k).map mK) (xs:=[mK (cR w i)[k]]) (H _) (.inr ⟨_,by simp;rfl⟩) λZ u j=>?_
   rw[<-Q]at j;have L:=j.cells;have a7:bt a≠some c:=λe=>by obtain⟨_,_,q⟩:=g.aV e;simp_all
   have t3:u c=some (.cells [a]):=j.1 _ _ (by rw[ab.dF a7];exact cl _)
   have a8:bt a≠some l:=λe=>by obtain⟨_,_,q⟩:=g.aV e;simp_all
   have t4:=λ(X:uq) (hX:((f.set l X).off a).Le u)=>hX l X (by rw[ab.dF a8];simp_all)
   have t4:=t4 _ j.1;refine aa.run lay [2] ?_;simp[t3,L.1,L.2,aI];refine⟨rfl,rfl,_,(ab.ah _ _ B).trans t4,?_⟩
   have M:∀X d x,d≠l->d≠c->bt a≠some d->f d=some x->((u.set c (.cells [Z])).set l X) d=some x:=λX d x d1 d2 d3 hd=>by rw[ab.ah _ _ d1,ab.ah _ _ d2];exact j.1 _ _ (by rw[ab.dF d3,ab.ah _ _ d1];exact hd)
   refine hK _ ⟨D.mono λd x hd O h2 h3 _=>M _ d x (λe=>by grind) (λe=>by grind) (λe=>by obtain⟨_,_,q⟩:=g.aV e;grind) hd,ab.ai _ _ _,M _ r _ s r1 (λe=>by obtain⟨_,_,q⟩:=g.aV e;simp_all) E,Z,(ab.ah _ _ (zs B)).trans (ab.ai _ _ _),wh j λb e o=>?_,λd x H hd=>?_⟩
   . have v:b≠l:=λq=>by grind
     have A:b≠c:=λq=>by grind
     rw[ab.ah _ _ v];exact(ab.ah _ _ A).trans o
   have v:d≠l:=λq=>by grind
   have A:d≠c:=λq=>by grind
   have J:=G d x H hd;have P:bt a≠some d:=λe=>by obtain⟨n,_⟩:=g.aV e;grind
   rw[ab.dF P]at J
   have n4:bt Z≠some d:=λe=>by obtain⟨n,_⟩:=j.aV e;rw[ab.dF P,ab.ah _ _ v,J]at n;cases n
   rw[ab.dF n4]
   grind
 . have N:∀d x,σ d=some x->(((σ.set c (.cells [mz])).set r (.raw (.deferred (some [])))).set l (.loop al)) d=some x:=λd x hd=>by
    have v:d≠l:=λq=>by simp_all
    have A:d≠r:=λq=>by simp_all
    have P:d≠c:=λq=>by simp_all
    rw[ab.ah _ _ v,ab.ah _ _ A,ab.ah _ _ P];exact hd
   exact⟨hB.mono λd x hd _ _ _ _=>N d x hd,ab.ai _ _ _,(ab.ah _ _ s).trans (ab.ai _ _ _),AV.nil,(ab.ah _ _ (zs B)).trans ((ab.ah _ _ (zs r1)).trans (ab.ai _ _ _)),Tok.nil _ 2,λd x hd _=>N d x hd⟩
 rintro f ⟨D,z,E,a,F,g,G⟩
 have Y:=g.cells;rw[aar]at g;subst C;refine⟨_,z,by simp,rfl,?_⟩
 have a9:(f.del l) c=some (.cells [a]):=by simp only[ab.del,zs B,aao];exact F
 refine aa.run lay [2] ?_;simp[a9];refine⟨by simp only[ab.del,s,aao];exact E,?_⟩
 have p:∀{d x},d≠l->d≠r->(f.off a) d=some x->(((f.off a).del l).del r) d=some x:=λO h2 h3=>by simp only[ab.del,O,h2,aao];exact h3
 refine .px g.W (.less (λd x hd=>?_) (.done (h (((f.off a).del l).del r) (D.mono λd x hd O h2 h3 h4=>p (λe=>by grind) (λe=>by grind) (Jk g hd O)) λd x hd hm=>p (λq=>by simp_all) (λq=>by simp_all) (G d x hd hm))))
 simp only[ab.del]at hd;split at hd
 . cases hd
 next v=>
 split at hd
 . cases hd
 next A=>
 rw[ab.ah _ _ v];simp only[ab.del,A,aao];exact ab.Uz hd
theorem Hr(a:m.solo=true){w fb mb i}(b:w.Open)(hi:0<=i/\i<6)(c:gh w mb σ)(h:∀σ',gh w mb σ'->gV mb σ σ'->KF (.val (rN (cR w i))) σ'):aB prog m 67 [E6 fb mb w i] σ KF:=by
 refine fs [] Tryz.func67 rfl (by kernel_rfl) ?_;simp[Tryz.f67];refine cf Tryz.func98 rfl (B3 a b hi c λσ' d e=>?_);apply rn;simp;exact .done (h σ' d e)
theorem M4(a:m.solo=true){w}(f:w.pv)(g:w.Open){i}(hi:0<=i/\i<6)(b:dI w [] [i] []≠0->KF (.val (.bL [mz,int (dI w [] [i] [])])) σ)(h:dI w [] [i] []=0->KF (.val (.bL [rN (cR w i),int 0])) σ):aB prog m 38 [bS w,int i] σ KF:=by
 have j:Wl [bS w,mz,.sl 1 [int i] .exact,mz] [bS w,ints [],ints [i],ints []]:=Rk (.refl _) (dR 1) (eZ 1 _ _) (dR 1);obtain⟨e,k⟩:∃e,e=dI w [] [i] []:=⟨_,rfl⟩;refine fs [] Tryz.func38 rfl (by kernel_rfl) ?_;simp[Tryz.f38];refine bp Tryz.func41 rfl rfl j (jz a f (by simp) (λq=>?_) λq l fb mb c=>?_)
 . rw[<-k]at q b ⊢
   have d:(e !=0)=true:=by grind
   apply rn;simp[d];exact .done (b q)
 apply rn;simp;refine cf Tryz.func56 rfl (Dg ?_);apply rn;simp;refine cf Tryz.func67 rfl (Hr a g hi c.yW λn d o=>?_);apply rn;simp;exact .less (c.less o) (.done (h q))
def wi(l:aeI):Int:=l.foldl (λn r=>n+(r.2-r.1+1)) 0
def iB(w:cC)(k:Nat):Int:=(List.range k).foldl (λ(n:Int) (i:Nat)=>n+wi (cR w (i:Int))) 0
theorem ta  w   i :∀h ,h<=74->∀r∈(bZ w i h).2,(0<=r.1/\r.1<=1048576)/\-1<=r.2/\r.2<=73
 |0,_,r,a=>by simp[bZ]at a
 | h + 1,b,r,a=>by
   have:=E5 w i h;unfold bZ at a;split at a
   . exact ta w i h (by omega) r a
   split at a
   . rcases aan.1 a with a|a
     . exact ta w i h (by omega) r a
     grind
   exact ta w i h (by omega) r a
theorem M5  l   r :wi (l++[r])=wi l+(r.2-r.1+1):=by unfold wi;simp_all
theorem Kz{l}(a:∀r∈l,(0<=r.1/\r.1<=1048576)/\-1<=r.2/\r.2<=73):-(2000000*(l.length:Int))<=wi l/\wi l<=2000000*l.length:=by
 have key:∀(l:aeI) (n:Int),(∀r∈l,(0<=r.1/\r.1<=1048576)/\-1<=r.2/\r.2<=73)->n-2000000*l.length<=l.foldl (λn r=>n+(r.2-r.1+1)) n/\l.foldl (λn r=>n+(r.2-r.1+1)) n<=n+2000000*l.length:=λl=>by
  induction l with
  |nil=>simp_all
  | cons r l b=>
    intro n h;have d:=h r (by simp);have e:=b (n+(r.2-r.1+1)) λx c=>h x (by simp[c])
    grind
 have:=key l 0 a;unfold wi;omega
theorem Ht  w :∀k:Nat,-(200000000*(k:Int))<=iB w k/\iB w k<=200000000*k
 |0=>by simp[iB]
 | k+1=>by
   have a:=Ht w k;have b:=Kz (ta w k 74 (by omega))
   have c:=tH w k 74;have e:iB w (k+1)=iB w k+wi (cR w k):=by unfold iB;rw[aaB,aaG];rfl
   rw[e];unfold cR;omega
theorem Dh{P}(L:jq P){rs env a}:∀(ds:aff)  σ ,ds.Nodup->(∀r∈ds,σ r=some (.raw (.deferred (some []))))->(∀σ',(∀d,d∉ds->σ' d=σ d)->Nb L m rs env KF [] a σ')->Nb L m rs env KF (ds.map .mark) a σ
 |[],σ,_,_,h=>h σ λ_ _=>rfl
 | r ::ds,σ,b,c,h=>⟨c r (by simp),Dh L ds _ (aaZ.1 b).2 (λd hd=>by
     have n:d≠r:=λe=>(aaZ.1 b).1 (by simp_all)
     rw[ab.ah _ _ n]
     simp_all) λσ' f=>h σ' λd hd=>by
     have n:d≠r:=λe=>hd (by simp[e])
     rw[f d λq=>hd (by simp[q]),ab.ah _ _ n]⟩
theorem wZ(hs:m.solo=true){w}(hw:w.pv)(hO:w.Open)(he:dI w [] [] []=0)(hK:KF (.val (.bL [int (iB w w.fair.az.length),int 0])) σ):aB prog m 30 [bS w] σ KF:=by
 have hW:Wl [bS w,mz,mz,mz] [bS w,ints [],ints [],ints []]:=Rk (.refl _) (dR 1) (dR 1) (dR 1);have h6:=hO.mT.1;refine fs [] Tryz.func30 rfl (by kernel_rfl) ?_
 simp[Tryz.f30];refine bp Tryz.func41 rfl rfl hW (jz hs hw (by simp) (λq=>absurd he q) λq o fb mb v=>?_)
 have E:=v.yW;have F:∀d,o d=none->d≠mb:=λd hd e=>by obtain⟨x,q,_⟩:=E;simp_all
 apply rn;simp;refine bO.intro λc hc=>?_
 simp;have cm:=F c hc;refine aa.loop w.fair.az.length (λk s=>∃env a ds,s=⟨env,a,List.map zv.mark ds,.no⟩/\(env 1=.cp (bS w) 0/\env 4=tK fb mb w 0/\env 6=.ref c 0/\env 20=int w.fair.az.length/\env 21=int k)/\gh w mb a/\a c=some (.cells [int (iB w k)])/\ds.Nodup/\(∀r∈ds,a r=some (.raw (.deferred (some [])))/\o r=none)/\gV mb o a) ⟨_,_,[],rfl,by simp,E.mono λd x hd _ _ _ _=>(ab.ah _ _ λe=>by simp_all).trans hd,ab.ai _ _ _,by simp,by simp,λd x hd _=>(ab.ah _ _ λe=>by simp_all).trans hd⟩ ?_
 rintro c0 k _ P ⟨env,a,ds,rfl,⟨e1,e4,U,BR,yG⟩,hB,G,H,z,A⟩ ih
 apply rn;simp[BR,yG];apply aG.intro<;>intro g1<;>simp at g1<;>simp[e4,U,yG,g1,G]
 . refine cf Tryz.func56 rfl (Dg ?_)
   apply rn;simp;refine aa.rangeFunc rfl λV r l Q R B=>?_
   change a r=none at Q
   change a l=none at R
   have nm:∀d,a d=none->d≠mb:=λd hd e=>by obtain⟨x,q,_⟩:=hB;grind
   have lm:=nm l R;have rm:=nm r Q;have lc:l≠c:=λe=>by grind
   have rc:r≠c:=λe=>by grind
   have J:=ta w k 74 (by omega)
   have hlen:=tH w k 74;have ax:=Ht w k
   have W:o r=none:=by
    cases e:o r with
    |none=>rfl
    |some x=>have:=A r x e rm;grind
   have a7:iB w (k+1)=iB w k+wi (cR w k):=by unfold iB;rw[aaB,aaG];rfl
   generalize L:zu.mk _ _ _ _ _ _ _ _ _=al;refine fF Tryz.func92 rfl rfl rfl (Df hs hO (i:=(k:Int)) (by omega) (y:=.fn (.yield l) [] []) (I:=λj f=>gh w mb f/\f l=some (.loop al)/\f c=some (.cells [int (iB w k+wi ((cR w k).take j))])/\∀d x,(a.set r (.raw (.deferred (some [])))) d=some x->d≠mb->d≠c->f d=some x) ⟨rfl,rfl⟩ ?_ ?_ ?_ ?_ ?_)
   . rintro j f a8 ⟨T,t,u,D⟩ P a9
     exact⟨a9,P _ _ t lm,P _ _ u cm,λd x g p h=>P _ _ (D d x g p h) p⟩
   . grind
   . rintro j hj f K ⟨T,t,u,D⟩ ad
     have M:=J _ (ys hj);have av:=Kz (l:=(cR w k).take j) λx hx=>J x (adD hx)
     have ay:((cR w k).take j).length<=74:=aap (List.length_take_le _ _) (by unfold cR at hj;omega)
     have C:wi ((cR w k).take (j+1))=wi ((cR w k).take j)+((cR w k)[j].2-(cR w k)[j].1+1):=by rw[za hj,M5]
     generalize wi ((cR w k).take j)=S at u av C;obtain⟨x1,x2⟩:∃r:Int × Int,r=(cR w k)[j]:=⟨_,rfl⟩;rw[<-x2]at M C ⊢;obtain⟨ra,rb⟩:=x1;simp only at M C;subst L;refine cL.zX (hold:=[]) V Tryz.func30 t rfl ?_;apply rn;simp[pD];refine bO.intro λq hq=>?_
     simp
     change aa _ _ _ _ _ _ _ _ _
     refine aa.runN lay [] 1 ?_;simp
     change aa _ _ _ _ _ _ _ _ _
     refine aa.bf 8 (b:=q) (mK (ra,rb)) (ab.ai _ _ _) (by simp) rfl ?_
     rw[dH hq];refine aa.beginRound t rfl ?_;have cl:∀x,(f.set l x) c=some (.cells [int (iB w k+S)]):=λx=>(ab.ah _ _ (zs lc)).trans u
     apply rn;simp[cl,U];refine⟨by omega,by omega,by omega,?_⟩
     refine⟨rfl,rfl,_,(ab.ah _ _ lc).trans (ab.ai _ _ _),?_⟩
     have N:∀X Y Z d x,d≠l->d≠c->f d=some x->(((f.set l X).set c Y).set l Z) d=some x:=λX Y Z d x g p h=>by rw[ab.ah _ _ g,ab.ah _ _ p,ab.ah _ _ g];exact h
     refine ad _ ⟨T.mono λd x hd _ p h _=>N _ _ _ d x (λe=>by rw[e,t]at hd;exact h _ (aax hd).symm) (λe=>by rw[e,u]at hd;exact p _ (aax hd).symm) hd,ab.ai _ _ _,(ab.ah _ _ (zs lc)).trans ((ab.ai _ _ _).trans (by grind)),λd x g p h=>?_⟩
     have dl:d≠l:=λe=>by rw[e,ab.ah _ _ (zs B),R]at g;cases g
     exact N _ _ _ d x dl h (D d x g p h)
   . have O:∀d x,a d=some x->((a.set r (.raw (.deferred (some [])))).set l (.loop al)) d=some x:=λd x hd=>by
      have n1:d≠l:=λe=>by grind
      have n2:d≠r:=λe=>by grind
      rw[ab.ah _ _ n1,ab.ah _ _ n2];exact hd
     refine⟨hB.mono λd x hd _ _ _ _=>O d x hd,ab.ai _ _ _,(O _ _ G).trans (by simp[wi]),λd x g _ _=>?_⟩
     exact(ab.ah _ _ λe=>by rw[e,ab.ah _ _ (zs B),R]at g;cases g).trans g
   rintro f ⟨T,t,u,D⟩
   rw[aar,<-a7]at u;subst L;refine⟨_,t,by simp,rfl,?_⟩
   apply rn;simp[yG];have n:∀d x,d≠l->f d=some x->(f.del l) d=some x:=λd x g p=>by simp only[ab.del,g,aao];exact p
   have hold:∀d x,a d=some x->d≠mb->d≠c->(f.del l) d=some x:=λd x g p h=>n d x (λe=>by grind) (D d x ((ab.ah _ _ λe=>by grind).trans g) p h)
   refine⟨by omega,ih _ (by omega) ⟨_,_,r::ds,rfl,by simp[e1,e4,U,BR],T.mono λd x hd _ _ h _=>n d x (λe=>by rw[e,t]at hd;exact h _ (aax hd).symm) hd,n _ _ (zs lc) u,aaZ.2 ⟨λq=>?_,H⟩,λd hd=>?_,λd x hd hm=>?_⟩⟩
   . grind
   . rcases aaw.1 hd with rfl|hd
     . exact⟨n _ _ B (D _ _ (ab.ai _ _ _) rm rc),W⟩
     obtain⟨q1,q2⟩:=z d hd;exact⟨hold d _ q1 (F d q2) (λe=>by grind),q2⟩
   exact hold d x (A d x hd hm) hm (λe=>by grind)
 have ek:k=w.fair.az.length:=by omega
 subst ek;refine Dh lay ds _ H (λr Q=>(z r Q).1) λa8 h=>⟨[int (iB w w.fair.az.length),int 0],by simp[fW],?_⟩
 refine .less (λd x hd=>?_) (.done hK)
 have q1:=v.less A d x hd;rw[h d λq=>?_]
 . exact q1
 have:=(z d q).2;have h0:=v.less (.refl mb o) d x hd
 grind
theorem E7{a b:afe}(t:a.length<1152921504606846976)(hb:b.length<1152921504606846976)(h:KF (.val (bool (decide (a=b)))) σ):aB prog m 72 [ints a,ints b] σ KF:=by
 refine fs Z8 Tryz.func72 rfl (by kernel_rfl) ?_
 simp[Tryz.f72];refine aG.intro (λg=>?_) (λg=>?_)<;>(try simp[-Int.not_lt,-Int.not_le,-Nat.not_lt,-Nat.not_le]at g)<;>(try simp[g])
 . have:a≠b:=λe=>g (by rw[e])
   simp[this]at h;exact .done h
 refine aa.loop a.length (λk s=>∃env,s=⟨env,σ,[],.no⟩/\env 0=ints a/\env 1=ints b/\env 12=int a.length/\env 13=int k/\a.take k=b.take k) ⟨_,rfl,by simp[g]⟩ ?_
 rintro u k _ v ⟨env,rfl,d,f,fa,c,l⟩ p
 have r:a.length=b.length:=by omega
 apply rn;simp[d,f,fa,c];refine aG.intro (λi=>?_) (λi=>?_)<;>(try simp[-Int.not_lt,-Int.not_le,-Nat.not_lt,-Nat.not_le]at i)<;>(try simp[d,f,fa,c,i])
 . have o:k<b.length:=by omega
   simp[d,f,fa,c,i,o];apply rn;simp[d,f,fa,c]
   by_cases j:a[k]=b[k]
   . have q:(a[k]!=b[k])=false:=by simp[j]
     simp[d,f,fa,c,q];refine⟨by omega,p _ (by omega) ⟨_,rfl,by simp[d,f,fa,c],by simp[d,f,fa,c],by simp[d,f,fa,c],by simp,?_⟩⟩
     rw[za i,za o,l,j]
   have q:(a[k]!=b[k])=true:=by simp[j]
   have n:a≠b:=λe=>by subst e;exact j rfl
   simp[n]at h;simp[d,f,fa,c,q];exact .done h
 have ek:k=a.length:=by omega
 subst ek;rw[aar,r,aar]at l;simp[l]at h;exact .done h
def foundAt(w:cC)(c:Int)(h i:Nat):Prop:=il w h i c=1/\∀a b:Nat,(a<h\/a=h/\b<i)->b<w.fair.az.length->il w a b c≠1
theorem M6(F:m.solo=true){w:cC}(H:w.pv)(G:w.Open){c:Int}(I:0<=c/\c<3)(J:dI w [] [] [c]=0)(K:∀h i:Nat,h<73->i<w.fair.az.length->foundAt w c h i->KF (.val (.bL [int h,int i,int 0])) σ)
 (L:(∀o f:Nat,o<73->f<w.fair.az.length->il w o f c≠1)->KF (.val (.bL [int 0,int 0,int 11])) σ):aB prog m 19 [bS w,int c] σ KF:=by
 have M:Wl [bS w,mz,mz,.sl 1 [int c] .exact] [bS w,ints [],ints [],ints [c]]:=Rk (.refl _) (dR 1) (dR 1) (eZ 1 _ _);have T:=G.mT.1;refine fs [] Tryz.func19 rfl (by kernel_rfl) ?_
 simp[Tryz.f19];refine bp Tryz.func41 rfl rfl M (jz F H ⟨by simp,by simp,by simp⟩ (λq=>absurd J q) λq u fb mb A=>?_)
 apply rn;simp;refine aa.loop 73 (λk s=>∃env d,s=⟨env,d,[],.no⟩/\(env 1=int c/\env 2=.cp (bS w) 0/\env 9=.fn (.func 46) [tK fb mb w 0] []/\env 24=int k)/\gh w mb d/\gV mb u d/\∀o f:Nat,o<k->f<w.fair.az.length->il w o f c≠1) ⟨_,_,rfl,by simp,A.yW,.refl mb u,λo f q=>absurd q (aee _)⟩ ?_
 rintro U k _ N ⟨env,d,rfl,⟨g,l,n,yI⟩,x,p,v⟩ O
 apply rn;simp[g,l,n,yI];refine aG.intro (λB=>?_) (λB=>?_)<;>(try simp[-Int.not_lt,-Int.not_le,-Nat.not_lt,-Nat.not_le]at B)<;>(try simp[g,l,n,yI,B])
 . refine aa.loop w.fair.az.length (λj s=>∃env d,s=⟨env,d,[],.no⟩/\(env 1=int c/\env 2=.cp (bS w) 0/\env 9=.fn (.func 46) [tK fb mb w 0] []/\env 24=int k/\env 10=int k/\env 30=int w.fair.az.length/\env 31=int j)/\gh w mb d/\gV mb u d/\∀f:Nat,f<j->il w k f c≠1) ⟨_,_,rfl,by simp[g,l,n,yI],x,p,λf q=>absurd q (aee _)⟩ ?_
   rintro V j _ W ⟨env,d,rfl,⟨g,l,n,yI,cu,a,b⟩,x,p,r⟩ C
   apply rn;simp[g,l,n,yI,cu,a,b];refine aG.intro (λD=>?_) (λD=>?_)<;>(try simp[-Int.not_lt,-Int.not_le,-Nat.not_lt,-Nat.not_le]at D)<;>(try simp[g,l,n,yI,cu,a,b,D])
   . refine fF Tryz.func46 rfl rfl rfl (Hm F G (by omega) I x λE P Q=>?_)
     have t:=p.trans Q
     by_cases y:il w k j c=1
     . rw[show Bt (il w k j c)=.ou 98 (.agg [])by rw[y];rfl]
       apply rn;simp[g,l,n,yI,cu,a,b];refine .less (A.less t) (.done (K k j (by omega) (by omega) ⟨y,λo f q z=>?_⟩))
       rcases q with q|⟨rfl,q⟩
       . exact v o f q z
       exact r f q
     have R:De (il w k j c)≠98:=by unfold De;rw[KD y];split<;>decide
     apply rn;simp[g,l,n,yI,cu,a,b,R];refine⟨by omega,C _ (by omega) ⟨_,E,rfl,⟨by simp[g,l,n,yI,cu,a,b],by simp[g,l,n,yI,cu,a,b],by simp[g,l,n,yI,cu,a,b],by simp[g,l,n,yI,cu,a,b],by simp[g,l,n,yI,cu,a,b],by simp[g,l,n,yI,cu,a,b],by simp⟩,P,t,λf q=>?_⟩⟩
     by_cases e:f=j
     . subst e;exact y
     exact r f (by omega)
   have S:j=w.fair.az.length:=by omega
   subst S;refine⟨by omega,O _ (by omega) ⟨_,d,rfl,⟨by simp[g,l,n,yI,cu,a,b],by simp[g,l,n,yI,cu,a,b],by simp[g,l,n,yI,cu,a,b],by simp⟩,x,p,λo f q z=>?_⟩⟩
   by_cases e:o=k
   . subst e;exact r f z
   exact v o f (by omega) z
 have ek:k=73:=by omega
 subst ek;exact .less (A.less p) (.done (L v))
theorem Di(w:cC)(h:Int):(ot w h).length<=w.fair.az.length:=by unfold ot;refine aap (aaN _ _) ?_;rw[mU];exact aav _
def cC.only(w:cC)(l:afe):cC:={w with aj:=l.filterMap λc=>w.aj[c.toNat]?}
abbrev Bw(w:cC)(a:AV):afk:=[kq w.fair.az,rows w.fair.roads,int w.fair.aU,int w.fair.dD,int w.fair.cJ,int w.fair.aX,int w.aF,xr w.ways,a]
theorem Q5  w   a b :(Bw w a).set 8 b=Bw w b:=rfl
theorem M7{w wb a}(b:σ wb=some (.cells (Bw w a)))(h:KF (.val (.bL [])) (σ.set wb (.cells (Hg w)))):aB prog m 99 [.cp (gS w.aj) 0,.cp (.ref wb 0) 0] σ KF:=by
 refine fs [] Tryz.func99 rfl (by kernel_rfl) ?_;simp[Tryz.f99];simp[b];exact .done h
namespace CW
abbrev aaf:aeV:=[⟨7,.take [0,1,2,3,5,6,7,8,11,12] false (.both 4 (.one 9 (.one 10 (.one 13 (.done)))) (.one 9 (.take [4] true (.one 10 (.one 13 (.done))))))⟩]
abbrev aag:aeV:=[⟨0,.take [3] false (.one 0 (.one 1 (.one 2 (.one 4 (.one 5 (.done))))))⟩]
theorem Q6{w wb l}(M:∀c∈l,0<=c/\c<w.aj.length)(S:l.length<=1000){F t}(I:afi)(C:σ wb=some (.cells (Hg w)))
 (N:∀a g K,Tok (σ.del wb) g a 8 ((w.only l).aj.map iC)->g wb=some (.cells (Bw w a))->(∀σ2,σ2 wb=some (.cells (Bw w a))->I σ2->K (.val (.bL [])) σ2)->cL prog m (.fn F [] t) [] g K)
 (h:∀σ2,I σ2->KF (.val (.bL [])) (σ2.set wb (.cells (Hg w)))):aB prog m 70 [.ref wb 0,ints l,.fn F [] t] σ KF:=by
 refine aB.II lay [] aaf 12 3 Tryz.func70 rfl rfl (by rfl) (by kernel_rfl) ?_
 simp[Tryz.f70,C];refine bO.intro λD u=>?_
 have T:wb≠D:=λe=>by simp_all
 simp
 change aa _ _ _ _ _ _ _ _ _
 refine aa.bf 6 (b:=D) (gS w.aj) (ab.ai _ _ _) (by simp) rfl ?_
 rw[dH u];apply rn;simp;refine aa.defer rfl rfl rfl rfl (by simp) rfl ?_
 apply rn;simp[C];refine aa.loop l.length (λk s=>∃env d a,s=⟨env,d,[.call (.func 99) [.cp (gS w.aj) 0,.cp (.ref wb 0) 0] []],.no⟩/\(env 2=.fn F [] t/\env 3=.cp (.ref wb 0) 0/\env 6=.cp (gS w.aj) 0/\env 17=ints l/\env 18=int l.length/\env 19=int k)/\Tok (σ.del wb) d a 8 ((w.only (l.take k)).aj.map iC)/\d wb=some (.cells (Bw w a))) ⟨_,_,.lit (.slice none 0 0),rfl,by simp,⟨?_,.inl ⟨rfl,by simp[cC.only]⟩⟩,ab.ai _ _ _⟩ ?_
 . intro c x v
   have E:c≠wb:=λe=>by subst e;simp[ab.del]at v
   simp only[ab.del,E,aao]at v;rw[ab.ah _ _ E];exact v
 rintro U k _ V ⟨env,d,a,rfl,⟨G,H,J,j,wo,R3⟩,n,i⟩ O
 apply rn;simp[wo,R3];apply aG.intro<;>intro r<;>simp at r<;>simp[G,H,J,j,R3,r]
 . have P:=M l[k] (ys r)
   have y:((w.only (l.take k)).aj.map iC).length<=k:=by
    rw[aac];refine aap (List.length_filterMap_le _ _) ?_
    grind
   have z:(w.only (l.take (k+1))).aj.map iC=(w.only (l.take k)).aj.map iC++[iC w.aj[l[k].toNat]]:=by simp only[cC.only];rw[za r,List.filterMap_append,aaq];simp[zA (show l[k].toNat<w.aj.length by omega)]
   have A:bt a≠some wb:=λe=>by obtain⟨_,x,q⟩:=n.aV e;simp_all
   simp[i,P];refine⟨?_,?_⟩
   all_goals
    refine aN lay rfl rfl rfl Lr rfl Lr rfl UQ (by decide) (by simp only[aac,aaI,aaW]at y ⊢;omega) (σ0:=d.off a) (es:=(w.only (l.take k)).aj.map iC) (xs:=[iC w.aj[l[k].toNat]]) (by simpa using n.here.1) (.inr ⟨_,rfl⟩) λL σ2 f=>?_
    rw[<-z]at f;have o:σ2 wb=some (.cells (Bw w a)):=f.1 _ _ ((ab.dF A).trans i);have B:=f.cells;have p:bt L≠some wb:=λe=>by obtain⟨_,x,q⟩:=f.aV e;rw[o]at q;cases q
    apply pg;simp[o,B];apply rn;simp[R3];refine⟨by omega,O _ (by omega) ⟨_,_,L,rfl,by simp[G,H,J,j,wo],(f.base n.here.2).beside (by simp[ab.del]) p,ab.ai _ _ _⟩⟩
 have ek:k=l.length:=by omega
 subst ek;rw[aar]at n;refine N a d _ n i λσ2 Q R=>?_
 apply rn;simp;refine tP.func Tryz.func99 rfl rfl (M7 Q ?_);exact⟨[],rfl,.done (h σ2 R)⟩
theorem YM{w l a}(d:a.W (gS (w.only l).aj)):(AV.agg (Bw w a)).W (bS (w.only l)):=nY rfl λi x y c b=>by
 change (Bw w (gS (w.only l).aj))[i]?=some y at b;rw[<-Q5 w a]at b;by_cases e:i=8
 . simp_all
 rw[ach (zs e),c]at b;cases b;exact .refl _
theorem E8(f:m.solo=true){w wb c a l e x}(g:(w.only l).Open)(d:w.ways.length<1152921504606846976/\(∀x∈w.ways,rW w.aF x)/\1<=w.aF/\w.aF<=4)(k:Bs (w.only l))(t:e.length<1000000)(n:σ wb=some (.cells (Bw w a)))(o:a.W (gS (w.only l).aj))(p:σ c=some (.cells [x]))
 (h:∀σ2,σ.Le σ2->KF (.val (.bL [])) (σ2.set c (.cells [bool (decide (ot (w.only l) 72=e))]))):aB prog m 71 [.ref wb 0,.cp (ints e) 0,.ref c 0] σ KF:=by
 have u:=g.mT.1;have i:=Di (w.only l) 72;have q:Wl [.agg (Bw w a)] [bS (w.only l)]:=.cons (YM o) .nil;refine fs aag Tryz.func71 rfl (by kernel_rfl) ?_;simp[Tryz.f71];simp[n];refine bp Tryz.func73 rfl rfl q (v7 f d.1 d.2.1 d.2.2 k λr fb mb j=>?_);apply pg;simp;refine cf Tryz.func45 rfl (Bv f g j.yW λσ2 v s=>?_);apply pg;simp;have b:=j.less s;refine cf Tryz.func72 rfl (E7 (by omega) (by omega) ?_);apply pg;simp[b _ _ p];apply rn;simp;exact .done (h σ2 b)
end CW
theorem Hu(v:m.solo=true){w wb l e}(y:(w.only l).Open)(z:w.ways.length<1152921504606846976/\(∀x∈w.ways,rW w.aF x)/\1<=w.aF/\w.aF<=4)(A:Bs (w.only l))(B:e.length<1000000)(k:∀c∈l,0<=c/\c<w.aj.length)(C:l.length<=1000)(D:σ wb=some (.cells (Hg w)))
 (h:KF (.val (bool (decide (ot (w.only l) 72=e)))) σ):aB prog m 69 [ints l,.ref wb 0,.cp (ints e) 0] σ KF:=by
 refine aB.start lay [5] [] 3 Tryz.func69 rfl rfl (by rfl) (by kernel_rfl) ?_;simp[Tryz.f69];refine bO.intro λf E=>?_
 have j:wb≠f:=λe=>by simp_all
 simp;have o:(σ.set f (.cells [bool false])) wb=some (.cells (Hg w)):=(ab.ah _ _ j).trans D;refine cf Tryz.func70 rfl (CW.Q6 k C (λb=>∃d:ab,(∀c x,σ c=some x->c≠wb->d c=some x)/\b=d.set f (.cells [bool (decide (ot (w.only l) 72=e))])) o (λa p K r g F=>?_) ?_)
 . have s:p f=some (.cells [bool false]):=r.1 _ _ (by simp[ab.del,zs j])
   refine fF Tryz.func71 rfl rfl rfl (CW.E8 v y z A B g r.W s λb i=>?_);refine F _ ((ab.ah _ _ j).trans (i _ _ g)) ⟨b,λc x u n=>i _ _ (r.1 _ _ ?_),rfl⟩;have t:c≠f:=λe=>by simp_all
   simp only[ab.del,n,aao];exact(ab.ah _ _ t).trans u
 rintro b ⟨d,q,rfl⟩;have G:((d.set f (.cells [bool (decide (ot (w.only l) 72=e))])).set wb (.cells (Hg w))) f=some (.cells [bool (decide (ot (w.only l) 72=e))]):=(ab.ah _ _ (zs j)).trans (ab.ai _ _ _);refine aa.run lay [5] ?_;simp[G];refine .less (λc x u=>?_) (.done h);have t:c≠f:=λe=>by simp_all
 by_cases e:c=wb
 . simp_all
 rw[ab.ah _ _ e,ab.ah _ _ t];simp_all
def dA(x:afe):Nat:=match x.getLast? with|none=>0|some v=>v.toNat+1
def nxt(n:Nat)(x:afe):aeJ:=(List.range' (dA x) (n-dA x)).map λ(j:Nat)=>x++[(j:Int)]
def yw(n:Nat):Nat->aeJ
 |0=>[[]]
 |k+1=>(yw n k).flatMap (nxt n)
theorem Q7  n :∀k,∀x∈yw n k,x.length=k/\(∀c∈x,0<=c/\c<n)/\dA x<=n
 | 0,x,a=>by
   have:x=[]:=by simpa[yw]using a
   subst this;simp[dA]
 | k+1,x,a=>by
   simp only[yw,aaR,nxt,aab,List.mem_range'_1]at a;obtain⟨y,b,j,e,rfl⟩:=a;obtain⟨d,f,g⟩:=Q7 n k y b;refine⟨by simp[d],λc h=>?_,?_⟩
   . grind
   simp[dA];omega
theorem Bx  n :∀M:aeJ,(M.flatMap (nxt n)).length<=M.length*n
 |[]=>by simp
 | x::M=>by
   have:=Bx n M;rw[acg,aam,aaI,adK];have:(nxt n x).length<=n:=by simp[nxt]
   omega
theorem KA  n :∀k,(yw n k).length<=n ^ k
 |0=>by simp[yw]
 |k+1=>by have a:=Bx n (yw n k);have b:=KA n k;rw[aez];exact aap a (aci n b)
theorem Jl{x}(h:0<x.length)(a:∀c∈x,0<=c):x[x.length-1]?=some ((dA x:Int)-1):=by
 have b:=a x[x.length-1] (ys _);unfold dA
 grind
def Jm(n:Nat)(G:afe->Bool):afe:=(((List.range (n+1)).flatMap (yw n)).find? G).getD (m8 n)
theorem Tg{n k i G}(a:k<n+1)  hi  (b:∀k'<k,∀x∈yw n k',G x=false) (c:∀x∈(yw n k).take i,G x=false) (h:G (yw n k)[i]=true):Jm n G=(yw n k)[i]:=by
 unfold Jm
 have e:List.range (n+1)=List.range k++k::List.range' (k+1) (n-k):=by rw[adv,adv,show n+1=k+(n-k+1)by omega,<-List.range'_append_1,adn];rfl
 have d:((List.range k).flatMap (yw n)).find? G=none:=ado.2 λx f=>by grind
 have g:(yw n k).find? G=some (yw n k)[i]:=by
  have j:yw n k=(yw n k).take i++(yw n k)[i]::(yw n k).drop (i+1):=by simp_all
  grind
 grind
theorem Ti{n G}(a:∀k'<n+1,∀x∈yw n k',G x=false):Jm n G=m8 n:=by
 unfold Jm;rw[ado.2 λx b=>by grind];rfl
abbrev pr(M:aeJ):afk:=M.map ints
theorem cL.Cp{P m b args args' σ KF}(h:cL P m b args' σ KF)(c:Wl args args'):cL P m b args σ KF:=λQ k O cf a fr cs d e f g i j l n=>h Q k O cf a fr cs d (e.Cp c) f g i j l n
theorem M8{n:Nat}(hn:n<=3){G f}(b0:f.cells=[f])(a7:f.flat=true)(hf:∀  l   σ'   K ,(∀c∈l,0<=c/\c<(n:Int))->l.length<=n->σ.Le σ'->K (.val (bool (G l))) σ'->cL prog m f [ints l] σ' K){xs:afe}(hx:xs.length=n)(a8:∀  j  (q:j<xs.length),xs[j]=j)(h:KF (.val (ints (Jm n G))) σ):aB prog m 68 [.agg [f],ints xs] σ KF:=by
 refine fs [] Tryz.func68 rfl (by kernel_rfl) ?_
 simp[Tryz.f68];refine⟨a7,by omega,?_⟩
 refine aa.Am 5 (a':=.sl 1 (pr (yw n 0)) .any) ?_ ?_
 . change AV.W (.sl 1 [.nil] .exact) (.sl 1 [ints []] .any)
   exact Ox rfl (by simp) (by simp) λi a a' h1 h2=>by
    cases i with
    |zero=>cases h1;cases h2;exact dR 1
    |succ i=>simp at h1
 refine aa.loop (n+1) (λk s=>∃env σ',s=⟨env,σ',[],.no⟩/\(env 1=ints xs/\env 2=.cp (.agg [f]) 0/\env 5=.sl 1 (pr (yw n k)) .any/\env 17=int ((n:Int)+1)/\env 18=int k)/\σ.Le σ'/\∀k'<k,∀x∈yw n k',G x=false) ⟨_,_,rfl,by simp[hx],ab.le_refl _,by simp⟩ ?_
 rintro c0 k _ hk ⟨env,σ',rfl,⟨o,r,e5,g,wo⟩,J,L⟩ ih
 have hM:=Q7 n k;obtain⟨M,B⟩:∃M,M=yw n k:=⟨_,rfl⟩;rw[<-B]at hM e5;apply rn;simp[g,wo];apply aG.intro<;>intro g1<;>simp at g1<;>simp[o,e5,g1]
 . have b1:M.length<=27:=by
    rw[B];exact aap (KA n k) (aap (Nat.pow_le_pow_left hn k) (adp (n:=3) (by decide) (show k<=3 by omega)))
   refine aa.loop M.length (λi s=>∃env σ' a,s=⟨env,σ',[],.no⟩/\(env 1=ints xs/\env 2=.cp (.agg [f]) 0/\env 17=int ((n:Int)+1)/\env 18=int k/\env 20=.sl 1 (pr M) .any/\env 21=int M.length/\env 22=int i/\env 6=a)/\Tok σ σ' a 1 (pr ((M.take i).flatMap (nxt n)))/\∀x∈M.take i,G x=false) ⟨_,_,.nil,rfl,by simp[o,r,g,wo],⟨J,.inl ⟨rfl,by simp⟩⟩,by simp⟩ ?_
   rintro c1 i _ hi ⟨env,σ',a,rfl,⟨o,r,g,wo,BR,yG,yH,u⟩,Z,v⟩ a9
   apply rn;simp[yG,yH];apply aG.intro<;>intro N<;>simp at N<;>simp[wo,BR,yH,u,N]
   . obtain ⟨ad,C,al⟩:=hM _ (ys N)
     have av:=Bx n (M.take i);have aO:((M.take i).flatMap (nxt n)).length<=200:=aap av (aap (Nat.mul_le_mul (by rw[ack];omega:(M.take i).length<=27) hn) (by decide))
     obtain⟨x,D⟩:∃x,x=M[i]:=⟨_,rfl⟩;rw[<-D]at ad C al;simp only[<-D];refine aa.loop x.length (λj s=>∃env t b,s=⟨env,t,[],.no⟩/\(env 1=ints xs/\env 2=.cp (.agg [f]) 0/\env 17=int ((n:Int)+1)/\env 18=int k/\env 20=.sl 1 (pr M) .any/\env 21=int M.length/\env 22=int i/\env 6=a/\env 8=ints x/\env 26=ints x/\env 27=int x.length/\env 28=int j/\env 9=b)/\Tok σ' t b 1 ((x.take j).map int)) ⟨_,_,.nil,rfl,by simp[o,r,g,wo,BR,yG,yH,u],.nil σ' 1⟩ ?_
     rintro c2 j _ hj ⟨env,t,b,rfl,⟨o,r,g,wo,BR,yG,yH,u,A,O,P,F,e9⟩,w⟩ ax
     apply rn;simp[P,F];apply aG.intro<;>intro g3<;>simp at g3<;>simp[o,r,O,F,e9,g3]
     . have g4:=C _ (ys g3)
       have g5:x[j].toNat<xs.length:=by omega
       have g6:(xs[x[j].toNat]:Int)=x[j]:=by rw[a8 _ g5];omega
       have g7:x[j]<(xs.length:Int):=by omega
       simp[g4,g7,g6];have H:(x.take (j+1)).map int=(x.take j).map int++[int x[j]]:=by rw[za g3,aaq];rfl
       refine aN lay rfl rfl rfl cK rfl cK rfl pQ (by decide) (by simp only[aac,ack,aaI,aaW];omega) (σ0:=σ') (es:=(x.take j).map int) (xs:=[int x[j]]) (by simpa using w) (.inr ⟨_,rfl⟩) λa' p Q=>?_
       rw[<-H]at Q;apply rn;simp[F];refine⟨by omega,ax _ (by omega) ⟨_,_,a',rfl,by simp[o,r,g,wo,BR,yG,yH,u,A,O,P],Q⟩⟩
     have ej:j=x.length:=by omega
     subst ej;rw[aar]at w;have R:=Z.up w.1;have E:=R.1;refine cL.Cp (hf x t _ C (by omega) E ?_) (.cons w.W .nil)
     have S:G x=true->ints (Jm n G)=ints x:=λq=>by
      rw[Tg (i:=i) (by omega) (by grind) L (by rw[<-B];exact v) (by grind)]
      grind
     cases hG:G x with
     |true=>rw[S hG]at h;apply rn;simp[e9,aG];refine .px w.W (.less E (.done h))
     | false=>
       by_cases gl:0<x.length
       have ay:=Jl gl λc hc=>(C c hc).1
       have gx:0<=(x.length:Int)-1/\(x.length:Int)-1<x.length/\1<=(x.length:Int):=by omega
       apply rn;simp[A,aG,gl,gx,ay];refine⟨by omega,by omega,?_⟩
       refine aa.gN (λe s=>(e 1=ints xs/\e 2=.cp (.agg [f]) 0/\e 17=int ((n:Int)+1)/\e 18=int k/\e 20=.sl 1 (pr M) .any/\e 21=int M.length/\e 22=int i/\e 6=a/\e 8=ints x/\e 13=int (dA x))/\s=t) ⟨by simp[o,r,g,wo,BR,yG,yH,u,A],rfl⟩ ?_
       rotate_left
       have aC:dA x=0:=by
        have:x=[]:=adg.1 (by omega)
        subst this;rfl
       apply rn;simp[A,aG,gl];refine aa.gN (λe s=>(e 1=ints xs/\e 2=.cp (.agg [f]) 0/\e 17=int ((n:Int)+1)/\e 18=int k/\e 20=.sl 1 (pr M) .any/\e 21=int M.length/\e 22=int i/\e 6=a/\e 8=ints x/\e 13=int (dA x))/\s=t) ⟨by simp[o,r,g,wo,BR,yG,yH,u,A,aC],rfl⟩ ?_
       rotate_left
       all_goals
        rintro env _ ⟨⟨o,r,g,wo,BR,yG,yH,u,A,z⟩,rfl⟩
        refine aa.loop (n-dA x) (λd s=>∃env p a',s=⟨env,p,[],.no⟩/\(env 1=ints xs/\env 2=.cp (.agg [f]) 0/\env 17=int ((n:Int)+1)/\env 18=int k/\env 20=.sl 1 (pr M) .any/\env 21=int M.length/\env 22=int i/\env 6=a'/\env 8=ints x/\env 13=int ((dA x:Int)+d))/\Tok σ p a' 1 (pr ((M.take i).flatMap (nxt n)++(List.range' (dA x) d).map λ(j:Nat)=>x++[(j:Int)]))) ⟨_,_,a,rfl,by simp[o,r,g,wo,BR,yG,yH,u,A,z],by simpa using R⟩ ?_
        rintro c3 d _ hd ⟨env,p,a',rfl,⟨o,r,g,wo,BR,yG,yH,u,A,z⟩,T⟩ aE
        apply rn;simp[o,z];apply aG.intro<;>intro g6<;>simp at g6<;>simp[yH,u,A,g6]
        . refine oO lay rfl cK rfl pQ (es:=x.map int) (sp:=.any) (l:=0) (h:=x.length) (by simp) (λcap U=>⟨⟨⟨.i64,by simp⟩,by simpa using U⟩,⟨⟨.i64,by simp⟩,aav _⟩,rfl⟩) (by simp) λb2 V=>?_
          have X:Tok p p b2 1 (x.map int):=by
           rw[adU,aaY (by simp)]at V
           rcases V with rfl|⟨e,rfl⟩
           . exact .exact _ _ _
           rw[e];exact .nil _ _
          apply rn;simp[z];refine aN lay rfl rfl rfl cK rfl cK rfl pQ (by decide) (by simp only[aac,aaI,aaW];omega) (σ0:=p) (es:=x.map int) (xs:=[int ((dA x:Int)+d)]) (by simpa using X) (.inr ⟨_,rfl⟩) λa2 b3 I=>?_
          have H:x.map int++[int ((dA x:Int)+d)]=(x++[((dA x+d:Nat):Int)]).map int:=by rw[aaq,Int.natCast_add];rfl
          rw[H]at I;refine aa.Am 71 (a':=ints (x++[((dA x+d:Nat):Int)])) (show AV.W a2 _ from I.W) ?_
          apply rn;simp
          have aL:pr ((M.take i).flatMap (nxt n)++(List.range' (dA x) (d+1)).map λ(j:Nat)=>x++[(j:Int)])=pr ((M.take i).flatMap (nxt n)++(List.range' (dA x) d).map λ(j:Nat)=>x++[(j:Int)])++[ints (x++[((dA x+d:Nat):Int)])]:=by rw[List.range'_1_concat,aaq,<-List.append_assoc,pr,aaq];rfl
          refine aN lay rfl rfl rfl qp rfl qp rfl cK (by decide) (by simp only[aac,aam,List.length_range',aaI,aaW];omega) (σ0:=σ) (es:=pr ((M.take i).flatMap (nxt n)++(List.range' (dA x) d).map λ(j:Nat)=>x++[(j:Int)])) (xs:=[ints (x++[((dA x+d:Nat):Int)])]) (by simpa using T.up I.1) (.inr ⟨_,rfl⟩) λa3 b4 Y=>?_
          rw[<-aL]at Y;apply rn;simp[z];refine⟨by omega,aE _ (by omega) ⟨_,_,a3,rfl,by simp[o,r,g,wo,BR,yG,yH,A,Int.add_assoc],Y⟩⟩
        have ed:d=n-dA x:=by omega
        subst ed;refine⟨by omega,a9 _ (by omega) ⟨_,_,a',rfl,by simp[o,r,g,wo,BR,yG,u],?_,λy hy=>?_⟩⟩
        . rw[za N,adi,aey,<-D]
          exact T
        rw[za N,<-D]at hy
        rcases aan.1 hy with hy|hy
        . exact v y hy
        rw[lb.1 hy];exact hG
   have ei:i=M.length:=by omega
   subst ei;rw[aar]at Z v;refine⟨by omega,?_⟩
   refine aa.Am 5 (a':=.sl 1 (pr (yw n (k+1))) .any) ?_ (ih _ (by omega) ⟨_,_,rfl,by simp[o,r,g],Z.1,λk' q x hx=>?_⟩)
   . change AV.W a _
     have:=Z.W;rw[B]at this;exact this
   grind
 have ek:k=n+1:=by omega
 subst ek;have e:xs=m8 n:=aeq (by grind) λj q1 q2=>by grind
 rw[Ti L,<-e]at h;exact .less J (.done h)
def KB(w:cC):afe:=Jm w.aj.length λl=>decide (ot (w.only l) 72=ot w 72)
theorem M9{w:cC}(a:w.Valid){l}(b:l.length<=w.aj.length):Bs (w.only l):=by
 refine⟨aap (List.length_filterMap_le _ _) (aap b a.ov.1),λc d=>a.ov.2 c ?_⟩;obtain⟨i,_,h⟩:=List.mem_filterMap.1 d
 grind
theorem Jn(g:m.solo=true){w}(h:w.pv)(o:w.Open)(hSub:∀l ,(∀c∈l,0<=c/\c<(w.aj.length:Int))->l.length<=w.aj.length->(w.only l).Open)(p:dI w [] [] []=0)(v:KF (.val (.bL [ints (KB w),int 0])) σ):aB prog m 39 [bS w] σ KF:=by
 have y:Wl [bS w,mz,mz,mz] [bS w,ints [],ints [],ints []]:=Rk (.refl _) (dR 1) (dR 1) (dR 1);have z:=o.mT;have r:=Di w 72;refine aB.start lay [1] [] 1 Tryz.func39 rfl rfl (by rfl) (by kernel_rfl) ?_;simp[Tryz.f39];refine bO.intro λwb A=>?_
 simp;refine bp Tryz.func41 rfl rfl y (jz g h (by simp) (λq=>absurd p q) λq B fb mb s=>?_);refine aa.run lay [1] ?_;simp;refine cf Tryz.func45 rfl (Bv g o s.yW λi I C=>?_);have a:=s.less C;refine aa.runN lay [1] 3 ?_;simp;refine bO.intro λD k=>?_
 simp;change aa _ _ _ _ _ _ _ _ _;refine aa.bf 6 (b:=D) (ints (ot w 72)) (ab.ai _ _ _) (by simp) rfl ?_;rw[dH k];have d:i wb=some (.cells (Hg w)):=a _ _ (ab.ai _ _ _);refine aa.run lay [1] ?_;simp[d];refine cf Tryz.func74 rfl (xu (by omega) ?_);refine aa.run lay [1] ?_;simp;have n:w.Valid:=cC.valid h (by unfold dI at p;omega);refine cf Tryz.func68 rfl (M8 z.2 rfl (by simp) (G:=λl=>decide (ot (w.only l) 72=ot w 72)) (λl E K t u f F=>fF Tryz.func69 rfl rfl rfl (Hu g (hSub l t u) ⟨h.ways,n.cN,n.aF⟩ (M9 n u) (by omega) t (by omega) (f _ _ d) F)) (mU _) (λj q=>by grind) ?_);refine aa.run lay [1] ?_;simp;exact .less (λc x H=>a _ _ ((ab.ah _ _ λe=>by simp_all).trans H)) (.done v)
theorem Lq{P Q:Prop}(f:P->Q)(p:P):Q:=f p
theorem qz{a b c d e l}(h:KF (.val (bj ⟨a,b,c,l,d,e⟩)) σ):aB prog m 65 [int a,int b,int c,int d,int e,ints l] σ KF:=by
 refine fs [] Tryz.func65 rfl (by kernel_rfl) ?_;simp[Tryz.f65];refine bO.intro λk f=>?_
 simp;exact .less (by repeat (first|exact ab.le_refl _|assumption|refine ab.fK ?_ (by assumption)|refine ab.nM ?_ (by assumption))) (.done h)
theorem E9{a b c d e}(h:KF (.val (eM ⟨a,b,c,d,e⟩)) σ):aB prog m 66 [int a,int b,int c,int d,int e] σ KF:=by
 refine fs [] Tryz.func66 rfl (by kernel_rfl) ?_;simp[Tryz.f66];refine bO.intro λk f=>?_
 simp[aI];exact .less (by repeat (first|exact ab.le_refl _|assumption|refine ab.fK ?_ (by assumption)|refine ab.nM ?_ (by assumption))) (.done h)
def Q8:List yz:=[⟨10,0,1,[0],15,0⟩,⟨12,0,1,[],16,1⟩,⟨14,0,2,[],14,0⟩,⟨16,0,1,[],14,0⟩]
def By:afg:=[⟨0,1,4,6,20⟩,⟨1,2,1,0,72⟩,⟨2,0,2,0,72⟩]
def YN:Fr:=⟨Q8,[[0,2],[2,0]],1,2,3,3⟩
def YO:BC:=⟨⟨4,1,1,[0],15,0⟩,1,5⟩
def lW(n:Nat):cC:=⟨YN,3,By.take n,[YO]⟩
theorem Dj{n}(z:n<=3)(h:KF (.val (bS (lW n))) σ):aB prog m 37 [int n] σ KF:=by
 have v:∀a b c d e:Int,∀l:afe,Wl [int a,int b,int c,int d,int e,.sl 1 (l.map int) .exact] [int a,int b,int c,int d,int e,ints l]:=λa b c d e l=>.cons (.refl _) (.cons (.refl _) (.cons (.refl _) (.cons (.refl _) (.cons (.refl _) (.cons (eZ 1 _ .exact) .nil)))))
 have r:∀a b c d e:Int,Wl [int a,int b,int c,int d,int e,.lit (.slice none 0 0)] [int a,int b,int c,int d,int e,ints []]:=λa b c d e=>.cons (.refl _) (.cons (.refl _) (.cons (.refl _) (.cons (.refl _) (.cons (.refl _) (.cons (dR 1) .nil)))))
 refine fs Z5 Tryz.func37 rfl (by kernel_rfl) ?_
 simp[Tryz.f37];refine bO.intro λwb t=>?_
 simp;refine bp Tryz.func65 rfl rfl (v 10 0 1 15 0 [0]) (qz ?_);apply rn;simp;refine bp Tryz.func65 rfl rfl (r 12 0 1 16 1) (qz ?_);apply rn;simp;refine bp Tryz.func65 rfl rfl (r 14 0 2 14 0) (qz ?_);apply rn;simp;refine bp Tryz.func65 rfl rfl (r 16 0 1 14 0) (qz ?_);refine aa.runN lay [] 9 ?_;simp[aI];refine bO.intro λfb j=>?_
 obtain⟨A,B,w⟩:=ab.aS j;simp[aI]
 change aa _ _ _ _ _ _ _ _ _
 refine aa.bf 3 (b:=fb) (.agg [.sl 6 (Q8.map bj) .exact,.sl 1 [.sl 1 [int 0,int 2] .exact,.sl 1 [int 2,int 0] .exact] .exact,int 1,int 2,int 3,int 3]) (ab.ai _ _ _) (by simp) rfl ?_
 rw[dH j];apply rn;simp;refine cf Tryz.func66 rfl (E9 ?_);apply rn;simp;refine cf Tryz.func66 rfl (E9 ?_);apply rn;simp;refine cf Tryz.func66 rfl (E9 ?_);apply rn;simp;obtain⟨L,x⟩:∃L,L=(By.take n).map eM:=⟨_,rfl⟩;have u:((By.map eM).drop 0).take (n-0)=L:=by simp_all
 have Rr:(σ.set wb (.cells [.nil,.nil,int 0,int 0,int 0,int 0,int 0,.nil,.nil])) wb=some (.cells [.nil,.nil,int 0,int 0,int 0,int 0,int 0,.nil,.nil]):=ab.ai _ _ _;have k:n<=(By.map eM).length:=by simp[By];omega
 apply Lq
 . intro key
   repeat' first
    |refine⟨?_,?_⟩
    | (refine zS lay rfl Ow rfl UO (es:=By.map eM) (sp:=.exact) (l:=0) (h:=n) (by simp[By]) (λcap o=>⟨rfl,⟨⟨.i64,by simp⟩,aap k o⟩,rfl⟩) k ?_
       rw[u];apply pg;simp[aI])
    | (refine bp Tryz.func65 rfl rfl (v 4 1 1 15 0 [0]) (qz ?_)
       apply pg;simp[aI])
   all_goals
    refine aa.gN (λe s=>e 2=.ref wb 0/\s=σ.set wb (.cells [.sl 6 (Q8.map bj) .exact,.sl 1 [.sl 1 [int 0,int 2] .exact,.sl 1 [int 2,int 0] .exact] .exact,int 1,int 2,int 3,int 3,int 3,.sl 5 L .any,.sl 8 [iC YO] .exact])) ⟨by simp,rfl⟩ ?_
    exact key
 rintro env _ ⟨y,rfl⟩
 apply rn;simp[y]
 have p:(AV.sl 1 [AV.sl 1 [int 0,int 2] .exact,.sl 1 [int 2,int 0] .exact] .exact).W (rows [[0,2],[2,0]]):=YG rfl (λa q=>by simp at q;rcases q with rfl|rfl<;>rfl) (λa q=>by simp at q;rcases q with rfl|rfl<;>rfl) (λi a a' f g=>by
  match i with
  |0=>simp at f g;subst f;subst g;exact eZ 1 [int 0,int 2] .exact
  |1=>simp at f g;subst f;subst g;exact eZ 1 [int 2,int 0] .exact
  |i+2=>simp at f)
 refine .less (ab.fK (ab.le_refl _) t) (.px (a':=bS (lW n)) (nY rfl λi a a' f g=>?_) (.done h))
 match i with
 |0=>cases f;cases g;exact eZ 6 _ .exact
 |1=>cases f;cases g;exact p
 |2=>cases f;cases g;exact .refl _
 |3=>cases f;cases g;exact .refl _
 |4=>cases f;cases g;exact .refl _
 |5=>cases f;cases g;exact .refl _
 |6=>cases f;cases g;exact .refl _
 |7=>cases f;cases g;rw[x];exact .refl _
 |8=>cases f;cases g;exact eZ 8 _ .exact
 |i+9=>cases f
