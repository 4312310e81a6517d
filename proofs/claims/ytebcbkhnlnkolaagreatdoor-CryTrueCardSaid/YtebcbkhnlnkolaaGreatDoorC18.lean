import Derived.Test.YtebcbkhnlnkolaaGreatDoorC17
set_option linter.all false
set_option maxHeartbeats 2000000
set_option maxRecDepth 4000
namespace Go.Proofs.YtebcbkhnlnkolaaGreatDoor
open Go.Proofs.Tryz (prog)
section
open Go.cE Go.Conc
variable{m:Mo}{σ:af}{KF:acJ}
theorem tN{l:acY}(h:l.Nodup){i j hi}{hj:j<l.length}(a:i≠j):l[i]≠l[j]:=by
 rw[List.Nodup,List.pairwise_iff_getElem]at h
 grind
def iW(rs:acY)(M:acD)(n j:Nat):ade:=(List.range rs.length).map λl=>if l<j then ints (M.getD l [])else AV.gS (rs.getD l 0) 0 n n
theorem oZ  rs   M   n j :(iW rs M n j).length=rs.length:=by rw[iW,aaC,abT]
theorem o0{rs M n j l}(a:l<rs.length):(iW rs M n j)[l]?=some (if l<j then ints (M.getD l [])else AV.gS (rs.getD l 0) 0 n n):=by rw[iW,aaK,List.getElem?_range a];rfl
theorem Ei{fid r ro hold K todo env D rc d n at_ rs M}{cs:ade}{spr}(σ0:af)(k:rs.Nodup)(s:∀l,l<rs.length->(M.getD l []).length=n)(o:at_<cs.length)(hd:d∉rs)
 (w:∀σ',σ' d=some (.cells (cs.set at_ (.sl 1 (iW rs M n rs.length) spr)))->(∀y,y≠d->y∉rs->σ' y=σ0 y)->aa prog m fid r ro hold todo ⟨env,σ',D,rc⟩ K):
 ∀  f j ,j+f=rs.length->∀σ,σ d=some (.cells (cs.set at_ (.sl 1 (iW rs M n j) spr)))->(∀  l   h ,j<=l->σ rs[l]=some (.cells ((M.getD l []).map int)))->(∀y,y≠d->y∉rs->σ y=σ0 y)->aa prog m fid r ro hold todo ⟨env,σ,D,rc⟩ K
 | 0,j,x,σ,t,_,z=>by
   have:j=rs.length:=by omega
   simp_all
 | f + 1,j,x,σ,t,A,z=>by
   have a:j<rs.length:=by omega
   have B:=s j a;have q:d≠rs[j]:=λe=>hd (e ▸ zD a)
   have c:∀e∈iW rs M n j,e.cells=[e]:=λe p=>by unfold iW at p;obtain⟨l,_,rfl⟩:=aaA.1 p;split<;>rfl
   have hlen:(iW rs M n j).length=rs.length:=oZ _ _ _ _;have u:∀l,l<rs.length->(iW rs M n j)[l]?=some (if l<j then ints (M.getD l [])else AV.gS (rs.getD l 0) 0 n n):=λl h=>o0 h
   have g:(iW rs M n j).set j (.sl 1 ((M.getD j []).map int) .any)=iW rs M n (j+1):=by
    apply List.ext_getElem?;intro l
    by_cases h:l<rs.length
    . have G:(iW rs M n (j+1))[l]?=some (if l<j+1 then ints (M.getD l [])else AV.gS (rs.getD l 0) 0 n n):=o0 h
      grind
    . rw[abg (by simp_all),abg (by rw[oZ];omega)]
   refine aa.PQ (b:=rs[j]) (d:=d) (i:=j) (l:=(M.getD j []).map int) (at_:=at_) q (A j a (aao _)) (λe p=>by obtain⟨_,_,rfl⟩:=aaA.1 p;rfl) t (by rw[abm o]) c (by simp_all) ?_
   rw[List.set_set,g];refine Ei σ0 k s o hd w f (j+1) (by omega) _ (af.aj _ _ _) (λl h v=>?_) (λy C E=>?_)
   . have F:rs[l]≠d:=λe=>hd (e ▸ zD h)
     rw[af.ai _ _ F];simp only[af.del,tN k (show l≠j by omega),Rp]
     grind
   . rw[af.ai _ _ C]
     have:y≠rs[j]:=λe=>E (e ▸ zD a)
     simp only[af.del,this,Rp]
     simp_all
section
variable{c k:Nat}{nums:acX}
abbrev fX:ade:=[.lit (.slice none 0 0),.lit (.slice none 0 0),int 0,int 0,int 0,int 0]
theorem Gu{cnt}(hk:k+20+11*cnt.toNat<1000000)(hn:nums.length<1152921504606846976)(gD:0<=cnt/\cnt<=1000)(hb:bo c nums k σ)(h:∀  f   a  σ',uY cnt f->pH c nums (k+20+11*cnt.toNat) σ σ'->(f.aD=[]->a=.lit (.slice none 0 0))/\(f.aD≠[]->a=jC f.aD)->KF (.val (.agg [a,rows f.roads,int f.aU,int f.eT,int f.cP,int f.aR])) σ'):aA prog m 60 [.ref c 0,int cnt] σ KF:=by
 obtain⟨n0,s0,_,fi⟩:=id hb;refine fs Xk Tryz.func60 rfl (by kernel_rfl) ?_
 simp[Tryz.f60];refine bM.intro λA h4=>?_
 have n4:c≠A:=λe=>by simp_all
 have G:∀x,bo c nums k (σ.set A x):=λx=>⟨n0,s0,by assumption,by rw[af.ai _ _ n4];exact fi⟩
 simp;refine cf Tryz.func13 rfl (eM (by omega) hn ⟨by omega,by omega⟩ ⟨by omega,by omega⟩ (G _) λcP gH fl dj=>?_)
 apply rn;simp;refine cf Tryz.func63 rfl (mT (l:=[1,2,2,3,3,6]) (by omega) hn (by simp) dj.1 λaR r fp bm=>?_)
 apply rn;simp;refine bM.intro λw h5=>?_
 have Z:A≠c:=za n4;have av:pH c nums (k+2) (σ.set A (.cells fX)) r:=dj.trans bm;have ec:r A=some (.cells fX):=by rw[av.2 A Z,af.aj]
 have K:w≠c:=λe=>by subst e;obtain⟨_,_,_,q⟩:=bm.1;simp_all
 have S:w≠A:=λe=>by simp_all
 have aE:σ w=none:=by rw[av.2 w K,af.ai _ _ S]at h5;exact h5
 simp[aK]
 have ed:∀x,bo c nums (k+2) (r.set w x):=λx=>by obtain⟨n,z,h1,h2⟩:=bm.1;exact⟨n,z,by omega,by rw[af.ai _ _ (za K)];exact h2⟩
 refine cf Tryz.func13 rfl (eM (by omega) hn ⟨by omega,by omega⟩ ⟨by omega,by omega⟩ (ed _) λdV g ft dm=>?_)
 apply rn;simp;refine cf Tryz.func16 rfl (eu (by omega) hn ⟨by omega,by omega⟩ dm.1 λlo aL fu dr=>?_)
 apply rn;simp;have ax:pH c nums (k+4) (r.set w (.cells [.lit (.slice none 0 0),.lit (.slice none 0 0),int 0,int 0,int cP,int aR])) aL:=dm.trans dr;obtain⟨sp,rfl⟩:∃sp:Nat,dV=(sp:Int):=⟨dV.toNat,by omega⟩
 have gI:1<=sp/\sp<=3:=by omega
 have fv:0<=lo/\lo<=4:=by omega
 have ee:1<=cP/\cP<=4:=by omega
 have dx:aR=1\/aR=2\/aR=3\/aR=6:=by simp_all
 have eg:aL w=some (.cells [.lit (.slice none 0 0),.lit (.slice none 0 0),int 0,int 0,int cP,int aR]):=by rw[ax.2 w K,af.aj]
 have ei:aL A=some (.cells fX):=by rw[ax.2 A Z,af.ai _ _ (za S)];exact ec
 have c9:(σ.del c).Le aL:=λy x p=>by
  have y1:y≠c:=λe=>by subst e;simp[af.del]at p
  have y0:σ y=some x:=by simpa[af.del,y1]using p
  have y5:y≠w:=λe=>by simp_all
  have y4:y≠A:=λe=>by simp_all
  rw[ax.2 y y1,af.ai _ _ y5,av.2 y y1,af.ai _ _ y4];exact y0
 have b1:=dr.1;clear dj bm dm dr av ax G ed h5 ec fl fp ft fu
 refine aa.loop sp (λi s=>∃env σ' a rs,s=⟨env,σ',[],.no⟩/\env 0=.ref c 0/\env 1=int cnt/\env 4=.ref A 0/\env 5=.ref w 0/\env 6=int sp/\env 7=int lo/\env 8=int i/\bo c nums (k+4) σ'/\σ' A=some (.cells fX)/\σ' w=some (.cells [.lit (.slice none 0 0),a,int 0,int 0,int cP,int aR])/\
  Tok (σ.del c) σ' a 1 (rs.map λb:Nat=>AV.gS b 0 sp sp)/\rs.length=i/\rs.Nodup/\(∀b∈rs,σ b=none/\b≠c/\b≠A/\b≠w/\σ' b=some (.cells (List.replicate sp (int 0))))) ⟨_,aL,.lit (.slice none 0 0),[],rfl,by simp,by simp,by simp,by simp,by simp,by simp,by simp,b1,ei,eg,⟨c9,.inl ⟨rfl,rfl⟩⟩,rfl,aci,by simp⟩ ?_
 rintro c0 i _ hi ⟨env,σ',a,rs,rfl,J,e1,T,D,H,e7,e8,I,q4,V,u,b2,a7,aO⟩ ih
 have L:=u.cells
 rcases aaP i sp with g1|g1
 . have fw:(i:Int)<sp:=by omega
   have f1:-9223372036854775808<=(i:Int)+1/\(i:Int)+1<=9223372036854775807:=by omega
   have dy:∀a8:af,Tok (σ.del c) a8 a 1 (rs.map λb:Nat=>AV.gS b 0 sp sp)->∀y l,a8 y=some (.cells l)->br a≠some y:=λa8 hx y l p e=>by obtain⟨_,_,q⟩:=hx.aY e;rw[p]at q;cases q
   have fresh:∀b,σ' b=none->σ b=none/\b≠c/\b≠A/\b≠w/\w≠b/\b∉rs:=λb U=>by
    have n1:b≠c:=λe=>by subst e;obtain⟨_,_,_,q⟩:=I;simp_all
    refine⟨?_,n1,λe=>(by subst e;simp_all),λe=>(by subst e;simp_all),λe=>(by simp_all),λe=>(by rw[(aO b e).2.2.2.2]at U;cases U)⟩
    cases e:σ b with
    |none=>rfl
    |some x=>have:=u.1 b x (by simp[af.del,n1,e]);rw[U]at this;cases this
   apply rn;simp[D,H,e8,V,fw];refine⟨?_,?_⟩
   . ((
       refine tC lay rfl dC rfl rp rfl (by decide) rfl rfl (n:=sp) (by simp[H]) (by simp[H]) ⟨by omega,by omega⟩ λb U=>?_
       obtain⟨bw,a9,ab,ad,b3,al⟩:=fresh b U;have up:=u.up (af.pS (x:=.cells (List.replicate sp (int 0))) (af.le_refl _) U);have b0:(σ'.set b (.cells (List.replicate sp (int 0)))) w=some (.cells [.lit (.slice none 0 0),a,int 0,int 0,int cP,int aR]):=(af.ai _ _ b3).trans V;apply pg;simp[D,H,b0,L.1,L.2]))
     ((
       refine aN lay rfl rfl rfl qg rfl qg rfl dC (by decide) (by simp;omega) (σ0:=(σ'.set b (.cells (List.replicate sp (int 0)))).off a) (es:=rs.map λb:Nat=>AV.gS b 0 sp sp) (xs:=[AV.gS b 0 sp sp]) (by simpa using up.here.1) (.inr ⟨_,by simp;rfl⟩) λa' g t=>?_
       have B:=t.cells;have F:∀y l,(σ'.set b (.cells (List.replicate sp (int 0)))) y=some (.cells l)->g y=some (.cells l):=λy l p=>t.1 _ _ (by rw[af.dP (dy _ up y l p)];exact p)
       have Q:=F _ _ b0;apply pg;simp[D,Q,B.1,B.2,aK];apply rn;simp[e8,f1.1,f1.2];obtain⟨X,Y,G,E⟩:=I
       have C:Tok (σ.del c) g a' 1 ((rs++[b]).map λb:Nat=>AV.gS b 0 sp sp):=by have:=t.base up.here.2;simpa using this
       refine ih _ g1 ⟨_,_,a',rs++[b],rfl,by simp[J],by simp[e1],by simp[T],by simp[D],by simp[H],by simp[e7],by simp,⟨X,Y,G,?_⟩,?_,af.aj _ _ _,C.beside (by simp[af.del,K,aE]) (λe=>by obtain⟨_,_,q⟩:=C.aY e;rw[Q]at q;cases q),by simp[b2],?_,?_⟩
       . rw[af.ai _ _ (za K)];exact F _ _ ((af.ai _ _ (za a9)).trans E)
       . rw[af.ai _ _ (za S)];exact F _ _ ((af.ai _ _ (za ab)).trans q4)
       . rw[acj]
         exact⟨a7,by simp,λx hx y p=>by simp at p;subst p;exact λe=>al (e ▸ hx)⟩
       . intro d hd
         rcases aaq.1 hd with hd|hd
         . obtain⟨p1,p2,p3,p4,p5⟩:=aO d hd
           have b4:d≠b:=λe=>al (e ▸ hd)
           exact⟨p1,p2,p3,p4,by rw[af.ai _ _ p4];exact F _ _ ((af.ai _ _ b4).trans p5)⟩
         . simp at hd
           subst hd;exact⟨bw,a9,ab,ad,by rw[af.ai _ _ ad];exact F _ _ (af.aj _ _ _)⟩))
   . ((
       refine tC lay rfl dC rfl rp rfl (by decide) rfl rfl (n:=sp) (by simp[H]) (by simp[H]) ⟨by omega,by omega⟩ λb U=>?_
       obtain⟨bw,a9,ab,ad,b3,al⟩:=fresh b U;have up:=u.up (af.pS (x:=.cells (List.replicate sp (int 0))) (af.le_refl _) U);have b0:(σ'.set b (.cells (List.replicate sp (int 0)))) w=some (.cells [.lit (.slice none 0 0),a,int 0,int 0,int cP,int aR]):=(af.ai _ _ b3).trans V;apply pg;simp[D,H,b0,L.1,L.2]))
     refine⟨?_,?_⟩
     . ((
         refine aN lay rfl rfl rfl qg rfl qg rfl dC (by decide) (by simp;omega) (σ0:=(σ'.set b (.cells (List.replicate sp (int 0)))).off a) (es:=rs.map λb:Nat=>AV.gS b 0 sp sp) (xs:=[AV.gS b 0 sp sp]) (by simpa using up.here.1) (.inr ⟨_,by simp;rfl⟩) λa' g t=>?_
         have B:=t.cells;have F:∀y l,(σ'.set b (.cells (List.replicate sp (int 0)))) y=some (.cells l)->g y=some (.cells l):=λy l p=>t.1 _ _ (by rw[af.dP (dy _ up y l p)];exact p)
         have Q:=F _ _ b0;apply pg;simp[D,Q,B.1,B.2,aK];apply rn;simp[e8,f1.1,f1.2];obtain⟨X,Y,G,E⟩:=I
         have C:Tok (σ.del c) g a' 1 ((rs++[b]).map λb:Nat=>AV.gS b 0 sp sp):=by have:=t.base up.here.2;simpa using this
         refine ih _ g1 ⟨_,_,a',rs++[b],rfl,by simp[J],by simp[e1],by simp[T],by simp[D],by simp[H],by simp[e7],by simp,⟨X,Y,G,?_⟩,?_,af.aj _ _ _,C.beside (by simp[af.del,K,aE]) (λe=>by obtain⟨_,_,q⟩:=C.aY e;rw[Q]at q;cases q),by simp[b2],?_,?_⟩
         . rw[af.ai _ _ (za K)];exact F _ _ ((af.ai _ _ (za a9)).trans E)
         . rw[af.ai _ _ (za S)];exact F _ _ ((af.ai _ _ (za ab)).trans q4)
         . rw[acj]
           exact⟨a7,by simp,λx hx y p=>by simp at p;subst p;exact λe=>al (e ▸ hx)⟩
         . intro d hd
           rcases aaq.1 hd with hd|hd
           . obtain⟨p1,p2,p3,p4,p5⟩:=aO d hd
             have b4:d≠b:=λe=>al (e ▸ hd)
             exact⟨p1,p2,p3,p4,by rw[af.ai _ _ p4];exact F _ _ ((af.ai _ _ b4).trans p5)⟩
           . simp at hd
             subst hd;exact⟨bw,a9,ab,ad,by rw[af.ai _ _ ad];exact F _ _ (af.aj _ _ _)⟩))
     . ((
         refine aN lay rfl rfl rfl qg rfl qg rfl dC (by decide) (by simp;omega) (σ0:=(σ'.set b (.cells (List.replicate sp (int 0)))).off a) (es:=rs.map λb:Nat=>AV.gS b 0 sp sp) (xs:=[AV.gS b 0 sp sp]) (by simpa using up.here.1) (.inr ⟨_,by simp;rfl⟩) λa' g t=>?_
         have B:=t.cells;have F:∀y l,(σ'.set b (.cells (List.replicate sp (int 0)))) y=some (.cells l)->g y=some (.cells l):=λy l p=>t.1 _ _ (by rw[af.dP (dy _ up y l p)];exact p)
         have Q:=F _ _ b0;apply pg;simp[D,Q,B.1,B.2,aK];apply rn;simp[e8,f1.1,f1.2];obtain⟨X,Y,G,E⟩:=I
         have C:Tok (σ.del c) g a' 1 ((rs++[b]).map λb:Nat=>AV.gS b 0 sp sp):=by have:=t.base up.here.2;simpa using this
         refine ih _ g1 ⟨_,_,a',rs++[b],rfl,by simp[J],by simp[e1],by simp[T],by simp[D],by simp[H],by simp[e7],by simp,⟨X,Y,G,?_⟩,?_,af.aj _ _ _,C.beside (by simp[af.del,K,aE]) (λe=>by obtain⟨_,_,q⟩:=C.aY e;rw[Q]at q;cases q),by simp[b2],?_,?_⟩
         . rw[af.ai _ _ (za K)];exact F _ _ ((af.ai _ _ (za a9)).trans E)
         . rw[af.ai _ _ (za S)];exact F _ _ ((af.ai _ _ (za ab)).trans q4)
         . rw[acj]
           exact⟨a7,by simp,λx hx y p=>by simp at p;subst p;exact λe=>al (e ▸ hx)⟩
         . intro d hd
           rcases aaq.1 hd with hd|hd
           . obtain⟨p1,p2,p3,p4,p5⟩:=aO d hd
             have b4:d≠b:=λe=>al (e ▸ hd)
             exact⟨p1,p2,p3,p4,by rw[af.ai _ _ p4];exact F _ _ ((af.ai _ _ b4).trans p5)⟩
           . simp at hd
             subst hd;exact⟨bw,a9,ab,ad,by rw[af.ai _ _ ad];exact F _ _ (af.aj _ _ _)⟩))
 . have fx:sp=i:=by omega
   subst fx;clear ih b1 eg ei c9
   obtain⟨spr,rfl⟩:∃spr,a=.sl 1 (rs.map λb:Nat=>AV.gS b 0 sp sp) spr:=by
    rcases u.2 with⟨_,e⟩|e|⟨_,_,_,e,_⟩
    . have:=congrArg List.length e
      grind
    . simp_all
    simp_all
   have N:=u.1;clear u
   have bA:∀(j:Nat) (hj:j<rs.length),σ rs[j]=none/\rs[j]≠c/\rs[j]≠A/\rs[j]≠w:=λj hj=>by simp_all
   apply rn;simp[H,e8]
   have o:∀(j:Nat) (hj:j<rs.length),σ' rs[j]=some (.cells (((List.replicate sp (List.replicate sp (0:Int))).getD j []).map int)):=λj hj=>by
    rw[(aO _ (zD hj)).2.2.2.2]
    simp_all
   clear aO
   refine aa.loop sp (λi s=>∃env σ' M,s=⟨env,σ',[],.no⟩/\env 0=.ref c 0/\env 1=int cnt/\env 4=.ref A 0/\env 5=.ref w 0/\env 6=int sp/\env 7=int lo/\env 9=int i/\bo c nums (k+4+3*i) σ'/\σ' A=some (.cells fX)/\σ' w=some (.cells [.lit (.slice none 0 0),.sl 1 (rs.map λb:Nat=>AV.gS b 0 sp sp) spr,int 0,int 0,int cP,int aR])/\
    (σ.del c).Le σ'/\HU sp lo i 0 M/\∀(j:Nat) (hj:j<rs.length),σ' rs[j]=some (.cells ((M.getD j []).map int))) ⟨_,σ',_,rfl,by simp[J],by simp[e1],by simp[T],by simp[D],by simp[H],by simp[e7],by simp,I,q4,V,N,HU.start sp lo,o⟩ ?_
   clear J e1 T D H e7 e8 I q4 V N o
   rintro c1 i _ gP ⟨env,σ',M,rfl,J,e1,T,D,H,e7,e9,I,q4,V,N,hM,o⟩ ih
   rcases aaP i sp with g2|g2
   . have FF:(i:Int)<sp:=by omega
     apply rn;simp[H,e9,FF]
     refine aa.loop i (λj s=>∃env σ' M,s=⟨env,σ',[],.no⟩/\env 0=.ref c 0/\env 1=int cnt/\env 4=.ref A 0/\env 5=.ref w 0/\env 6=int sp/\env 7=int lo/\env 9=int i/\env 10=int j/\bo c nums (k+4+3*i+j) σ'/\σ' A=some (.cells fX)/\σ' w=some (.cells [.lit (.slice none 0 0),.sl 1 (rs.map λb:Nat=>AV.gS b 0 sp sp) spr,int 0,int 0,int cP,int aR])/\
      (σ.del c).Le σ'/\HU sp lo i j M/\∀(j:Nat) (hj:j<rs.length),σ' rs[j]=some (.cells ((M.getD j []).map int))) ⟨_,σ',M,rfl,by simp[J],by simp[e1],by simp[T],by simp[D],by simp[H],by simp[e7],by simp[e9],by simp,I,q4,V,N,hM,o⟩ ?_
     clear J e1 T D H e7 e9 I q4 V N hM o
     rintro c2 j _ hj ⟨env,σ',M,rfl,J,e1,T,D,H,e7,e9,aZ,I,q4,V,N,hM,o⟩ ej
     rcases aaP j i with g3|g3
     . have Hy:(j:Int)<i:=by omega
       have f1:-9223372036854775808<=(j:Int)+1/\(j:Int)+1<=9223372036854775807:=by omega
       have f2:-9223372036854775808<=2*lo/\2*lo<=9223372036854775807:=by omega
       apply rn;simp[J,e7,e9,aZ,Hy,f2.1,f2.2];refine cf Tryz.func13 rfl (eM (by omega) hn ⟨by omega,by omega⟩ ⟨by omega,by omega⟩ I λv r hv hd=>?_)
       have s5:r w=some (.cells [.lit (.slice none 0 0),.sl 1 (rs.map λb:Nat=>AV.gS b 0 sp sp) spr,int 0,int 0,int cP,int aR]):=by rw[hd.2 w K];exact V
       have s4:r A=some (.cells fX):=by rw[hd.2 A Z];exact q4
       have ca:i<rs.length:=by omega
       have cb:j<rs.length:=by omega
       obtain⟨z1,z2,z3,z4⟩:=bA i ca;obtain⟨y1,y2,y3,y4⟩:=bA j cb;have si:r rs[i]=some (.cells ((M.getD i []).map int)):=by rw[hd.2 _ z2];exact o i ca
       have sj:r rs[j]=some (.cells ((M.getD j []).map int)):=by rw[hd.2 _ y2];exact o j cb
       have fO:rs[i]≠rs[j]:=tN a7 (by omega)
       have ep:=za fO;obtain⟨Ri,et⟩:∃R,R=M.getD i []:=⟨_,rfl⟩;obtain⟨Rj,ev⟩:∃R,R=M.getD j []:=⟨_,rfl⟩;have li:=hM.row i (by omega)
       have lj:=hM.row j (by omega)
       rw[<-et]at si li;rw[<-ev]at sj lj;have gd:j+1<=sp:=by omega
       have gf:i+1<=sp:=by omega
       have g4:j<sp:=by omega
       have gj:(j:Int)<sp:=by omega
       have ey:(i:Int)<sp:=by omega
       have hF:∀g,g=(r.set rs[i] (.cells ((Ri.map int).set j (int v)))).set rs[j] (.cells ((Rj.map int).set i (int v)))->bo c nums (k+4+3*i+(j+1)) g/\g A=some (.cells fX)/\g w=some (.cells [.lit (.slice none 0 0),.sl 1 (rs.map λb:Nat=>AV.gS b 0 sp sp) spr,int 0,int 0,int cP,int aR])/\(σ.del c).Le g/\∀(l:Nat) (hl:l<rs.length),g rs[l]=some (.cells (((zz M i j v).getD l []).map int)):=λg e3=>by
        subst e3;refine⟨?_,?_,?_,λy x p=>?_,λl hl=>?_⟩
        . obtain⟨X,Y,G,E⟩:=hd.1
          exact⟨X,Y,by omega,by rw[af.ai _ _ (za y2),af.ai _ _ (za z2)];exact E⟩
        . rw[af.ai _ _ (za y3),af.ai _ _ (za z3)];exact s4
        . rw[af.ai _ _ (za y4),af.ai _ _ (za z4)];exact s5
        . have w1:y≠c:=λe=>by subst e;simp[af.del]at p
          have w0:σ y=some x:=by simpa[af.del,w1]using p
          have w2:y≠rs[i]:=λe=>by rw[e,z1]at w0;cases w0
          have w3:y≠rs[j]:=λe=>by rw[e,y1]at w0;cases w0
          rw[af.ai _ _ w3,af.ai _ _ w2,hd.2 y w1];exact N y x p
        . rw [AA (by rw[hM.len];omega) (by rw[hM.len];omega) (by omega),<-et,<-ev]
          by_cases q1:l=j
          . subst q1
            rw[aal rfl,af.aj,ace]
          . rw[aaj q1,af.ai _ _ (tN a7 q1)]
            by_cases q2:l=i
            . subst q2
              rw[aal rfl,af.aj,ace]
            . rw[aaj q2,af.ai _ _ (tN a7 q2),hd.2 _ (bA l hl).2.1]
              exact o l hl
       have O:=hF _ rfl;clear hF;apply rn;simp[D,e9,aZ,s5,b2,g2,g4,gj,ey,gd,gf,li,lj,si,sj,af.ai,ep];refine⟨?_,?_⟩
       . apply rn
         simp[aZ,f1.1,f1.2];refine ej _ g3 ⟨_,_,zz M i j v,rfl,?_,?_,?_,?_,?_,?_,?_,?_,O.1,O.2.1,O.2.2.1,O.2.2.2.1,hM.next (by omega) g3 ⟨hv.1,by omega⟩,O.2.2.2.2⟩<;>simp[J,e1,T,D,H,e7,e9]
       . apply rn
         simp[aZ,f1.1,f1.2];refine ej _ g3 ⟨_,_,zz M i j v,rfl,?_,?_,?_,?_,?_,?_,?_,?_,O.1,O.2.1,O.2.2.1,O.2.2.2.1,hM.next (by omega) g3 ⟨hv.1,by omega⟩,O.2.2.2.2⟩<;>simp[J,e1,T,D,H,e7,e9]
     . have gl:i=j:=by omega
       subst gl;have f1:-9223372036854775808<=(i:Int)+1/\(i:Int)+1<=9223372036854775807:=by omega
       apply rn;simp[e9,aZ,f1.1,f1.2];refine ih _ g2 ⟨_,_,M,rfl,?_,?_,?_,?_,?_,?_,?_,I.mono (by omega),q4,V,N,hM.line,o⟩<;>simp[J,e1,T,D,H,e7]
   . have gp:sp=i:=by omega
     subst gp;clear ih;have ez:∀l,l<rs.length->(M.getD l []).length=sp:=λl hl=>hM.row l (by omega)
     have eA:w∉rs:=λe=>by
      obtain⟨l,hl,e'⟩:=aaH.1 e
      grind
     have ay:rs.map (λb:Nat=>AV.gS b 0 sp sp)=iW rs M sp 0:=by
      apply List.ext_getElem?;intro l
      by_cases hl:l<rs.length
      . rw[o0 hl,aaj (by omega),aaK,zR hl]
        grind
      . rw[abg (by simp_all),abg (by rw[oZ];omega)]
     have aC:iW rs M sp rs.length=M.map ints:=by
      have gw:=hM.len;apply List.ext_getElem?;intro l
      by_cases hl:l<rs.length
      . have gx:l<M.length:=by omega
        rw[o0 hl,aal hl,aaK,zR gx]
        simp_all
      . rw[abg (by rw[oZ];omega),abg (by simp_all)]
     rw[ay]at V;refine Ei (d:=w) (n:=sp) (at_:=1) (rs:=rs) (M:=M) (cs:=[.lit (.slice none 0 0),.cC,int 0,int 0,int cP,int aR]) (spr:=spr) σ' a7 ez (by simp) eA (λg eB eK=>?_) rs.length 0 (by omega) σ' (by simp_all) (λl hl _=>o l hl) (λ_ _ _=>rfl)
     rw[aC]at eB;have gG:=hM.fin;have gw:=hM.len
     have F:∀(j:Nat),j≠w->(∀(l:Nat) (hl:l<rs.length),rs[l]≠j)->g j=σ' j:=λj h1 h2=>eK j h1 λe=>by
      obtain⟨l,hl,e'⟩:=aaH.1 e
      grind
     have eN:bo c nums (k+4+3*sp) g:=by obtain⟨X,Y,G,E⟩:=I;exact⟨X,Y,G,by grind⟩
     have eR:g A=some (.cells fX):=by grind
     have eW:g w=some (.cells [.lit (.slice none 0 0),.sl 1 (M.map ints) spr,int 0,int 0,int cP,int aR]):=by grind
     have cg:(σ.del c).Le g:=λy x p=>by
      have w1:y≠c:=λe=>by subst e;simp[af.del]at p
      have w0:σ y=some x:=by simpa[af.del,w1]using p
      rw[F y (λe=>by grind) (λl hl e=>by grind)]
      exact N y x p
     clear eB eK o ay aC I q4 V N hM ez eA F bA a7 b2;apply rn;simp[J,H,e9];refine cf Tryz.func16 rfl (eu (by omega) hn ⟨by omega,by omega⟩ eN λfr aL gR b5=>?_)
     apply rn;simp[J];refine cf Tryz.func13 rfl (eM (by omega) hn ⟨by omega,by omega⟩ ⟨by omega,by omega⟩ b5.1 λto bB gU b6=>?_)
     have Q:bB w=some (.cells [.lit (.slice none 0 0),.sl 1 (M.map ints) spr,int 0,int 0,int cP,int aR]):=by rw[b6.2 w K,b5.2 w K];exact eW
     apply rn;simp[J,e1,D,Q,aK];have t4:bB A=some (.cells fX):=by rw[b6.2 A Z,b5.2 A Z];exact eR
     have cm:(σ.del c).Le bB:=λy x p=>by
      have w1:y≠c:=λe=>by subst e;simp[af.del]at p
      rw[b6.2 y w1,b5.2 y w1];exact cg y x p
     have eX:∀x,bo c nums (k+6+3*sp) (bB.set w x):=λx=>by obtain⟨n,z,h1,h2⟩:=b6.1;exact⟨n,z,by omega,by rw[af.ai _ _ (za K)];exact h2⟩
     refine cf Tryz.func16 rfl (eu (by omega) hn ⟨by omega,by omega⟩ (eX _) λq c6 h3 b7=>?_)
     apply rn;simp;have u5:c6 w=some (.cells [.lit (.slice none 0 0),.sl 1 (M.map ints) spr,int fr,int to,int cP,int aR]):=by rw[b7.2 w K,af.aj]
     have u4:c6 A=some (.cells fX):=by rw[b7.2 A Z,af.ai _ _ (za S)];exact t4
     have cr:(σ.del c).Le c6:=λy x p=>by
      have w1:y≠c:=λe=>by subst e;simp[af.del]at p
      have w0:σ y=some x:=by simpa[af.del,w1]using p
      rw[b7.2 y w1,af.ai _ _ (λe=>by simp_all)];exact cm y x p
     obtain⟨qn,rfl⟩:∃qn:Nat,q=(qn:Int):=⟨q.toNat,by omega⟩
     have h6:(qn:Int)<=cnt:=by omega
     have cv:=b7.1;clear b5 b6 b7 eX eN eR eW cg cm Q t4
     refine aa.loop qn (λi s=>∃env σ' a es,s=⟨env,σ',[],.no⟩/\env 0=.ref c 0/\env 4=.ref A 0/\env 5=.ref w 0/\env 6=int sp/\env 13=int ((qn:Int)-i)/\bo c nums (k+7+3*sp+11*i) σ'/\σ' A=some (.cells fX)/\σ' w=some (.cells [a,.sl 1 (M.map ints) spr,int fr,int to,int cP,int aR])/\
      Tok (σ.del c) σ' a 6 (es.map bx)/\es.length=i/\(∀e∈es,yw sp e)/\(es=[]->a=.lit (.slice none 0 0))) ⟨_,c6,.lit (.slice none 0 0),[],rfl,by simp[J],by simp[T],by simp[D],by simp[H],by simp,cv.mono (by omega),u4,u5,⟨cr,.inl ⟨rfl,rfl⟩⟩,rfl,by simp,λ_=>rfl⟩ ?_
     clear J e1 T D H e7 e9 cv u4 u5 cr
     rintro c3 i _ h7 ⟨env,σ',a,es,rfl,J,T,D,H,b8,c7,q4,V,u,ea,eb,fc⟩ ih
     have L:=u.cells;have b9:∀a8:af,Tok (σ.del c) a8 a 6 (es.map bx)->∀y l,a8 y=some (.cells l)->br a≠some y:=λa8 hx y l p e=>by obtain⟨_,_,q⟩:=hx.aY e;grind
     have fg:∃l,σ' c=some (.cells l):=by obtain⟨_,_,_,q⟩:=c7;grind
     rcases aaP i qn with g1|g1
     . have f1 : -9223372036854775808<=(qn:Int)-i-1/\(qn:Int)-i-1<=9223372036854775807:=by omega
       apply rn;simp[J,D,H,b8,V,g1];refine⟨?_,?_⟩
       . ((
           refine cf Tryz.func61 rfl (oX (by omega) hn ⟨by omega,by omega⟩ c7 λe r he hd=>?_)
           have s5:r w=some (.cells [a,.sl 1 (M.map ints) spr,int fr,int to,int cP,int aR]):=by rw[hd.2 w K];exact V
           have s4:r A=some (.cells fX):=by rw[hd.2 A Z];exact q4
           have P:Tok (σ.del c) r a 6 (es.map bx):=qV u (by simp[af.del]) fg hd.2
           apply pg;simp[D,s5,L.1,L.2]))
         ((
           refine aN lay rfl rfl rfl nk rfl nk rfl zw (by decide) (by simp;omega) (σ0:=r.off a) (es:=es.map bx) (xs:=[bx e]) (by simpa using P.here.1) (.inr ⟨_,by simp;rfl⟩) λa' g t=>?_
           have B:=t.cells;have F:∀y l,r y=some (.cells l)->g y=some (.cells l):=λy l p=>t.1 _ _ (by rw[af.dP (b9 _ P y l p)];exact p)
           have Q:=F _ _ s5;have t4:=F _ _ s4;apply pg;simp[D,Q,B.1,B.2,aK];apply rn;simp[b8,f1.1,f1.2];obtain⟨X,Y,G,E⟩:=hd.1
           have C:Tok (σ.del c) g a' 6 ((es++[e]).map bx):=by have:=t.base P.here.2;simpa using this
           refine ih _ g1 ⟨_,_,a',es++[e],rfl,by simp[J],by simp[T],by simp[D],by simp[H],by simp;omega,⟨X,Y,by omega,?_⟩,?_,af.aj _ _ _,C.beside (by simp[af.del,K,aE]) (λe=>by obtain⟨_,_,q⟩:=C.aY e;rw[Q]at q;cases q),by simp[ea],?_,λe=>by simp at e⟩
           . rw[af.ai _ _ (za K)];exact F _ _ E
           . rw[af.ai _ _ (za S)];exact t4
           . intro x hx
             rcases aaq.1 hx with hx|hx
             . exact eb x hx
             . simp at hx;subst hx;exact he))
       . ((
           refine cf Tryz.func61 rfl (oX (by omega) hn ⟨by omega,by omega⟩ c7 λe r he hd=>?_)
           have s5:r w=some (.cells [a,.sl 1 (M.map ints) spr,int fr,int to,int cP,int aR]):=by rw[hd.2 w K];exact V
           have s4:r A=some (.cells fX):=by rw[hd.2 A Z];exact q4
           have P:Tok (σ.del c) r a 6 (es.map bx):=qV u (by simp[af.del]) fg hd.2
           apply pg;simp[D,s5,L.1,L.2]))
         refine⟨?_,?_⟩
         . ((
             refine aN lay rfl rfl rfl nk rfl nk rfl zw (by decide) (by simp;omega) (σ0:=r.off a) (es:=es.map bx) (xs:=[bx e]) (by simpa using P.here.1) (.inr ⟨_,by simp;rfl⟩) λa' g t=>?_
             have B:=t.cells;have F:∀y l,r y=some (.cells l)->g y=some (.cells l):=λy l p=>t.1 _ _ (by rw[af.dP (b9 _ P y l p)];exact p)
             have Q:=F _ _ s5;have t4:=F _ _ s4;apply pg;simp[D,Q,B.1,B.2,aK];apply rn;simp[b8,f1.1,f1.2];obtain⟨X,Y,G,E⟩:=hd.1
             have C:Tok (σ.del c) g a' 6 ((es++[e]).map bx):=by have:=t.base P.here.2;simpa using this
             refine ih _ g1 ⟨_,_,a',es++[e],rfl,by simp[J],by simp[T],by simp[D],by simp[H],by simp;omega,⟨X,Y,by omega,?_⟩,?_,af.aj _ _ _,C.beside (by simp[af.del,K,aE]) (λe=>by obtain⟨_,_,q⟩:=C.aY e;rw[Q]at q;cases q),by simp[ea],?_,λe=>by simp at e⟩
             . rw[af.ai _ _ (za K)];exact F _ _ E
             . rw[af.ai _ _ (za S)];exact t4
             . intro x hx
               rcases aaq.1 hx with hx|hx
               . exact eb x hx
               . simp at hx;subst hx;exact he))
         . ((
             refine aN lay rfl rfl rfl nk rfl nk rfl zw (by decide) (by simp;omega) (σ0:=r.off a) (es:=es.map bx) (xs:=[bx e]) (by simpa using P.here.1) (.inr ⟨_,by simp;rfl⟩) λa' g t=>?_
             have B:=t.cells;have F:∀y l,r y=some (.cells l)->g y=some (.cells l):=λy l p=>t.1 _ _ (by rw[af.dP (b9 _ P y l p)];exact p)
             have Q:=F _ _ s5;have t4:=F _ _ s4;apply pg;simp[D,Q,B.1,B.2,aK];apply rn;simp[b8,f1.1,f1.2];obtain⟨X,Y,G,E⟩:=hd.1
             have C:Tok (σ.del c) g a' 6 ((es++[e]).map bx):=by have:=t.base P.here.2;simpa using this
             refine ih _ g1 ⟨_,_,a',es++[e],rfl,by simp[J],by simp[T],by simp[D],by simp[H],by simp;omega,⟨X,Y,by omega,?_⟩,?_,af.aj _ _ _,C.beside (by simp[af.del,K,aE]) (λe=>by obtain⟨_,_,q⟩:=C.aY e;rw[Q]at q;cases q),by simp[ea],?_,λe=>by simp at e⟩
             . rw[af.ai _ _ (za K)];exact F _ _ E
             . rw[af.ai _ _ (za S)];exact t4
             . intro x hx
               rcases aaq.1 hx with hx|hx
               . exact eb x hx
               . simp at hx;subst hx;exact he))
     . have gA:i=qn:=by omega
       subst gA;apply rn;simp[T,D,b8,V,L.2,q4,aK];obtain⟨X,Y,G,E⟩:=c7;obtain⟨f,hf⟩:∃f:Fr,f=⟨es,M,fr,to,cP,aR⟩:=⟨_,rfl⟩
       have gB:uY cnt f:=by
        subst hf;refine⟨ee,dx,by grind,⟨lo,fv,by grind⟩,by grind,by grind,by grind,λe he=>?_⟩
        grind
       obtain⟨a2,gC,h8⟩:∃a2,((f.aD=[]->a2=.lit (.slice none 0 0))/\(f.aD≠[]->a2=jC f.aD))/\a.W a2:=by
        by_cases e:es=[]
        . exact⟨_,⟨λ_=>rfl,λe2=>absurd (by grind) e2⟩,by rw[fc e];exact .refl _⟩
        . exact⟨_,⟨λe2=>absurd (by grind) e,λ_=>rfl⟩,by subst hf;exact u.W⟩
       refine .pD (a':=.agg [a2,rows f.roads,int f.aU,int f.eT,int f.cP,int f.aR]) (qm (by grind) λi x y x1 x2=>?_) (.less (σ':=σ.set c (.cells [ints nums,int X,.lit (.int .u64 Y)])) (λy x p=>?_) (.done (h f a2 _ gB ⟨⟨X,Y,by omega,af.aj _ _ _⟩,λy p=>af.ai _ _ p⟩ gC)))
       . subst hf
         match i with
         |0=>grind
         |1=>simp at x1 x2;subst x1;subst x2;exact fS 1 _ spr
         |2=>simp at x1 x2;subst x1;subst x2;exact .refl _
         |3=>simp at x1 x2;subst x1;subst x2;exact .refl _
         |4=>simp at x1 x2;subst x1;subst x2;exact .refl _
         |5=>simp at x1 x2;subst x1;subst x2;exact .refl _
         |i+6=>simp at x1
       . by_cases y1:y=c
         . subst y1
           rw[af.aj]at p;rw[af.ai _ _ n4,E];exact p
         . rw[af.ai _ _ y1]at p
           have y4:y≠A:=λe=>by grind
           rw[af.ai _ _ y4];exact u.1 y x (by simpa[af.del,y1]using p)
end
end
section
open Go.cE Go.Conc
theorem NN{f}(b:f.Good)  e :bW f e≠[]:=by
 unfold bW je;have:=b.le;by_cases a:e.jJ=0
 . simp[a]
 . have c:(f.eT-f.aU+1).toNat=(f.eT-f.aU).toNat+1:=by omega
   rw[aal a,c,List.range_succ_eq_map];split<;>simp
def NO(f:Fr)(l:acX):acX:=(bW f (aS f (l.getD 0 0))).filter λh=>l.all λj=>decide (h∈bW f (aS f j))
theorem Ej{f l}(b:l≠[]):gg f l=NO f l:=by
 match l,b with
 | a::r,_=>
   simp only[gg,NO,iK,ack,List.getD_cons_zero];refine abw λx c=>?_
   simp[c,aap]
theorem tO  f :∀  l   p ,(∀x∈l,0<=x/\x<f.aD.length)->l.Pairwise (·<·)->(∀q,p=some q->∀x∈l,q<x)->iQ f p l=0
 |[],_,_,_,_=>rfl
 | a :: l,p,d,e,g=>by
   have h:=d a (by simp);have b:=aaL.1 e;have i:bz a 0 (f.aD.length-1)=true:=by simp[bz,h.1];omega
   have j:rK p a=false:=by
    cases p with
    |none=>rfl
    | some q=>
      have:=g q rfl a (by simp);simp[rK];omega
   unfold iQ;rw[i,aaj (by simp),j,aaj (by simp)];exact tO f l (some a) (λx c=>d x (by simp[c])) b.2 (λq k x c=>by cases k;exact b.1 x c)
section
variable{k:Int->Int}
abbrev Ek(k:Int->Int):Int->Int->Bool:=λa b=>decide (k a<k b)
def Dn(k:Int->Int)(r:acX):Prop:=r.Pairwise λy z=>k z<=k y
theorem El  x :∀{r},(∀z∈r,k z<=k x)->eL (Ek k) x r=x::r
 |[],_=>rfl
 | y::r,h=>by
   unfold eL
   grind
theorem AB  x :∀{r z},z∈eL (Ek k) x r->z=x\/z∈r
 |[],z,h=>by simp[eL]at h;exact .inl h
 | y :: r,z,h=>by
   unfold eL at h;split at h
   . rcases aaD.1 h with rfl|h
     . simp_all
     . rcases AB x h with h|h
       . exact .inl h
       simp_all
   simp_all
theorem wM  x :∀{r},Dn k r->Dn k (eL (Ek k) x r)
 |[],_=>by simp[eL,Dn]
 | y ::r,h=>by
   obtain⟨d,b⟩:=aaL.1 h;unfold eL;split
   . next q=>
     have c:k x<k y:=by simp_all
     refine aaL.2 ⟨λz a=>?_,wM x b⟩;rcases AB x a with rfl|a
     . omega
     simp_all
   . next q=>
     have c:¬k x<k y:=by simp_all
     refine aaL.2 ⟨λz a=>?_,h⟩
     grind
theorem Ca{x y r}(h:k x<k y):eL (Ek k) x (y::r)=y::eL (Ek k) x r:=by simp[eL,Ek,h]
theorem Cb{x y r}(h:¬k x<k y):eL (Ek k) x (y::r)=x::y::r:=by simp[eL,Ek,h]
theorem Em  x :∀r:acX,r.Sublist (eL (Ek k) x r)
 |[]=>List.nil_sublist _
 | y::r=>by
   unfold eL;split
   . exact(Em x r).cons_cons y
   simp_all
theorem NP  x  {d r}(a:d.Sublist r) (hd:Dn k r):(eL (Ek k) x d).Sublist (eL (Ek k) x r):=by
 induction a with
 |slnil=>simp_all
 | cons y a b=>
   obtain⟨e,c⟩:=aaL.1 hd;by_cases q:k x<k y
   . rw[Ca q]
     exact(b c).cons y
   . rw[Cb q,El x (λz f=>by grind)]
     simp_all
 | cons_cons y a b=>
   obtain⟨e,c⟩:=aaL.1 hd;by_cases q:k x<k y
   . rw[Ca q,Ca q]
     exact(b c).cons_cons y
   . rw[Cb q,Cb q]
     simp_all
theorem J2{d l:acX}(b:d.Sublist l):∀{a r},a.Sublist r->Dn k r->(d.foldl (λr x=>eL (Ek k) x r) a).Sublist (l.foldl (λr x=>eL (Ek k) x r) r):=by
 induction b with
 |slnil=>simp_all
 |cons x b c=>intro a r h hd;exact c (h.trans (Em x r)) (wM x hd)
 |cons_cons x b c=>intro a r h hd;exact c (NP x h hd) (wM x hd)
end
theorem mU  f   l :ba f l=(eV (Ek λn=>(aS f n).hour) l).reverse:=by
 unfold ba;congr 2;funext a b;unfold uX B3 Ek
 grind
theorem Cc{f a l}(b:a.Sublist l):(ba f a).Sublist (ba f l):=by rw[mU,mU];exact(J2 b (List.Sublist.refl _) List.Pairwise.nil).reverse
theorem tP{f l n}:n∈ba f l↔n∈l:=by unfold ba;rw[List.mem_reverse,uW]
theorem Sl:∀a:Fin 32,∀b:Fin 32,∀c:Fin 32,bP (a.val:Int) (c.val:Int)<=bP (a.val:Int) (b.val:Int)+bP (b.val:Int) (c.val:Int):=by decide +kernel
theorem lD{l}(h:tD none l=0):∃a:Fin 32,aT l=(a.val:Int):=by have:=ku (qU h);exact⟨⟨(aT l).toNat,by omega⟩,by grind⟩
def Fit(f:Fr)(a b:Int):Prop:=gO f a b=false
theorem Fr.Good.tri{f:Fr}(a:f.Good){i j k}(hi:i<f.roads.length)(hj:j<f.roads.length)(b:k<f.roads.length):rd f.roads i k<=rd f.roads i j+rd f.roads j k:=by
 have h:=a.Kv;unfold fV at h;split at h
 . cases h
 split at h
 . cases h
 split at h
 . omega
 split at h
 . cases h
 next q=>
 simp only[aaN,aai,not_exists,not_and]at q;have c:=q i hi k b;unfold dQ at c
 grind
theorem fY{f n}(h:0<=n/\n<f.aD.length):aS f n∈f.aD:=by
 have:n.toNat<f.aD.length:=by omega
 rw[tL this]
 simp_all
theorem AE{f}(d:f.Good){a b c}(q:0<=a/\a<f.aD.length)(hb:0<=b/\b<f.aD.length)(r:0<=c/\c<f.aD.length)(e:Fit f a b)(g:Fit f b c):Fit f a c:=by
 have h:=nR (d.tH _ (fY q));have l:=nR (d.tH _ (fY hb));have m:=nR (d.tH _ (fY r));have hd:=d.cP;obtain⟨A,n⟩:=lD h.2.2.2.2.2;obtain⟨B,o⟩:=lD l.2.2.2.2.2;obtain⟨C,p⟩:=lD m.2.2.2.2.2;have s:=Sl A B C;have t:=h.2.1;have u:=l.2.1;have pc:=m.2.1;have v:=d.tri (i:=(aS f a).place.toNat) (j:=(aS f b).place.toNat) (k:=(aS f c).place.toNat) (by omega) (by omega) (by omega);unfold Fit gO at e g ⊢;rw[n,o]at e;rw[o,p]at g;rw[n,p];simp only[aaW]at e g ⊢;have w:f.cP*bP (A.val:Int) (C.val:Int)<=f.cP*(bP (A.val:Int) (B.val:Int)+bP (B.val:Int) (C.val:Int)):=Int.mul_le_mul_of_nonneg_left s (by omega)
 grind
theorem yx  f   a b   r :dz f (a::b::r)=(gO f a b||dz f (b::r)):=by
 unfold dz;rw[show(a::b::r).length-1=r.length+1 from rfl,List.range_succ_eq_map,List.any_cons,List.any_map];rfl
theorem uZ{f}(e:f.Good):∀{l},(∀n∈l,0<=n/\n<f.aD.length)->dz f l=false->l.Pairwise (Fit f)
 |[],_,_=>List.Pairwise.nil
 |[a],_,_=>List.pairwise_singleton _ _
 | a::b::r,d,h=>by
   rw[yx,abW]at h;have g:=uZ e (λn i=>d n (by simp[i])) h.2;refine aaL.2 ⟨λz j=>?_,g⟩;rcases aaD.1 j with rfl|c
   . exact h.1
   . exact AE e (d a (by simp)) (d b (by simp)) (d z (by simp[c])) h.1 ((aaL.1 g).1 z c)
theorem qW{f}:∀{l},l.Pairwise (Fit f)->dz f l=false
 |[],_=>rfl
 |[a],_=>rfl
 |a::b::r,h=>by obtain⟨c,d⟩:=aaL.1 h;rw[yx,qW d,Bool.or_false];exact c b (by simp)
theorem qX{f l}(b:l≠[]){h}:h∈gg f l↔∀j∈l,h∈bW f (aS f j):=by
 rw[Ej b]
 match l,b with
 | a::r,_=>
   simp only[NO,aaR,aap,KD]
   simp_all
theorem qo{f l}:jD f l=0↔eh f (ba f l)=false/\cV f (ba f l)=false/\dz f (ba f l)=false:=by
 unfold jD
 grind
theorem Qf{f}(m:f.Good){c l}(o:c.Sublist l)(p:c≠[])(q:∀n∈l,0<=n/\n<f.aD.length)(h:jD f l=0):jD f c=0:=by
 obtain⟨s,g,t⟩:=qo.1 h;have i:=Cc (f:=f) o
 have b:ba f c≠[]:=λe=>by
  cases c with
  |nil=>grind
  |cons a r=>have:a∈ba f (a::r):=tP.2 (by simp);simp_all
 have d:ba f l≠[]:=λe=>b (by simp_all)
 have u:∀n∈ba f l,0<=n/\n<f.aD.length:=λn v=>q n (tP.1 v)
 generalize ba f l=S at *;refine qo.2 ⟨?_,?_,qW ((uZ m u t).sublist i)⟩
 . generalize ba f c=k at *
   unfold eh at s ⊢
   grind
 . generalize ba f c=k at *
   unfold cV at g ⊢;simp only[aaW]at g ⊢;obtain⟨x,w⟩:=abE _ g;have:x∈gg f k:=(qX b).2 λj y=>(qX d).1 w j (i.subset y)
   grind
theorem Sm{f}(b:f.Good)  n :jD f [n]=0:=by
 have e:ba f [n]=[n]:=by simp[ba,eV,eL]
 refine qo.2 ?_;rw[e];refine⟨by simp[eh],?_,rfl⟩;unfold cV;simp only[aaW];obtain⟨x,c⟩:=abE _ (NN b (aS f n));exact abK ((qX (by simp)).2 (λj a=>by simp at a;subst a;exact c))
theorem HV{α β:Type}{B}{g:α->List β}:∀(l:List α),(∀x∈l,(g x).length<=B)->(l.flatMap g).length<=l.length*B
 |[],_=>by simp
 | a::l,h=>by
   rw[abR,aas,aaI,abY,Nat.one_mul];have c:=h a (by simp);have d:=HV l λx b=>h x (by simp[b])
   omega
theorem En{f}(a:f.Good)  begun :∀  fuel   way   many   b ,(fW f begun fuel way many b).length<=6 ^ fuel
 |0,_,_,_=>by simp[fW]
 | fuel+1,way,many,b=>by
   unfold fW;refine aar (HV (B:=6 ^ fuel) _ λk _=>?_) ?_
   . split
     . simp
     split
     . exact En a begun fuel _ _ _
     . simp
   . rw[abT,Nat.pow_succ,Nat.mul_comm]
     have:=a.aR;exact Nat.mul_le_mul_left _ (by omega)
theorem Cd{f}(a:f.Good)  begun :(aI f begun).length<=46656:=by refine aar (En a begun _ _ _ _) ?_;exact Nat.pow_le_pow_right (by omega) a.px
theorem mV  f   begun :∀  fuel   way   many   a ,begun.length<=way.length->fW f begun fuel way many a=fW f [] fuel way many a
 |0,_,_,_,_=>rfl
 | fuel+1,way,many,a,h=>by
   unfold fW;congr 1;funext k;have b:¬(way.length<begun.length/\begun.getD way.length 0≠(k:Int)):=by omega
   have c:¬(way.length<([]:acX).length/\([]:acX).getD way.length 0≠(k:Int)):=by simp
   rw[aaj b,aaj c];split
   . exact mV f begun fuel _ _ _ (by simp;omega)
   . rfl
theorem Gv{f}(b:f.Good)(e:2<=f.aD.length):aI f []=aI f [0,0]++aI f [0,1]:=by
 obtain⟨n,c⟩:∃n,f.aD.length=n+2:=⟨f.aD.length-2,by omega⟩;have g:=b.aR;have d:(min ((0:Int)+1) f.aR).toNat=1:=by omega
 unfold aI;rw[c];unfold fW;rw[d];simp only[aaz,acv,aca,abR,List.flatMap_nil,aaV];simp;by_cases a:jN f (bV 0 0)=true
 . simp only[a,aan]
   unfold fW;have e2:(min (max (0:Int) 1+1) f.aR).toNat=1\/(min (max (0:Int) 1+1) f.aR).toNat=2:=by omega
   rcases e2 with e2|e2
   . rw[e2]
     simp only[aaz,acv,aca,abR,List.flatMap_nil,aaV];simp;rw[mV f [0,0] n [0,0] _ _ (by simp)]
   . rw[e2]
     simp only[aaz,acv,aca];simp;rw[mV f [0,0] n [0,0] _ _ (by simp),mV f [0,1] n [0,1] _ _ (by simp)]
 . simp[a]
theorem NQ{f}(a:f.Good)(d:f.aD.length<2):aI f []≠[]:=by
 have e:=a.aR;have b:(min ((0:Int)+1) f.aR).toNat=1:=by omega
 have c:jN f (bV 0 0)=true:=by
  have:aB (bV 0 0)=[0]:=by decide +kernel
  unfold jN;rw[this,KD];exact Sm a 0
 rcases(show f.aD.length=0\/f.aD.length=1 by omega)with hn|hn
 . unfold aI;rw[hn];simp[fW]
 . unfold aI;rw[hn]
   unfold fW;rw[b];simp only[aaz,acv,aca,abR,List.flatMap_nil,aaV];simp[c,fW]
theorem Gw{f}(a:f.Good)(b:2<=f.aD.length):ib f=((aI f []).length:Int):=by
 unfold ib;rw[aaj (by omega),Gv a b,aas];omega
theorem AF{f}(a:f.Good):0<ib f↔aI f []≠[]:=by
 by_cases b:2<=f.aD.length
 . rw[Gw a b]
   cases aI f []<;>simp
 . have:=NQ a (by omega)
   have e:ib f=1:=by unfold ib;omega
   simp_all
theorem yy{β:Type}{G:Nat->List β}{c}:∀d ,(∀j,c<=j->j<c+d->G j=[])->(List.range (c+d)).flatMap G=(List.range c).flatMap G
 |0,_=>rfl
 | d+1,h=>by
   rw[<-Nat.add_assoc,aaz,aby,yy d λj a b=>h j a (by omega)]
   simp_all
theorem AG{α β:Type}{f g:α->List β}{l:List α}(h:∀x∈l,f x=g x):l.flatMap f=l.flatMap g:=by rw[List.flatMap_def,List.flatMap_def,acb h]
def bb(w:acX)(k:Int):acX:=(w.zipIdx.filter λp=>decide (p.1=k)).map λp=>(p.2:Int)
def HW(l:acX):acD:=(List.range (bC l+1).toNat).map λk:Nat=>l++[(k:Int)]
def iX:Nat->acD
 |0=>[[]]
 |i+1=>(iX i).flatMap HW
def se:Nat->acX->acD
 |0,l=>[l]
 |n+1,l=>(List.range (bC l+1).toNat).flatMap λk:Nat=>se n (l++[(k:Int)])
def mW(f:Fr)(l:acX):Bool:=decide (bC l<=f.aR) && (List.range (bC l).toNat).all λk:Nat=>decide (jD f (bb l k)=0)
theorem cW  w   x k :bb (w++[x]) k=bb w k++if x=k then[(w.length:Int)]else[]:=by
 unfold bb
 grind
theorem Eo  w t   k :(bb w k).Sublist (bb (w++t) k):=by
 unfold bb
 grind
theorem c8{w k n}(h:n∈bb w k):0<=n/\n<w.length/\w.getD n.toNat 0=k:=by
 unfold bb at h
 grind
theorem bI  w   x :bC (w++[x])=max (bC w) (x+1):=by
 unfold bC
 simp_all
theorem rO(t:acX):∀n ,n<=t.foldl (λn k=>max n (k+1)) n:=by
 induction t with
 |nil=>simp_all
 |cons a t b=>grind
theorem ig  w t :bC w<=bC (w++t):=by unfold bC;rw[aaS];exact rO t _
theorem qp  w :0<=bC w:=rO w 0
theorem tQ:∀  n   w l ,l∈se n w->∃t,l=w++t/\t.length=n
 |0,w,l,h=>by simp[se]at h;simp_all
 | n+1,w,l,h=>by
   unfold se at h;obtain⟨k,_,a⟩:=abn.1 h;obtain⟨t,b,c⟩:=tQ n _ l a
   simp_all
theorem u6:∀n m ,(iX m).flatMap (se n)=iX (m+n)
 | 0,m=>by
   have:se 0=λl=>[l]:=by funext l;rfl
   simp_all
 | n+1,m=>by
   have e:∀l,se (n+1) l=(HW l).flatMap (se n):=λl=>by unfold HW;rw[List.flatMap_map];rfl
   rw[show m+(n+1)=m+1+n by omega,<-u6 n (m+1),iX,List.flatMap_assoc]
   exact AG λl _=>e l
theorem NR:∀x:Fin 64,∀n:Fin 6,(∀e∈aB (x.val:Int),e<(n.val:Int))->aB (bV (x.val:Int) (n.val:Int))=aB (x.val:Int)++[(n.val:Int)]:=by decide +kernel
theorem AH{x}{n:Nat}(b:0<=x/\x<64)(a:n<6)(h:∀e∈aB x,e<n):aB (bV x n)=aB x++[(n:Int)]:=by
 have c:(x.toNat:Int)=x:=by omega
 have:=NR ⟨x.toNat,by omega⟩ ⟨n,a⟩
 simp_all
theorem Ep{f}(b:f.Good){w t}{k:Nat}(hlen:(w++t).length=f.aD.length)(e:(k:Int)<bC w)(a:bb w k≠[])(h:mW f (w++t)=true):jD f (bb w k)=0:=by
 unfold mW at h;rw[zj,aap]at h;have g:=ig w t;have c:=h.2 k (aai.2 (by omega));refine Qf b (Eo w t k) a (λn d=>?_) (abB c);have:=c8 d;omega
theorem yz{f}(p:f.Good):∀  fuel   way b ,way.length+fuel=f.aD.length->Hs f way.length b->(∀k ,k<6->aB (b.getD k 0)=bb way k)->bC way<=f.aR->(∀k:Nat,(k:Int)<bC way->jD f (bb way k)=0) ->
 fW f [] fuel way (bC way) b=(se fuel way).filter (mW f)
 | 0,way,b,_,_,_,v,w=>by
   have:mW f way=true:=by
    unfold mW
    grind
   simp[fW,se,this]
 | fuel+1,way,b,B,q,hb,v,w=>by
   have r:=p.aR;have C:=p.px;have x:=qp way;rw[sd];unfold se;rw[List.filter_flatMap];obtain⟨d,hd⟩:∃d,(bC way+1).toNat=(min (bC way+1) f.aR).toNat+d:=⟨(bC way+1).toNat-(min (bC way+1) f.aR).toNat,by omega⟩
   rw[hd,yy d λj D E=>?_]
   . refine AG λk u=>?_
     have u:=aai.1 u;have h:k<6:=by omega
     have c:k<b.length:=by rw[q.px];exact h
     have i:b.getD k 0=b[k]:=by simp_all
     have m:way.length<6:=by omega
     have n:aB (bV b[k] way.length)=bb (way++[(k:Int)]) k:=by rw[AH (q.small _ (zD c)) m (q.bits _ (zD c)),<-i,hb k h,cW,aal rfl]
     unfold py;rw[aaj (by simp),i]
     by_cases o:jN f (bV b[k] way.length)=true
     . rw [aal o,<-bI]
       unfold jN at o;rw[KD,n]at o;have y:=q.set m c;refine yz p fuel _ _ (by simp;omega) (by simp_all) (λj s=>?_) (by rw[bI];omega) λj s=>?_
       . by_cases e:j=k
         . simp_all
         . rw[zs,abb (za e),<-List.getD_eq_getElem?_getD,hb j s,cW,aaj (by omega),aaV]
       . by_cases e:j=k
         . simp_all
         . rw[bI]at s
           rw[cW,aaj (by omega),aaV]
           grind
     . rw[aaj o]
       symm;rw[acr];intro l g a;obtain⟨t,rfl,z⟩:=tQ _ _ _ g;refine o ?_;unfold jN;rw[KD,n];refine Ep p (by simp;omega) (by rw[bI];omega) ?_ a
       rw[cW,aal rfl];simp
   . rw[acr]
     intro l g a;obtain⟨t,rfl,z⟩:=tQ _ _ _ g;unfold mW at a;rw[zj,KD]at a;have A:=ig (way++[(j:Int)]) t;rw[bI]at A;omega
theorem l9{f}(d:f.Good):(iX f.aD.length).filter (mW f)=aI f []:=by
 have n:=d.aR;have i:bC []=0:=rfl;have j:aB 0=[]:=by decide +kernel
 have l:∀x∈([0,0,0,0,0,0]:acX),x=0:=λx g=>by simp_all
 have m:Hs f ([]:acX).length [0,0,0,0,0,0]:=⟨rfl,λx g e o=>by simp_all,λx g=>by simp_all⟩
 have c:∀k:Nat,k<6->aB (([0,0,0,0,0,0]:acX).getD k 0)=bb [] k:=λk h=>by
  have:([0,0,0,0,0,0]:acX).getD k 0=0:=by
   match k,h with
   |0,_=>rfl
   |1,_=>rfl
   |2,_=>rfl
   |3,_=>rfl
   |4,_=>rfl
   |5,_=>rfl
  rw[this,j];rfl
 have a:=yz d f.aD.length [] [0,0,0,0,0,0] (by simp) m c (by omega) (λk h=>by omega);rw[i]at a;have b:=u6 f.aD.length 0;rw[abx]at b;unfold aI;rw[a,<-b];simp[iX]
theorem nT:∀  i ,∀l∈iX i,l.length=i/\(∀x∈l,0<=x/\x<i)/\bC l<=i
 |0,l,h=>by simp[iX]at h;subst h;exact⟨rfl,by simp,by decide⟩
 | i+1,l,h=>by
   unfold iX at h;obtain⟨p,c,a⟩:=abn.1 h;obtain⟨d,e,f⟩:=nT i p c;unfold HW at a;obtain⟨k,b,rfl⟩:=aaA.1 a;have b:=aai.1 b;have:=qp p;refine⟨by simp[d],λx g=>?_,by rw[bI];omega⟩
   grind
end
section
open Go.cE Go.Conc
variable{m:Mo}{σ:af}{KF:acJ}
def toldOf(n all:Int):Int:=if n=0 then 2 else if n=all then 1 else 3
theorem tR{n all}(a:0<=n)(b:n<=all)(c:0<all):ia n all=toldOf n all:=by unfold ia toldOf;omega
end
section
open Go.cE Go.Conc
theorem Er{k}:∀(l r:acX),(∀z∈r,∀x∈l,k z<=k x)->l.Pairwise (λa b=>k a<=k b)->l.foldl (λr x=>eL (Ek k) x r) r=l.reverse++r
 |[],r,_,_=>rfl
 | a::l,r,d,e=>by
   obtain⟨g,f⟩:=aaL.1 e;rw[abd,El a (λz c=>d z c a (by simp)),Er l (a::r) (λz c x h=>?_) f,List.reverse_cons,abv]
   . rfl
   grind
theorem Es{f l}(h:l.Pairwise λa b=>(aS f a).hour<=(aS f b).hour):ba f l=l:=by
 rw[mU];unfold eV;rw[Er l [] (by simp) h];simp
theorem qt  k :∀(w:acX)  n ,(((w.zipIdx n).filter λp=>decide (p.1=k)).map λp=>(p.2:Int)).Pairwise (·<·)/\∀x∈(((w.zipIdx n).filter λp=>decide (p.1=k)).map λp=>(p.2:Int)),(n:Int)<=x
 |[],n=>by simp
 | a ::w,n=>by
   have b:=qt k w (n+1);rw[List.zipIdx_cons,List.filter_cons];split
   . rw[ack]
     refine⟨aaL.2 ⟨λx c=>?_,b.1⟩,λx c=>?_⟩
     . grind
     grind
   grind
theorem fN{w k}{i:Nat}(hi:i<w.length)(h:w.getD i 0=k):(i:Int)∈bb w k:=by
 unfold bb;refine aaA.2 ⟨(w[i],i),aaR.2 ⟨?_,?_⟩,rfl⟩
 . grind
 simp_all
def u':acX->acX->acX->acX × List Int
 |[],w,s=>(w,s)
 |h::l,w,s=>if h∈s then u' l (w++[(s.idxOf h:Int)]) s else u' l (w++[(s.length:Int)]) (s++[h])
structure Canon(p w s:acX):Prop where
 len:w.length=p.length
 many:bC w=s.length
 nd:s.Nodup
 sub:∀x∈s,x∈p
 yA:∀k ,(hk:k<s.length)->bb w k=bb p s[k]
 part:w∈iX p.length
theorem Canon.all{p w s}(h:Canon p w s):∀x∈p,x∈s:=λx c=>by
 obtain⟨i,d,rfl⟩:=aaH.1 c;have f:=(nT _ _ h.part).2.1;have a:i<w.length:=by rw[h.len];exact d
 have g:w[i]<bC w:=by
  have e:w=w.take i++(w[i]::w.drop (i+1)):=by simp_all
  have:bC (w.take i++[w[i]])<=bC w:=by
   have:=ig (w.take i++[w[i]]) (w.drop (i+1))
   grind
  rw[bI]at this;omega
 have k:=f _ (zD a);rw[h.many]at g;have j:w[i].toNat<s.length:=by omega
 have b:(i:Int)∈bb w (w[i].toNat:Int):=fN a (by grind);rw[h.yA _ j]at b;have:=(c8 b).2.2
 simp_all
theorem nW{s:acX}{h}(a:h∈s):∃b ,s[s.idxOf h]=h:=⟨List.idxOf_lt_length_iff.2 a,List.getElem_idxOf (List.idxOf_lt_length_iff.2 a)⟩
theorem yB{s:acX}(a:s.Nodup){i j hi}{hj:j<s.length}(e:s[i]=s[j]):i=j:=by
 rw[List.Nodup,List.pairwise_iff_getElem]at a
 grind
theorem va:∀  l p w s ,Canon p w s->Canon (p++l) (u' l w s).1 (u' l w s).2
 |[],p,w,s,h=>by simpa[u']using h
 | a :: l, p,w,s,h=>by
   have hlen:=h.len;rw[show p++a::l=(p++[a])++l by simp];unfold u';split
   . next f=>
     obtain⟨i,t⟩:=nW f;refine va l _ _ _ ⟨by simp[hlen],?_,h.nd,λx hx=>by simp[h.sub x hx],λk c=>?_,?_⟩
     . rw[bI,h.many];omega
     . rw[cW,cW,h.yA k c,hlen]
       by_cases e:k=s.idxOf a
       . simp_all
       . rw[aaj (by omega),aaj (λj=>e (yB h.nd (hi:=c) (hj:=i) (by omega)))]
     . rw[aas,abh,iX,abn]
       exact⟨w,h.part,aaA.2 ⟨_,aai.2 (by rw[h.many];omega),rfl⟩⟩
   . next f=>
     refine va l _ _ _ ⟨by simp[hlen],?_,?_,λx hx=>?_,λk c=>?_,?_⟩
     . rw[bI,h.many,aas];simp;omega
     . rw[acj]
       exact⟨h.nd,by simp,λx hx y u=>by grind⟩
     . rcases aaq.1 hx with hx|hx
       . simp[h.sub x hx]
       simp_all
     . rw [cW,cW,hlen]
       rw[aas,abh]at c;by_cases e:k=s.length
       . subst e
         rw[aal rfl];have m:(s++[a])[s.length]=a:=by simp
         rw[m,aal rfl];congr 1
         have n:bb w (s.length:Int)=[]:=by
          rw[List.eq_nil_iff_forall_not_mem];intro x hx;obtain⟨o,q,g⟩:=c8 hx;have b:x.toNat<w.length:=by omega
          rw[zs,zR b,aba]at g;have e:w=w.take x.toNat++(w[x.toNat]::w.drop (x.toNat+1)):=by rw[<-List.drop_eq_getElem_cons b,List.take_append_drop]
          have:=ig (w.take x.toNat++[w[x.toNat]]) (w.drop (x.toNat+1));rw[abv,acx,<-e,bI,h.many]at this;omega
         have r:bb p a=[]:=by
          rw[List.eq_nil_iff_forall_not_mem];intro x hx;obtain⟨o,q,g⟩:=c8 hx;have b:x.toNat<p.length:=by omega
          rw[zs,zR b,aba]at g;exact f (g ▸ h.all _ (zD b))
         rw[n,r]
       . have d:k<s.length:=by omega
         rw[aaj (by omega),List.getElem_append_left d,aaj (λj=>f (by simp_all)),h.yA k d]
     . rw[aas,abh,iX,abn]
       exact⟨w,h.part,aaA.2 ⟨_,aai.2 (by rw[h.many];omega),rfl⟩⟩
theorem Et  p :∃w s,Canon p w s:=⟨_,_,by
 have:=va p [] [] [] ⟨rfl,rfl,aci,by simp,λk a=>by simp at a,by simp[iX]⟩;simpa using this⟩
theorem vb:∀(m:Nat) (s:acX),s.Nodup->(∀x∈s,0<=x/\x<m)->s.length<=m
 | 0,s,_,h=>by
   cases s with
   |nil=>simp_all
   |cons a s=>have:=h a (by simp);omega
 | m+1,s,b,h=>by
   have c:=vb m (s.erase (m:Int)) (b.erase _) λx d=>by grind
   grind
abbrev sf:yn:=⟨0,0,0,[],0,0⟩
def NS(f:Fr)(a b:yn):Prop:=rd f.roads a.place.toNat b.place.toNat+f.cP*bP (aT a.marks) (aT b.marks)<=b.hour-a.hour
structure Seen(f0:Fr)(aR:Nat)(C H:acX)(ks:acX)(es last:List yn):Prop where
 len:ks.length=es.length
 Sn:∀x∈ks,0<=x/\x<aR
 tH:∀e∈es,cL f0.roads.length e=0
 cU:∀i,i<es.length->(es.getD i sf).cU=C.getD (ks.getD i 0).toNat 0
 Ty:∀i,i<es.length->H.getD (ks.getD i 0).toNat 0∈bW f0 (es.getD i sf)
 fit:∀i j,i<j->j<es.length->ks.getD i 0=ks.getD j 0->(∀m,i<m->m<j->ks.getD m 0≠ks.getD i 0)->NS f0 (es.getD i sf) (es.getD j sf)
 Xr:∀i,i<es.length->(∀m,i<m->m<es.length->ks.getD m 0≠ks.getD i 0)->last.getD (ks.getD i 0).toNat sf=es.getD i sf
 HX:∀k,k<aR->(last.getD k sf).cU=C.getD k 0
 So:last.length=aR
theorem Tz{α:Type}  l  (x d:α)  i :(l++[x]).getD i d=if i<l.length then l.getD i d else if i=l.length then x else d:=by grind
theorem Seen.push{f0 aR C H ks es last}(h:Seen f0 aR C H ks es last){k n}(v:k<aR)(A:cL f0.roads.length n=0)(s:n.cU=(last.getD k sf).cU)(B:H.getD k 0∈bW f0 n)(D:(k:Int)∈ks->NS f0 (last.getD k sf) n):
 Seen f0 aR C H (ks++[(k:Int)]) (es++[n]) (last.set k n):=by
 have hlen:=h.len;have w:=h.So;have d:∀i,i<es.length->(es++[n]).getD i sf=es.getD i sf:=λi a=>by grind
 have y:(es++[n]).getD es.length sf=n:=by simp_all
 have c:∀i,i<es.length->(ks++[(k:Int)]).getD i 0=ks.getD i 0:=λi a=>by grind
 have l:(ks++[(k:Int)]).getD es.length 0=(k:Int):=by simp_all
 have o:∀i,i<es.length->0<=ks.getD i 0/\ks.getD i 0<aR:=λi a=>by
  have f:i<ks.length:=by omega
  rw[zs,zR f];exact h.Sn _ (zD f)
 refine⟨by simp[hlen],λx hx=>?_,λe he=>?_,λi a=>?_,λi a=>?_,λi j p g he q=>?_,λi a q=>?_,λj g=>?_,by simp_all⟩
 . rcases aaq.1 hx with hx|hx
   . exact h.Sn x hx
   simp_all
 . rcases aaq.1 he with he|he
   . exact h.tH e he
   simp_all
 . rw[aas,abh]at a
   by_cases e:i=es.length
   . subst e;rw[y,l,s,abl];exact h.HX k v
   . rw[d i (by omega),c i (by omega)];exact h.cU i (by omega)
 . rw[aas,abh]at a
   by_cases e:i=es.length
   . simp_all
   . rw[d i (by omega),c i (by omega)];exact h.Ty i (by omega)
 . rw [aas,abh]at g
   have a:i<es.length:=by omega
   by_cases e:j=es.length
   . subst e
     rw[c i a,l]at he;have z:=h.Xr i a λm t u=>by simp_all
     rw[he,abl]at z
     grind
   . rw[c i a,c j (by omega)]at he
     rw[d i a,d j (by omega)];refine h.fit i j p (by omega) he λm t u=>?_
     grind
 . rw[aas,abh]at a q
   by_cases e:i=es.length
   . simp_all
   . have b:i<es.length:=by omega
     have r:=q es.length b (by omega);rw[l,c i b]at r;have E:=o i b;rw[d i b,c i b,zs,abb (by omega),<-List.getD_eq_getElem?_getD];refine h.Xr i b λm t u=>?_
     grind
 . by_cases e:j=k
   . subst e
     rw[zs,abm (by omega),aba,s];exact h.HX j g
   . rw[zs,abb (za e),<-List.getD_eq_getElem?_getD]
     exact h.HX j g
section
variable{f:Fr}{aR:Nat}{C H ks:acX}{last:List yn}
theorem VL(a:f.Good){i j}(hi:i<f.roads.length)(hj:j<f.roads.length):0<=rd f.roads i j:=by
 obtain⟨c,d⟩:=a.row hi;have b:j<f.roads[i].length:=by omega
 unfold rd
 simp_all
theorem NT(c:f.Good){a b:Int}(d:0<=a/\a<f.aD.length)(hb:0<=b/\b<f.aD.length)(h:Fit f a b):(aS f a).hour<=(aS f b).hour:=by
 have e:=nR (c.tH _ (fY d));have g:=nR (c.tH _ (fY hb));have hd:=c.cP;have l:=VL c (i:=(aS f a).place.toNat) (j:=(aS f b).place.toNat) (by omega) (by omega);have k:=(HS (ku (qU e.2.2.2.2.2)) (ku (qU g.2.2.2.2.2))).2.1;have m:=Int.mul_nonneg (show 0<=f.cP by omega) k;unfold Fit gO at h
 grind
theorem Seen.pair(h:Seen f aR C H ks f.aD last)(b:f.Good):∀  d i j ,j-i<=d->i<j->j<f.aD.length->ks.getD i 0=ks.getD j 0->Fit f i j
 |0,i,j,hd,a,_,_=>by omega
 | d + 1,i,j,hd,a,k,l=>by
   by_cases q:∃m,i<m/\m<j/\ks.getD m 0=ks.getD i 0
   . obtain⟨m,c,e,g⟩:=q
     have n:=h.pair b d i m (by omega) c (by omega) g.symm;have o:=h.pair b d m j (by omega) e k (by omega);exact AE b (by omega) (by omega) (by omega) n o
   . have:=h.fit i j a k l λm c e g=>q ⟨m,c,e,g⟩
     unfold NS at this;unfold Fit gO;rw[show aS f (i:Int)=f.aD.getD i sf from rfl,show aS f (j:Int)=f.aD.getD j sf from rfl]
     simp_all
theorem Seen.one(h:Seen f aR C H ks f.aD last)(m:f.Good){k}(l:bb ks k≠[]):jD f (bb ks k)=0:=by
 have c:∀n∈bb ks k,0<=n/\n<f.aD.length/\ks.getD n.toNat 0=k:=λn e=>by have:=c8 e;rw[h.len]at this;exact this
 have d:(bb ks k).Pairwise (Fit f):=by
  refine((qt k ks 0).1).imp_of_mem λ{a b} i hb g=>?_
  have j:=c a i;have p:=c b hb;have:=h.pair m (b.toNat-a.toNat) a.toNat b.toNat (aao _) (by omega) (by omega) (by omega)
  grind
 have o:ba f (bb ks k)=bb ks k:=Es (d.imp_of_mem λ{a b} i hb g=>NT m ⟨(c a i).1,(c a i).2.1⟩ ⟨(c b hb).1,(c b hb).2.1⟩ g);refine qo.2 ?_;rw[o];refine⟨?_,?_,qW d⟩
 . have q:∀n∈bb ks k,(aS f n).cU=C.getD k.toNat 0:=λn e=>by
    have j:=c n e;have:=h.cU n.toNat (by omega);rw[j.2.2]at this;exact this
   unfold eh
   grind
 . unfold cV
   simp only[aaW]
   have:H.getD k.toNat 0∈gg f (bb ks k):=(qX l).2 λn e=>by
    have j:=c n e;have:=h.Ty n.toNat (by omega);rw[j.2.2]at this;exact this
   grind
theorem Seen.way(h:Seen f aR C H ks f.aD last)(c:f.Good)(l:(aR:Int)<=f.aR):∃w s,Canon ks w s/\w∈aI f []:=by
 obtain⟨w,s,a⟩:=Et ks;refine⟨w,s,a,?_⟩;rw[<-l9 c,aaR,<-h.len];refine⟨a.part,?_⟩;unfold mW;rw[zj,aap,a.many];have m:=vb aR s a.nd λx g=>h.Sn x (a.sub x g)
 refine⟨decide_eq_true (by omega),λk d=>?_⟩;have d:=aai.1 d;have b:k<s.length:=by omega
 rw[KD,a.yA k b];refine h.one c ?_;obtain⟨i,j,e⟩:=aaH.1 (a.sub _ (zD b));exact abK (fN j (by simp_all))
end
theorem Gx{n all}(h:0<all):toldOf n all=2↔n=0:=by unfold toldOf;omega
theorem J3{α:Type}  p  (l:List α):(l.filter p).length=0↔∀x∈l,p x=false:=by simp_all
section
variable{L:acD}{n:Nat}
def Eu(L:acD)(x y:Nat):Int:=ia ((L.filter (il x y)).length:Int) L.length
theorem Gy(a:0<L.length){x y}:Eu L x y=2↔∀w∈L,il x y w=false:=by
 have:=aaU (il (x:Int) y) L;unfold Eu;rw[tR (by omega) (by omega) (by omega),Gx (by omega),<-J3];omega
end
theorem Fr.Good.CX{f}(h:f.Good):check f=0:=by
 have c:=h.fr;have d:=h.to;have e:=h.le;have g:=h.cP;have i:=h.aR;have j:=h.px;have a:(bz f.aU 0 3 && bz f.eT 0 3)=true:=by simp[bz];omega
 have b:(bz f.cP 1 6 && bz f.aR 1 6)=true:=by simp[bz];omega
 unfold Go.Proofs.YtebcbkhnlnkolaaGreatDoor.check;rw[aaj (by simp[h.Kv]),a,aaj (by simp),aaj (by omega),b,aaj (by simp),aaj (by omega)]
 exact oY h.tH
section
variable{L:acD}{n:Nat}
theorem yC{p w s}(h:Canon p w s){i j}(hi:i<p.length)(hj:j<p.length)(e:p.getD i 0=p.getD j 0):il i j w=true:=by
 have d:i<w.length:=by rw[h.len];exact hi
 have f:j<w.length:=by rw[h.len];exact hj
 have g:p.getD i 0=p[i]:=by simp_all
 have k:p.getD i 0∈s:=h.all _ (by simp_all)
 obtain⟨l,m⟩:=nW k;have a:=h.yA _ l;rw[m]at a;have n:(i:Int)∈bb w ((s.idxOf (p.getD i 0):Nat):Int):=by rw[a];exact fN hi rfl
 have o:(j:Int)∈bb w ((s.idxOf (p.getD i 0):Nat):Int):=by rw[a];exact fN hj e.symm
 have b:=(c8 n).2.2;have c:=(c8 o).2.2;rw[abl]at b c;simp only[il,KD,abl,b,c]
end
theorem AI  lt   x :∀r ,(eL lt x r).Perm (x::r)
 |[]=>List.Perm.refl _
 | y::r=>by
   unfold eL;split
   . exact((AI lt x r).cons y).trans (List.Perm.swap x y r)
   simp_all
theorem Gz  lt   l :(eV lt l).Perm l:=by
 have key:∀(l r:acX),(l.foldl (λr x=>eL lt x r) r).Perm (l++r):=by
  intro l;induction l with
  |nil=>simp_all
  | cons a l b=>
    intro r;rw[abd];refine(b _).trans (((AI lt a r).append_left l).trans ?_)
    simp_all
 simpa[eV]using key l []
theorem zB  f   l :(ba f l).Perm l:=(List.reverse_perm _).trans (Gz _ _)
theorem Ev  f   l :(ba f l).Pairwise λa b=>(aS f a).hour<=(aS f b).hour:=by
 rw[mU,List.pairwise_reverse]
 have key:∀(l r:acX),Dn (λn=>(aS f n).hour) r->Dn (λn=>(aS f n).hour) (l.foldl (λr x=>eL (Ek λn=>(aS f n).hour) x r) r):=by
  intro l;induction l with
  |nil=>simp_all
  |cons a l c=>intro r h;exact c _ (wM a h)
 exact key l [] List.Pairwise.nil
theorem vN{R}:∀{l:acX},l.Pairwise R->∀a∈l,∀b∈l,a≠b->R a b\/R b a
 |[],_,a,d,_,_,_=>by cases d
 | c ::l,h,a,d,b,hb,e=>by
   obtain⟨j,i⟩:=aaL.1 h;rcases aaD.1 d with rfl|f
   . grind
   . rcases aaD.1 hb with rfl|g
     . simp_all
     . exact vN i a f b g e
theorem Qg:∀a:Fin 32,∀b:Fin 32,bP (a.val:Int) (b.val:Int)=bP (b.val:Int) (a.val:Int):=by decide +kernel
theorem Fr.Good.symm{f:Fr}(a:f.Good){i j}(hi:i<f.roads.length)(hj:j<f.roads.length):rd f.roads i j=rd f.roads j i:=by
 have h:=a.Kv;unfold fV at h;split at h
 . cases h
 split at h
 . cases h
 split at h
 . omega
 split at h
 . cases h
 next q=>
 simp only[aaN,aai,not_exists,not_and]at q;have b:=q i hi j hj;unfold dQ at b
 simp_all
theorem Qh:∀a:Fin 32,bP (a.val:Int) (a.val:Int)=0:=by decide +kernel
theorem NU{f}(a:f.Good){x}(b:0<=x/\x<f.aD.length):gO f x x=false:=by
 have e:=nR (a.tH _ (fY b));obtain⟨A,c⟩:=lD e.2.2.2.2.2;have p:=e.2.1
 have d:rd f.roads (aS f x).place.toNat (aS f x).place.toNat=0:=by
  have h:=a.Kv;unfold fV at h;split at h
  . cases h
  split at h
  . cases h
  split at h
  . omega
  split at h
  . cases h
  next q=>
  simp only[aaN,aai,not_exists,not_and]at q;have g:=q (aS f x).place.toNat (by omega) (aS f x).place.toNat (by omega);unfold dQ at g
  simp_all
 unfold gO;rw[c,Qh,d];simp
theorem NV{f}(c:f.Good){a b}(g:0<=a/\a<f.aD.length)(hb:0<=b/\b<f.aD.length)(k:(aS f a).hour<=(aS f b).hour)(h:Fit f b a):Fit f a b:=by
 have d:=nR (c.tH _ (fY g));have e:=nR (c.tH _ (fY hb));have hd:=c.cP;obtain⟨A,l⟩:=lD d.2.2.2.2.2;obtain⟨B,m⟩:=lD e.2.2.2.2.2;have n:=d.2.1;have o:=e.2.1;have p:=Qg A B;have q:=c.symm (i:=(aS f a).place.toNat) (j:=(aS f b).place.toNat) (by omega) (by omega);unfold Fit gO at h ⊢
 grind
structure Sp  f  (l:acX):Prop where
 cU:∀a∈l,∀b∈l,(aS f a).cU=(aS f b).cU
 Ty:∃h,∀j∈l,h∈bW f (aS f j)
 fit:∀a∈l,∀b∈l,a≠b->Fit f a b\/Fit f b a
theorem HY{f}(u:f.Good){l}(y:l≠[])(o:l.Nodup)(p:∀n∈l,0<=n/\n<f.aD.length):jD f l=0↔Sp f l:=by
 have v:=zB f l;have c:∀n,n∈ba f l↔n∈l:=λn=>v.mem_iff
 have r:=Ev f l;have m:(ba f l).Nodup:=v.nodup_iff.2 o;have g:ba f l≠[]:=λe=>by simp_all
 rw[qo];generalize ba f l=S at *;have z:S.getD 0 0∈S:=by grind
 constructor
 . rintro⟨w,s,A⟩
   unfold eh at w;rw[abA]at w;have B:∀x∈S,(aS f x).cU=(aS f (S.getD 0 0)).cU:=λx k=>by simp_all
   refine⟨λa i b hb=>by simp_all,?_,λa i b hb d=>vN (uZ u (λn C=>p n ((c n).1 C)) A) a ((c a).2 i) b ((c b).2 hb) d⟩;unfold cV at s;simp only[aaW]at s;obtain⟨x,k⟩:=abE _ s;exact⟨x,λj t=>(qX g).1 k j ((c j).2 t)⟩
 . intro h
   refine⟨?_,?_,qW ?_⟩
   . unfold eh
     rw[abA];intro x k;rw[h.cU x ((c x).1 k) _ ((c _).1 z)];simp
   . unfold cV
     simp only[aaW];obtain⟨x,k⟩:=h.Ty;have:x∈gg f S:=(qX g).2 λj t=>k j ((c j).1 t)
     grind
   . refine(r.and m).imp_of_mem λ{a b} i hb d=>?_
     have i:=(c a).1 i;have hb:=(c b).1 hb;rcases h.fit a i b hb d.2 with q|q
     . exact q
     . exact NV u (p a i) (p b hb) d.1 q
theorem rP  w   k :(bb w k).Nodup:=(qt k w 0).1.imp λh=>by omega
theorem J4  L   x y  (a:0<L.length):Eu L x y=1\/Eu L x y=2\/Eu L x y=3:=by
 have:=aaU (il (x:Int) y) L;unfold Eu;rw[tR (by omega) (by omega) (by omega)];unfold toldOf;omega
theorem sk{w x}(h:x∈w):x<bC w:=by obtain⟨a,b,rfl⟩:=List.append_of_mem h;have:=ig (a++[x]) b;rw[abv,acx,bI]at this;omega
section
variable{f x:Fr}{π ρ:acZ}
theorem yD{p w s}(h:Canon p w s){i j}(hi:i<p.length)(hj:j<p.length)(e:il i j w=true):p.getD i 0=p.getD j 0:=by
 have a:i<w.length:=by rw[h.len];exact hi
 have b:j<w.length:=by rw[h.len];exact hj
 simp only[il,KD,abl]at e;have f:w.getD i 0=w[i]:=by simp_all
 have m:=((nT _ _ h.part).2.1 _ (zD a)).1;have g:=sk (zD a);rw[h.many]at g;have k:w[i].toNat<s.length:=by omega
 have l:=h.yA _ k;have c:(i:Int)∈bb w ((w[i].toNat:Nat):Int):=fN a (by omega)
 have d:(j:Int)∈bb w ((w[i].toNat:Nat):Int):=fN b (by omega)
 rw[l]at c d;have n:=(c8 c).2.2;have o:=(c8 d).2.2
 simp_all
end
section
variable{f x:Fr}{π ρ:acZ}
theorem yE{f}(a:f.Good){w}(h:w∈aI f []):w∈iX f.aD.length:=by rw[<-l9 a]at h;simp_all
end
theorem gQ{l:acX}{i}(h:i<l.length):l.getD i 0∈l:=by simp_all
theorem Qi{l:acX}{x}(h:x∈l):∃i,i<l.length/\l.getD i 0=x:=by obtain⟨i,a,e⟩:=aaH.1 h;exact⟨i,a,by simp_all⟩
structure vd(f x:Fr)(L:acX):Prop where
 roads:x.roads=f.roads
 fr:x.aU=f.aU
 to:x.eT=f.eT
 cP:x.cP=f.cP
 aR:f.aR<=x.aR
 Sn:∀i∈L,0<=i/\i<f.aD.length
 tH:x.aD=L.map (aS f)
section
variable{f x:Fr}{L:acX}
theorem vd.len(h:vd f x L):x.aD.length=L.length:=by rw[h.tH,aaC]
theorem vd.at(h:vd f x L){j:Int}(b:0<=j/\j<L.length):aS x j=aS f (L.getD j.toNat 0):=by
 have a:j.toNat<L.length:=by omega
 unfold aS;rw[h.tH,zs,aaK,zR a,zs (l:=L),zR a];rfl
theorem vd.bW(h:vd f x L)(e:yn):bW x e=bW f e:=by unfold Go.Proofs.YtebcbkhnlnkolaaGreatDoor.bW je;rw[h.fr,h.to]
theorem vd.one(h:vd f x L)(n:x.Good){l i:acX}(e:∀j∈i,(0<=j/\j<L.length)/\L.getD j.toNat 0∈l)(k:Sp f l):Sp x i:=by
 have c:∀j∈i,aS x j=aS f (L.getD j.toNat 0):=λj m=>h.at (e j m).1
 refine⟨λa d b hb=>?_,?_,λa d b hb o=>?_⟩
 . rw[c a d,c b hb];exact k.cU _ (e a d).2 _ (e b hb).2
 . obtain⟨z,q⟩:=k.Ty
   exact⟨z,λj m=>by rw[h.bW,c j m];simp_all⟩
 . by_cases g:L.getD a.toNat 0=L.getD b.toNat 0
   . have r:=NU n (x:=b) (by rw[h.len];simp_all)
     have p:=c a d;rw[g,<-c b hb]at p;refine .inl ?_;unfold Fit gO at *
     simp_all
   have:=k.fit _ (e a d).2 _ (e b hb).2 g;unfold Fit gO at this ⊢;rw[c a d,c b hb,h.roads,h.cP];exact this
theorem vd.way(h:vd f x L)(E:f.Good)(u:x.Good){w}(F:w∈aI f []):∃v∈aI x [],∀i j ,i<L.length->j<L.length->il i j v=il (L.getD i 0) (L.getD j 0) w:=by
 rw[<-l9 E,aaR]at F;obtain⟨y,z⟩:=F;obtain⟨wl,G,_⟩:=nT _ _ y;obtain⟨p,R⟩:∃p,p=L.map λj=>w.getD j.toNat 0:=⟨_,rfl⟩
 have g:p.length=L.length:=by simp_all
 have o:∀j,j<L.length->0<=L.getD j 0/\(L.getD j 0).toNat<w.length:=λj l=>by have:=h.Sn _ (gQ l);omega
 have m:∀j,j<L.length->p.getD j 0=w.getD (L.getD j 0).toNat 0:=λj l=>by simp_all
 have r:∀c∈p,∃j,j<L.length/\p.getD j 0=c/\c∈w:=λc d=>by
  obtain⟨j,l,H⟩:=Qi d
  grind
 obtain⟨v,s,d⟩:=Et p;have A:=z;unfold mW at A;rw[zj,aap,KD]at A;refine⟨v,?_,λi j n l=>?_⟩
 . rw[<-l9 u,aaR,h.len,<-g]
   refine⟨d.part,?_⟩;unfold mW;rw[zj,aap,d.many];have J:=qp w
   have S:=vb (bC w).toNat s d.nd λc B=>by obtain⟨_,_,_,a⟩:=r c (d.sub c B);have:=G c a;have:=sk a;omega
   refine⟨decide_eq_true (by have:=h.aR;omega),λk T=>?_⟩
   have t:k<s.length:=by grind
   rw[KD,d.yA k t];obtain⟨j,l,e,a⟩:=r _ (d.sub _ (zD t));generalize s[k]=c at *;have K:=G c a;have M:=sk a;have b:=abB (A.2 c.toNat (aai.2 (by omega)))
   rw[show(c.toNat:Int)=c by omega]at b
   have C:bb w c≠[]:=abK (fN (i:=(L.getD j 0).toNat) (o j l).2 (by grind))
   have D:bb p c≠[]:=abK (fN (i:=j) (by omega) e)
   rw[HY E C (rP w c) λi n=>by have:=c8 n;omega]at b
   rw[HY u D (rP p c) λi n=>by have:=c8 n;rw[g,<-h.len]at this;omega]
   refine h.one u (λi n=>?_) b
   obtain⟨N,I,O⟩:=c8 n;rw[g]at I;have P:=o i.toNat (by omega)
   refine⟨⟨N,I⟩,?_⟩;have:=fN (w:=w) (k:=c) (i:=(L.getD i.toNat 0).toNat) P.2 (by rw[<-m _ (by omega)];exact O)
   rwa [show((L.getD i.toNat 0).toNat:Int)=L.getD i.toNat 0 by omega]at this
 . have Q:=m i n
   have H:=m j l;rw[acu];constructor
   . intro q
     have:=yD d (by omega) (by omega) q
     rw[Q,H]at this;simp only[il,KD];exact this
   . intro q
     simp only[il,KD]at q;exact yC d (by omega) (by omega) (by omega)
end
end
section
open Go.cE Go.Conc
variable{m:Mo}{σ:af}{KF:acJ}
structure Way where
 a:Int
 b:Int
 cz:Int
 aU:Int
 eT:Int
 deriving DecidableEq
structure OR where
 lost:yn
 town:Int
 hour:Int
 deriving DecidableEq
structure fP where
 fair:Fr
 bf:Int
 ways:List Way
 aF:List OR
 deriving DecidableEq
abbrev jK(x:Way):AV:=.agg [int x.a,int x.b,int x.cz,int x.aU,int x.eT]
abbrev ij(c:OR):AV:=.agg [int c.lost.hour,int c.lost.place,int c.lost.cU,ints c.lost.marks,int c.lost.bu,int c.lost.jJ,int c.town,int c.hour]
abbrev ve(l:List Way):AV:=.sl 5 (l.map jK) .any
abbrev kS(l:List OR):AV:=.sl 8 (l.map ij) .any
abbrev Ew(w:fP):ade:=[jC w.fair.aD,rows w.fair.roads,int w.fair.aU,int w.fair.eT,int w.fair.cP,int w.fair.aR,int w.bf,ve w.ways,kS w.aF]
abbrev dA(w:fP):AV:=.agg (Ew w)
abbrev Qj(b mb:Nat)(w:fP)(a c d:AV)(hole:acY)(o:Nat):AV:=.kp b [jC w.fair.aD,rows w.fair.roads,int w.fair.aU,int w.fair.eT,int w.fair.cP,int w.fair.aR,int w.bf,ve w.ways,kS w.aF,.lit (.int .i32 0),.lit (.int .u32 0),a,c,d,.map mb] hole o
def tT(bf:Int)(x:Way):Prop:=(0<=x.a/\x.a<bf)/\(0<=x.b/\x.b<bf)/\(1<=x.cz/\x.cz<=12)/\(0<=x.aU/\x.aU<=72)/\0<=x.eT/\x.eT<=72
def qu(h:Int)(x:Way):Int:=if h<x.aU then x.aU else h
def NW(h a b:Int)(x:Way)(c:Int):Int:=if(x.a≠a\/x.b≠b)/\(x.a≠b\/x.b≠a)then c else if qu h x<=x.eT then(if qu h x+x.cz<c then qu h x+x.cz else c)else c
def nX(l:List Way)(h a b:Int):Int:=l.foldl (λc x=>NW h a b x c) 1048576
theorem Sq{h a b c x}(d:1<=x.cz/\x.cz<=12)(e:0<=h)(hb:0<=c/\c<=1048576):0<=NW h a b x c/\NW h a b x c<=1048576:=by
 have:0<=qu h x:=by unfold qu;omega
 unfold NW;omega
theorem Ey{l h a b}(e:∀x∈l,1<=x.cz/\x.cz<=12)(f:0<=h):0<=nX l h a b/\nX l h a b<=1048576:=by
 have key:∀(l:List Way) (c:Int),(∀x∈l,1<=x.cz/\x.cz<=12)->(0<=c/\c<=1048576)->0<=l.foldl (λc x=>NW h a b x c) c/\l.foldl (λc x=>NW h a b x c) c<=1048576:=λl=>by
  induction l with
  |nil=>simp_all
  |cons x l g=>exact λc d i=>g _ (λy j=>d y (by simp[j])) (Sq (d x (by simp)) f i)
 exact key l _ e ⟨by omega,by omega⟩
theorem ew{σ:af}{d x}(h:σ d=none):(σ.set d x).del d=σ:=by
 funext c;by_cases e:c=d
 . subst e;simp[af.del,h]
 . simp[af.set,af.del,e]
theorem NX{fb mb w E F G hole h a b}(R:∀i∈hole,9<=i)(S:w.ways.length<1152921504606846976)(z:∀x∈w.ways,tT w.bf x)(H:0<=h/\h<=1048576)(I:KF (.val (int (nX w.ways h a b))) σ):aA prog m 54 [Qj fb mb w E F G hole 0,int h,int a,int b] σ KF:=by
 have J:7∉hole:=λq=>by grind
 refine fs [] Tryz.func54 rfl (by kernel_rfl) ?_
 simp[Tryz.f54,J];apply rn;simp;refine aa.loop w.ways.length (λk s=>∃env,s=⟨env,σ,[],.no⟩/\env 1=int h/\env 2=int a/\env 3=int b/\env 9=int (nX (w.ways.take k) h a b)/\env 17=ve w.ways/\env 18=int w.ways.length/\env 19=int k) ⟨_,rfl,by simp[nX]⟩ ?_
 rintro T k _ U ⟨env,rfl,o,r,t,u,c,f,g⟩ v
 refine aa.runN lay [] 17 ?_;simp[f,g];apply aH.intro<;>intro j<;>simp at j<;>simp[u,c,g,j]
 . refine bM.intro λd hd=>?_
   simp
   change aa _ _ _ _ _ _ _ _ _
   refine aa.bt 11 (b:=d) (jK w.ways[k]) (af.aj _ _ _) (by simp) rfl ?_
   rw[ew hd];obtain⟨⟨V,W⟩,⟨X,Y⟩,⟨Z,x6⟩,⟨x7,x8⟩,x9,K⟩:=z _ (zD j);have L:=Ey (l:=w.ways.take k) (h:=h) (a:=a) (b:=b) (λx M=>(z x (abX M)).2.2.1) H.1
   have y:nX (w.ways.take (k+1)) h a b=NW h a b w.ways[k] (nX (w.ways.take k) h a b):=by unfold nX;rw[zG j,aaS];rfl
   obtain⟨N,A⟩:∃p,(w.ways[k].a !=a)=p:=⟨_,rfl⟩;obtain⟨O,B⟩:∃p,(w.ways[k].b !=b)=p:=⟨_,rfl⟩;obtain⟨P,C⟩:∃p,(w.ways[k].a !=b)=p:=⟨_,rfl⟩;obtain⟨Q,D⟩:∃p,(w.ways[k].b !=a)=p:=⟨_,rfl⟩;cases N<;>cases O<;>cases P<;>cases Q
   all_goals
    apply rn;simp[o,r,t,g,A,B,C,D]
   all_goals simp at A B C D
   all_goals try refine⟨by omega,v _ j ⟨_,rfl,?_⟩⟩
   all_goals try
    simp[o,r,t,u,c,f];rw[y,NW,aal (by omega)]
   all_goals
    rw[show(if h<w.ways[k].aU then w.ways[k].aU else h)=qu h w.ways[k]from rfl]
    have f0:0<=qu h w.ways[k]/\qu h w.ways[k]<=1048576:=by unfold qu;split<;>omega
    refine aH.intro (λn=>?_) (λn=>?_)<;>(try simp[-Int.not_lt,-Int.not_le]at n)<;>(try simp[u,g,n])
    . have f1:-9223372036854775808<=qu h w.ways[k]+w.ways[k].cz/\qu h w.ways[k]+w.ways[k].cz<=9223372036854775807:=by omega
      simp[f1.1,f1.2];refine⟨by omega,v _ j ⟨_,rfl,?_⟩⟩
      simp[o,r,t,c,f];rw[y];exact (show NW h a b w.ways[k] (nX (w.ways.take k) h a b)=_ by rw[NW,aaj (by omega),aal n]).symm
    . refine⟨by omega,v _ j ⟨_,rfl,?_⟩⟩
      simp[o,r,t,u,c,f];rw[y,NW,aaj (by omega)]
      simp[n]
 . have e:k=w.ways.length:=by omega
   subst e;rw[aav];exact .done I
def ma(l:List Way)(a b:Nat)(t:acX):acX:=if t.getD a 0<1048576 then t.set b (if nX l (t.getD a 0) a b<t.getD b 0 then nX l (t.getD a 0) a b else t.getD b 0)else t
def tV(l:List Way)(n a:Nat)(t:acX):acX:=(List.range n).foldl (λt b=>ma l a b t) t
def pass(l:List Way)(n:Nat)(t:acX):acX:=(List.range n).foldl (λt a=>tV l n a t) t
def ik(l:List Way)(n:Nat):Nat->acX->acX
 |0,t=>t
 |k+1,t=>if pass l n t=t then t else ik l n k (pass l n t)
def qv(t:acX):Nat:=(t.foldl (·+·) 0).toNat
def begun(town hour:Int):acX:=[1048576,1048576,1048576,1048576].set town.toNat hour
def qY(l:List Way)(n:Nat)(town hour:Int):acX:=ik l n (qv (begun town hour)+1) (begun town hour)
theorem mc{α:Type}(P:acX->Prop)  f  (a:∀t x,P t->P (f t x)):∀(l:List α)  t ,P t->P (l.foldl f t)
 |[],_,h=>h
 |x::l,t,h=>mc P f a l _ (a t x h)
def y7(t:acX):Prop:=t.length=4/\∀i,0<=t.getD i 0/\t.getD i 0<=1048576
theorem Ez{t:acX}{b i v}:(t.set b v).getD i 0=if i=b/\b<t.length then v else t.getD i 0:=by grind
theorem y7.to{l}(c:∀x∈l,1<=x.cz/\x.cz<=12){a b t}(h:y7 t):y7 (ma l a b t):=by
 unfold ma;split
 . refine⟨by rw[abH];exact h.1,λi=>?_⟩
   rw[Ez];split
   . have:=Ey (h:=t.getD a 0) (a:=a) (b:=b) c (h.2 a).1
     split
     . exact this
     . exact h.2 b
   . exact h.2 i
 . exact h
theorem y7.from{l}(b:∀x∈l,1<=x.cz/\x.cz<=12){n a t}(h:y7 t):y7 (tV l n a t):=mc y7 _ (λ_ _ h=>h.to b) _ _ h
theorem y7.pass{l:List Way}(a:∀x∈l,1<=x.cz/\x.cz<=12){n:Nat}{t:acX}(h:y7 t):y7 (pass l n t):=mc y7 _ (λ_ _ h=>h.from a) _ _ h
def np(a t:acX):Prop:=a.length=t.length/\∀i,a.getD i 0<=t.getD i 0
theorem np.trans{a b c}(h:np a b)(d:np b c):np a c:=⟨h.1.trans d.1,λi=>Int.le_trans (h.2 i) (d.2 i)⟩
theorem J5  l   a b   t :np (ma l a b t) t:=by
 unfold ma;split
 . refine⟨abH,λi=>?_⟩
   grind
 . exact⟨rfl,λi=>abq _⟩
theorem EA  l   n a   t :np (tV l n a t) t:=mc (np · t) _ (λu b h=>(J5 l a b u).trans h) _ _ ⟨rfl,λi=>abq _⟩
theorem qw  l   n   t :np (pass l n t) t:=mc (np · t) _ (λu a h=>(EA l n a u).trans h) _ _ ⟨rfl,λi=>abq _⟩
theorem Ce{a t}(h:np a t)(d:y7 a)(c:y7 t)(e:a≠t):qv a<qv t:=by
 obtain⟨f,b⟩:=d;obtain⟨g,q⟩:=c
 match a,t,f,g with
 | [r,s,u,v],[w,x,y,z],_,_=>
   have i:=h.2 0;have j:=h.2 1;have k:=h.2 2;have l:=h.2 3;have m:=b 0;have n:=b 1;have o:=b 2;have p:=b 3;simp at i j k l m n o p;unfold qv
   grind
theorem o6{l}(a:∀x∈l,1<=x.cz/\x.cz<=12){n}:∀  k   t ,y7 t->qv t<k->ik l n k t=ik l n (qv t+1) t
 |0,t,_,h=>by omega
 | k+1,t,b,h=>by
   show(if pass l n t=t then t else ik l n k (pass l n t))=if pass l n t=t then t else ik l n (qv t) (pass l n t);split
   . rfl
   . next c=>have d:=Ce (qw l n t) (b.pass a) b c;rw[o6 a k _ (b.pass a) (by omega),o6 a (qv t) _ (b.pass a) d]
 termination_by k=>k
theorem EB{l}(a:∀x∈l,1<=x.cz/\x.cz<=12){n t}(b:y7 t):ik l n (qv t+1) t=if pass l n t=t then t else ik l n (qv (pass l n t)+1) (pass l n t):=by
 show(if pass l n t=t then t else ik l n (qv t) (pass l n t))=_;split
 . rfl
 . next c=>exact o6 a _ _ (b.pass a) (Ce (qw l n t) (b.pass a) b c)
theorem AJ{town hour}(a:0<=hour/\hour<=72):y7 (begun town hour):=by
 refine⟨by simp[begun],λi=>?_⟩;unfold begun;rw[Ez];split
 . omega
 . match i with
   |0=>simp
   |1=>simp
   |2=>simp
   |3=>simp
   |i+4=>simp
theorem vO{l}(a:∀x∈l,1<=x.cz/\x.cz<=12){n}:∀  k   t ,y7 t->y7 (ik l n k t)
 |0,_,h=>h
 | k+1,t,h=>by
   unfold ik;split
   . exact h
   . exact vO a k _ (h.pass a)
theorem Cf{l}(e:∀x∈l,1<=x.cz/\x.cz<=12){n town hour}(f:0<=hour/\hour<=72):∃a b c d,qY l n town hour=[a,b,c,d]:=by
 have:=(vO e (n:=n) (qv (begun town hour)+1) _ (AJ (town:=town) f)).1;unfold qY
 match ik l n (qv (begun town hour)+1) (begun town hour),this with
 |[a,b,c,d],_=>simp_all
theorem VM:Q3 prog 188 3:=⟨by kernel_rfl,by kernel_rfl,by kernel_rfl⟩
theorem GA{fb mb w U V W hole town hour}(hh:∀i∈hole,9<=i)(hl:w.ways.length<1152921504606846976)(hw:∀x∈w.ways,tT w.bf x)(hn:1<=w.bf/\w.bf<=4)(ht:0<=town/\town<w.bf)(h0:0<=hour/\hour<=72)
 (hK:∀σ',σ.Le σ'->KF (.val (.agg ((qY w.ways w.bf.toNat town hour).map int))) σ'):aA prog m 103 [Qj fb mb w U V W hole 0,int town,int hour] σ KF:=by
 have n6:6∉hole:=λq=>by grind
 refine aA.start lay [6,7,9] Vo 3 Tryz.func103 rfl rfl (by rfl) (by kernel_rfl) ?_
 simp[Tryz.f103];refine bM.intro λr hr=>?_
 simp;refine bM.intro λd hd=>?_
 obtain⟨n1,n2,hd⟩:=af.aP hd;simp;have b4:town<4:=by omega
 have b5:town.toNat<4:=by omega
 have b6:town<=3:=by omega
 refine aa.uT ?_;refine aa.run lay [6,7,9] ?_;simp;refine aa.again (by kernel_rfl) ?_
 refine aa.run lay [6,7,9] ?_;simp;refine aa.again (by kernel_rfl) ?_
 refine aa.run lay [6,7,9] ?_;simp;refine aa.again (by kernel_rfl) ?_
 refine aa.run lay [6,7,9] ?_;simp;refine aa.again (by kernel_rfl) ?_
 refine aa.runN lay [6,7,9] 16 ?_;simp[ht.1,b4,b5,b6]
 change aa _ _ _ _ _ _ _ _ _
 obtain⟨X,J⟩:∃T,T=begun town hour:=⟨_,rfl⟩;have hc:([int 1048576,int 1048576,int 1048576,int 1048576]:ade).set town.toNat (int hour)=X.map int:=by rw[J];simp[begun,ace]
 rw[hc];have a7:y7 X:=J ▸ AJ h0;have N:∀x∈w.ways,1<=x.cz/\x.cz<=12:=λx hx=>(hw x hx).2.2.1
 refine aa.lower (λa s=>∃env t,s=⟨env,(σ.set r (.cells [int 0,int 0,int 0,int 0])).set d (.cells (t.map int)),[],.no⟩/\env 0=Qj fb mb w U V W hole 0/\env 6=.ref r 0/\env 7=.ref d 0/\y7 t/\qv t=a/\ik w.ways w.bf.toNat (qv t+1) t=qY w.ways w.bf.toNat town hour) (qv X) ⟨_,X,rfl,by simp,by simp,by simp,a7,rfl,by rw[J];rfl⟩ ?_
 rintro a _ ⟨env,t,rfl,E,F,g,Y,rfl,I⟩ ih
 obtain⟨h,l,p,y,rfl⟩:∃h l p y,t=[h,l,p,y]:=by
  match t,Y.1 with
  |[h,l,p,y],_=>grind
 refine aa.runN lay [6,7,9] 5 ?_;simp[g];refine bM.intro λo Z=>?_
 obtain⟨m1,m2,Z⟩:=af.aP Z;obtain⟨m3,m4,Z⟩:=af.aP Z;simp
 change aa _ _ _ _ _ _ _ _ _
 refine aa.bt 9 (b:=o) (.agg [int h,int l,int p,int y]) (af.aj _ _ _) (by simp) rfl ?_
 rw[ew (by omega)]
 refine aa.run lay [6,7,9] ?_;simp[E,n6];refine aa.loop w.bf.toNat (λk s=>∃env u,s=⟨env,(σ.set r (.cells [int 0,int 0,int 0,int 0])).set d (.cells (u.map int)),[],.no⟩/\env 0=Qj fb mb w U V W hole 0/\env 6=.ref r 0/\env 7=.ref d 0/\env 9=.cp (.agg [int h,int l,int p,int y]) 0/\env 26=int w.bf/\env 27=int k/\y7 u/\u=(List.range k).foldl (λt a=>tV w.ways w.bf.toNat a t) [h,l,p,y]) ⟨_,[h,l,p,y],rfl,by simp[E],by simp[F],by simp[g],by simp,by simp,by simp,Y,rfl⟩ ?_
 rintro cc k _ hk ⟨env,u,rfl,E,F,g,M,z,f,hU,hu⟩ a8
 refine aa.runN lay [6,7] 17 ?_;simp[z,f];apply aH.intro<;>intro g1<;>simp at g1<;>simp[E,g,M,f,g1]
 . change aa _ _ _ _ _ _ _ _ _
   refine aa.run lay [6,7,9] ?_;simp[n6];refine aa.loop w.bf.toNat (λj s=>∃env v,s=⟨env,(σ.set r (.cells [int 0,int 0,int 0,int 0])).set d (.cells (v.map int)),[],.no⟩/\env 0=Qj fb mb w U V W hole 0/\env 6=.ref r 0/\env 7=.ref d 0/\env 9=.cp (.agg [int h,int l,int p,int y]) 0/\env 10=int k/\env 26=int w.bf/\env 27=int k/\env 34=int w.bf/\env 35=int j/\y7 v/\v=(List.range j).foldl (λt b=>ma w.ways k b t) u) ⟨_,u,rfl,by simp[E],by simp[F],by simp[g],by simp[M],by simp,by simp[z],by simp[f],by simp,by simp,hU,rfl⟩ ?_
   rintro cc j _ hj ⟨env,v,rfl,E,F,g,M,aZ,z,f,K,G,H,hv⟩ O
   refine aa.runN lay [6,7] 17 ?_;simp[K,G];apply aH.intro<;>intro g2<;>simp at g2<;>simp[aZ,f,G,g2]
   . have k4:k<4:=by omega
     have j4:j<4:=by omega
     have k5:k<v.length:=by rw[H.1];exact k4
     have j5:j<v.length:=by rw[H.1];exact j4
     have L:v.getD k 0=v[k]:=by simp[k5]
     have a9:v.getD j 0=v[j]:=by simp[j5]
     have i4:(k:Int)<4:=by omega
     have l4:(j:Int)<4:=by omega
     have j3:j<=3:=by omega
     refine aa.runN lay [6,7] 5 ?_;simp[g,H.1,k4,i4];apply aH.intro<;>intro g3<;>simp at g3<;>(try simp[g3])
     . change aa _ _ _ _ _ _ _ _ _
       refine aa.run lay [6,7] ?_;simp[E,g,aZ,H.1,k4,j4,i4,l4];have P:=H.2 k;rw[L]at P;have Q:(v.map int).set j (int (if nX w.ways v[k] k j<v[j]then nX w.ways v[k] k j else v[j]))=(ma w.ways k j v).map int:=by rw[ma,L,a9,aal g3,ace]
       refine⟨?_,?_,?_⟩
       all_goals
        refine cf Tryz.func54 rfl (NX hh hl hw P ?_);refine aM.go lay [6,7] ?_;simp[H.1,j4,j3];rw[Q];refine aa.run lay [6,7] ?_;simp[G];refine⟨by omega,O _ (by omega) ⟨_,ma w.ways k j v,rfl,?_,?_,?_,?_,?_,?_,?_,?_,?_,H.to N,?_⟩⟩
        rotate_right
        . rw[aaz,aaS,<-hv];rfl
        all_goals simp[E,F,g,M,aZ,z,f,K]
     . change aa _ _ _ _ _ _ _ _ _
       refine aa.run lay [6,7] ?_;simp[G];refine⟨by omega,O _ (by omega) ⟨_,v,rfl,?_,?_,?_,?_,?_,?_,?_,?_,?_,H,?_⟩⟩
       rotate_right
       . rw[aaz,aaS,<-hv]
         show v=ma w.ways k j v;rw[ma,L,aaj (by omega)]
       all_goals simp[E,F,g,M,aZ,z,f,K]
   . have ej:j=w.bf.toNat:=by omega
     subst ej;refine⟨by omega,a8 _ (by omega) ⟨_,v,rfl,?_,?_,?_,?_,?_,?_,H,?_⟩⟩
     rotate_right
     . rw[aaz,aaS,<-hu]
       exact hv
     all_goals simp[E,F,g,M,z]
 . have ek:k=w.bf.toNat:=by omega
   subst ek
   obtain⟨A,B,C,D,rfl⟩:∃A B C D,u=[A,B,C,D]:=by
    match u,hU.1 with
    |[A,B,C,D],_=>exact⟨A,B,C,D,rfl⟩
   have R:=EB N (n:=w.bf.toNat) Y;rw[show pass w.ways w.bf.toNat [h,l,p,y]=[A,B,C,D]from hu.symm]at R
   refine⟨by simp,?_⟩
   refine F1 lay VM rp rfl rfl (a:=A) (b:=B) (c:=C) (d:=D) (a':=h) (b':=l) (c':=p) (d':=y) rfl (by simp) (by simp) ?_
   cases e:(A==h && (B==l && (C==p && D==y)))
   . have S:¬([A,B,C,D]=[h,l,p,y]):=λq=>by simp at q;simp[q]at e
     rw[aaj S,I]at R;refine aa.runN lay [6,7] 2 ?_;simp
     change aa _ _ _ _ _ _ _ _ _
     refine aa.goto rfl (by kernel_rfl) ?_
     refine aa.runN lay [6,7,9] 2 ?_;simp;refine ih (qv [A,B,C,D]) _ (Ce (hu.symm ▸ qw w.ways w.bf.toNat [h,l,p,y]) hU Y S) ⟨_,[A,B,C,D],rfl,?_,?_,?_,hU,rfl,R.symm⟩<;>simp[E,F,g]
   . simp at e
     obtain⟨rfl,rfl,rfl,rfl⟩:=e;rw[aal rfl,I]at R;refine aa.run lay [6,7,9] ?_;simp[F,g,n2,af.ai];refine .done ?_;have:=hK _ (af.fj (b:=r) (x:=.cells [int A,int B,int C,int D]) (af.fj (b:=d) (x:=.cells [int A,int B,int C,int D]) (af.fj (b:=r) (x:=.cells [int 0,int 0,int 0,int 0]) (af.le_refl σ) hr) hd) hr);rw[R]at this;exact this
theorem eo{a lo hi}(h:KF (.val (bool (bz a lo hi))) σ):aA prog m 76 [int a,int lo,int hi] σ KF:=by
 refine fs [] Tryz.func76 rfl (by kernel_rfl) ?_;simp[Tryz.f76];unfold bz at h;by_cases g:lo<=a
 . simp[g]
   refine .done ?_
   simp_all
 . simp[g]
   refine .done ?_
   simp_all
theorem mX{x}(h:KF (.val (ints (aB x))) σ):aA prog m 50 [u8 x] σ KF:=by
 refine fs [] Tryz.func50 rfl (by kernel_rfl) ?_;simp[Tryz.f50];refine aa.loop 6 (λk s=>∃env b,s=⟨env,b,[],.no⟩/\env 0=u8 x/\env 5=int k/\Tok σ b (env 3) 1 ((((List.range k).map λn:Nat=>(n:Int)).filter λn=>fM x n).map int)) ⟨_,_,rfl,by simp,by simp,.nil σ 1⟩ ?_;rintro l k _ o ⟨env,b,rfl,d,c,a⟩ f;rcases aaP k 6 with g1|g1
 . have e:(k:Int)<6:=by omega
   have p:(((List.range k).map λn:Nat=>(n:Int)).filter λn=>fM x n).length<=k:=by grind
   have q:(((List.range (k+1)).map λn:Nat=>(n:Int)).filter λn=>fM x n)=(((List.range k).map λn:Nat=>(n:Int)).filter λn=>fM x n)++if fM x k then[(k:Int)]else[]:=by
    rw[aaz,aax,abt]
    grind
   apply rn;simp[d,c,e,uV];have g:fM x k=(DZ (x.fdiv (2 ^ min k IntKind.u8.bits)) 1==1):=by simp[fM]
   rw[<-g];cases hb:fM x k
   . simp[c]
     refine⟨by omega,f _ g1 ⟨_,_,rfl,by simp[d],by simp,?_⟩⟩
     simp_all
   . simp
     refine aN lay rfl rfl rfl dC rfl dC rfl rp (by decide) (by grind) (σ0:=σ) (es:=(((List.range k).map λn:Nat=>(n:Int)).filter λn=>fM x n).map int) (xs:=[int k]) (by simp_all) (.inr ⟨_,rfl⟩) λr i j=>?_
     apply rn;simp[c];refine⟨by omega,f _ g1 ⟨_,_,rfl,by simp[d],by simp,?_⟩⟩
     simp_all
 . have:k=6:=by omega
   subst this;apply rn;simp[c];exact .pD a.W (.less a.1 (.done h))
abbrev pI(n:Nat):acX:=(List.range n).map λn:Nat=>(n:Int)
theorem qZ{n}(j:n<=1000)(h:KF (.val (ints (pI n))) σ):aA prog m 74 [int n] σ KF:=by
 refine fs [] Tryz.func74 rfl (by kernel_rfl) ?_;simp[Tryz.f74];refine aa.loop n (λk s=>∃env b,s=⟨env,b,[],.no⟩/\env 5=int n/\env 6=int k/\Tok σ b (env 3) 1 ((pI k).map int)) ⟨_,_,rfl,by simp,by simp,.nil σ 1⟩ ?_;rintro l k _ o ⟨env,b,rfl,c,d,a⟩ g;rcases aaP k n with g1|g1
 . have e:(k:Int)<n:=by omega
   have f1:-9223372036854775808<=(k:Int)+1/\(k:Int)+1<=9223372036854775807:=by omega
   apply rn;simp[c,d,e];refine aN lay rfl rfl rfl dC rfl dC rfl rp (by decide) (by grind) (σ0:=σ) (es:=(pI k).map int) (xs:=[int k]) (by simp_all) (.inr ⟨_,rfl⟩) λp i f=>?_
   apply rn;simp[d];refine⟨by omega,g _ g1 ⟨_,_,rfl,by simp[c],by simp,?_⟩⟩;rw[show pI (k+1)=pI k++[(k:Int)]by unfold pI;rw[aaz,aax];rfl,aax];exact f
 . have:k=n:=by omega
   subst this;apply rn;simp[c,d];exact .pD a.W (.less a.1 (.done h))
theorem NY(h:KF (.val (.agg [u8 1,u8 2,u8 4])) σ):aA prog m 87 [] σ KF:=by
 refine aA.FY lay [] [] 3 0 Tryz.func87 rfl rfl (by rfl) (by kernel_rfl) ?_;simp[Tryz.f87];refine bM.intro λc a=>?_
 simp;change aa _ _ _ _ _ _ _ _ _;refine aa.runN lay [] 3 ?_;simp;change aa _ _ _ _ _ _ _ _ _;refine aa.op rfl (bZ rfl) (by simp) (λc=>by simp) (qf lay rfl Vh rfl Mn (l:=[u8 1,u8 2,u8 4]) (by simp) rfl ?_);apply rn;simp;refine .less ?_ (.done h);exact af.fj (af.le_refl _) a
theorem GB{n}{t:Nat}(a:t=if n=1 then 98 else if n=3 then 241 else 167)(h:KF (.val (.lE t (.agg []))) σ):aA prog m 115 [int n] σ KF:=by
 subst a;refine fs [] Tryz.func115 rfl (by kernel_rfl) ?_;simp[Tryz.f115];by_cases g:n=1
 . subst g
   simp;exact .done h
 . by_cases b:n=3
   . subst b
     simp;exact .done h
   . have c:(n==1)=false:=by grind
     have d:(n==3)=false:=by simp_all
     simp[c,d];refine .done ?_
     simp_all
abbrev yF(l:List OR):List yn:=l.map (·.lost)
theorem NZ{l}(p:l.length<=1000)(h:KF (.val (jC (yF l))) σ):aA prog m 112 [kS l] σ KF:=by
 refine fs [] Tryz.func112 rfl (by kernel_rfl) ?_;simp[Tryz.f112];refine aa.loop l.length (λk s=>∃env c,s=⟨env,c,[],.no⟩/\env 6=kS l/\env 7=int l.length/\env 8=int k/\Tok σ c (env 3) 6 ((yF (l.take k)).map bx)) ⟨_,_,rfl,by simp,by simp,by simp,.nil σ 6⟩ ?_;rintro q k _ r ⟨env,c,rfl,j,e,f,a⟩ n;rcases aaP k l.length with g1|g1
 . have g:(k:Int)<l.length:=by omega
   refine aa.runN lay [] 17 ?_;simp[j,e,f,g1,g];refine bM.intro λd hd=>?_
   simp;change aa _ _ _ _ _ _ _ _ _;refine aa.runN lay [] 1 ?_;simp;change aa _ _ _ _ _ _ _ _ _;refine aa.bt 5 (b:=d) (ij l[k]) (af.aj _ _ _) (by simp) rfl ?_;rw[ew hd];apply rn;simp;refine aN lay rfl rfl rfl nk rfl nk rfl zw (by decide) (by grind) (σ0:=σ) (es:=(yF (l.take k)).map bx) (xs:=[bx l[k].lost]) (by simp_all) (.inr ⟨_,rfl⟩) λt o i=>?_
   apply rn;simp[f];refine⟨by omega,n _ g1 ⟨_,_,rfl,by simp[j],by simp[e],by simp,?_⟩⟩;rw[show(yF (l.take (k+1))).map bx=(yF (l.take k)).map bx++[bx l[k].lost]by unfold yF;rw[zG g1,aax,aax];rfl];exact i
 . have:k=l.length:=by omega
   subst this;apply rn;simp[e,f];rw[aav]at a;exact .pD a.W (.less a.1 (.done h))
theorem zC{l}(f:l.length<=1000)(h:∀a σ',Tok σ σ' a 6 (l.map bx)->KF (.val a) σ'):aA prog m 128 [jC l] σ KF:=by
 refine fs [] Tryz.func128 rfl (by kernel_rfl) ?_;simp[Tryz.f128];refine Bp (es:=l.map bx) (sp:=.any) (kk:=6) lay rfl nk rfl rfl (by simp) (.inl rfl) (λb=>?_) ?_
 . have:l=[]:=by simp_all
   subst this;have c:(BinOp.eql==BinOp.eql)=true:=rfl;apply rn;simp;exact .done (h _ _ (.nil σ 6))
 . have c:(BinOp.eql==BinOp.neq)=false:=rfl
   apply rn;simp[c];refine aN lay rfl rfl rfl nk rfl nk rfl zw (by decide) (by grind) (σ0:=σ) (es:=[]) (xs:=l.map bx) ⟨af.le_refl _,.inr (.inl (by simp))⟩ (.inr ⟨_,rfl⟩) λg d e=>?_
   apply rn;simp;exact .done (h _ _ (by simp_all))
theorem EC{f l}(u:f.aD.length+l.length<=1000)(h:KF (.val (cy {f with aD:=f.aD++l})) σ):aA prog m 97 [cy f,jC l] σ KF:=by
 refine aA.start lay [2] [] 2 Tryz.func97 rfl rfl (by rfl) (by kernel_rfl) ?_;simp[Tryz.f97];refine bM.intro λb hb=>?_
 simp;refine bM.intro λd hd=>?_
 obtain⟨o,j,hd⟩:=af.aP hd;simp[j,af.ai];refine cf Tryz.func128 rfl (zC (by omega) λa p q=>?_);refine aa.run lay [2] ?_;simp;refine aN lay rfl rfl rfl nk rfl nk rfl zw (by decide) (by grind) (es:=f.aD.map bx) (xs:=l.map bx) q (.inr ⟨_,rfl⟩) λa' i g=>?_
 rw[<-List.map_append]at g;generalize f.aD++l=L at h g;refine aa.HO 9 (a':=jC L) (by simpa using g.W) ?_;have r:i b=some (.cells (DX f)):=g.1 _ _ (by simp[j,af.ai]);have s:i d=some (.cells [.lit (.slice none 0 0),.lit (.slice none 0 0),int 0,int 0,int 0,int 0]):=g.1 _ _ (by simp);refine aa.run lay [2] ?_;simp[r,s,o,af.ai];refine .less (λc x t=>?_) (.done h);have k:c≠b:=λe=>by simp_all
 have n:c≠d:=λe=>by simp_all
 rw[af.ai _ _ n,af.ai _ _ k];exact g.1 _ _ (by rw[af.ai _ _ n,af.ai _ _ k];exact t)
theorem yG(h:KF (.val (int 0)) σ):aA prog m 107 [.lit .nilIface] σ KF:=by
 refine fs [] Tryz.func107 rfl (by kernel_rfl) ?_;simp[Tryz.f107];refine bM.intro λb hb=>?_
 simp;refine cf Tryz.func149 rfl (Q9 ?_);apply rn;simp;exact .less (by repeat (first|exact af.le_refl _|assumption|refine af.fj ?_ (by assumption)|refine af.lJ ?_ (by assumption))) (.done h)
theorem rQ{f}(a:f.Fits)(b:check f=0)(h:KF (.val (.lit .nilIface)) σ):aA prog m 108 [cy f] σ KF:=by
 refine fs [] Tryz.func108 rfl (by kernel_rfl) ?_;simp[Tryz.f108];refine cf Tryz.func116 rfl (Ea a ?_);apply rn;simp[b];exact .done h
def qx(t:Int)(x:Way):Int:=if bz x.a 0 (t-1)=false then 3 else if bz x.b 0 (t-1)=false then 3 else if x.a=x.b then 8 else if bz x.cz 1 12=false then 1 else if bz x.aU 0 72=false then 1 else if bz x.eT 0 72=false then 1 else if x.aU>x.eT then 5 else 0
theorem Cg{x t}(i:0<=t/\t<=100)(h:KF (.val (int (qx t x))) σ):aA prog m 109 [jK x,int t] σ KF:=by
 unfold qx at h;refine fs [] Tryz.func109 rfl (by kernel_rfl) ?_;simp[Tryz.f109];refine⟨by omega,?_⟩;refine cf Tryz.func76 rfl (eo ?_);apply rn;simp;refine uh.intro (λa=>?_) (λa=>?_)<;>(try simp at a)<;>(try simp[a]at h)<;>(try simp[a])<;>(try exact .done h);refine⟨by omega,?_⟩;refine cf Tryz.func76 rfl (eo ?_);apply rn;simp;refine aH.intro (λb=>?_) (λb=>?_)<;>(try simp at b)<;>(try simp[b]at h)<;>(try simp[b])<;>(try exact .done h);refine aH.intro (λc=>?_) (λc=>?_)<;>(try simp at c)<;>(try simp[c]at h)<;>(try simp[c])<;>(try exact .done h);refine cf Tryz.func76 rfl (eo ?_);apply rn;simp;refine uh.intro (λd=>?_) (λd=>?_)<;>(try simp at d)<;>(try simp[d]at h)<;>(try simp[d])<;>(try exact .done h)
 refine cf Tryz.func76 rfl (eo ?_);apply rn;simp;refine uh.intro (λe=>?_) (λe=>?_)<;>(try simp at e)<;>(try simp[e]at h)<;>(try simp[e])<;>(try exact .done h);refine cf Tryz.func76 rfl (eo ?_);apply rn;simp;refine aH.intro (λf=>?_) (λf=>?_)<;>(try simp at f)<;>(try simp[f]at h)<;>(try simp[f])<;>(try exact .done h);refine aH.intro (λg=>?_) (λg=>?_)<;>(try simp[-Int.not_lt,-Int.not_le]at g)<;>(try simp[g]at h)<;>(try simp[g])<;>(try exact .done h)
def fQ{α:Type}(g:α->Int):List α->Int
 |[]=>0
 |x::l=>if g x=0 then fQ g l else g x
theorem AL{α}  g  (l:List α)  i   h :fQ g (l.drop i)=if g l[i]=0 then fQ g (l.drop (i+1))else g l[i]:=by rw[aaM h,fQ]
abbrev lone(f:Fr)(e:yn):Fr:={f with aD:=[e]}
abbrev jf(w:fP):Fr:={w.fair with aD:=w.fair.aD++yF w.aF}
def zE(w:fP)(c:OR):Int:=if bz c.town 0 (w.bf-1)=false then 3 else if bz c.hour 0 72=false then 1 else if c.hour<c.lost.hour then 5 else 0
def ns(w:fP):Int:=if bz w.bf 1 4=false then 1 else if(6:Int)<w.ways.length then 6 else if fQ (qx w.bf) w.ways≠0 then fQ (qx w.bf) w.ways else if(3:Int)<w.aF.length then 6 else if fQ (zE w) w.aF≠0 then fQ (zE w) w.aF
 else if(6:Int)<(w.fair.aD.length:Int)+w.aF.length then 6 else if ib (jf w)=0 then 9 else 0
structure fP.qy(w:fP):Prop where
 fits:w.fair.Fits
 CX:check w.fair=0
 VN:∀c∈w.aF,(lone w.fair c.lost).Fits/\check (lone w.fair c.lost)=0
 ways:w.ways.length<1152921504606846976
 aF:w.aF.length<1152921504606846976
theorem Sr{es sp l}:(AV.agg (.sl 6 es sp::l)).W (.agg (.sl 6 es .any::l)):=qm rfl λi x y b a=>by
 cases i with
 |zero=>simp at b a;subst b;subst a;exact fS _ _ _
 |succ i=>simp at b a;rw[b]at a;cases a;exact .refl _
theorem Ch{w c}(j:0<=w.bf/\w.bf<=100)(f:(lone w.fair c.lost).Fits)(g:check (lone w.fair c.lost)=0)(h:KF (.val (int (zE w c))) σ):aA prog m 110 [dA w,ij c] σ KF:=by
 unfold zE at h;have i:Wl [AV.agg [.sl 6 [bx c.lost] .exact,rows w.fair.roads,int w.fair.aU,int w.fair.eT,int w.fair.cP,int w.fair.aR]] [cy (lone w.fair c.lost)]:=.cons Sr .nil;refine aA.thaw ?_;refine fs [] Tryz.func110 rfl (by kernel_rfl) ?_;simp[Tryz.f110];refine bM.intro λb hb=>?_
 simp;refine bS Tryz.func108 rfl rfl i (rQ f g ?_);apply rn;simp;refine cf Tryz.func107 rfl (yG ?_);apply rn;simp
 replace h:=nD.less (af.fj (b:=b) (x:=.cells [.sl 6 [bx c.lost] .exact,rows w.fair.roads,int w.fair.aU,int w.fair.eT,int w.fair.cP,int w.fair.aR]) (af.le_refl _) hb) (.done h)
 refine⟨by omega,?_⟩;refine cf Tryz.func76 rfl (eo ?_);apply rn;simp;refine aH.intro (λa=>?_) (λa=>?_)<;>(try simp at a)<;>(try simp[a]at h)<;>(try simp[a])<;>(try exact .done h);refine cf Tryz.func76 rfl (eo ?_);apply rn;simp;refine aH.intro (λd=>?_) (λd=>?_)<;>(try simp at d)<;>(try simp[d]at h)<;>(try simp[d])<;>(try exact .done h);refine aH.intro (λe=>?_) (λe=>?_)<;>(try simp[-Int.not_lt,-Int.not_le]at e)<;>(try simp[e]at h)<;>(try simp[e])<;>(try exact .done h)
theorem jT{w}(b:w.qy)(f:w.fair.aD.length+w.aF.length<=6):(jf w).Good:=by
 have a:=Fr.nQ b.fits b.CX;refine⟨⟨?_,a.fits.roads,a.fits.row,λe he=>?_⟩,a.fr,a.to,a.le,a.cP,a.aR,?_,λe he=>?_,a.Kv⟩
 . grind
 . rcases aaq.1 he with he|he
   . exact a.fits.marks e he
   . obtain⟨c,d,rfl⟩:=aaA.1 he
     exact(b.VN c d).1.marks _ (lb.2 rfl)
 . simp_all
 . rcases aaq.1 he with he|he
   . exact a.tH e he
   . obtain⟨c,d,rfl⟩:=aaA.1 he
     exact(Fr.nQ (b.VN c d).1 (b.VN c d).2).tH _ (lb.2 rfl)
theorem GC{w}(D:m.solo=true)(e:w.qy)(h:KF (.val (int (ns w))) σ):aA prog m 75 [dA w] σ KF:=by
 have E:=e.ways;have F:=e.aF;unfold ns at h;refine fs Xm Tryz.func75 rfl (by kernel_rfl) ?_;simp[Tryz.f75];refine cf Tryz.func108 rfl (rQ e.fits e.CX ?_);apply rn;simp;refine cf Tryz.func107 rfl (yG ?_);apply rn;simp;refine cf Tryz.func76 rfl (eo ?_);apply rn;simp;refine aH.intro (λj=>?_) (λj=>?_)<;>(try simp at j)<;>(try simp[j]at h)<;>(try simp[j])<;>(try exact .done h);have I:=dE j;refine aH.intro (λv=>?_) (λv=>?_)<;>(try simp[-Int.not_lt,-Int.not_le]at v)<;>(try simp[v]at h)<;>(try simp[v])<;>(try exact .done h);refine aa.loop w.ways.length (λk s=>∃env,s=⟨env,σ,[],.no⟩/\env 1=.cp (dA w) 0/\env 28=ve w.ways/\env 29=int w.ways.length/\env 30=int k/\fQ (qx w.bf) w.ways=fQ (qx w.bf) (w.ways.drop k)) ⟨_,rfl,by simp⟩ ?_;rintro G k _ H ⟨env,rfl,c,l,o,g,a⟩ B;refine aa.runN lay [] 17 ?_;simp[o,g];apply aH.intro<;>intro C<;>simp at C<;>simp[c,l,g,C]
 . rw[AL _ _ k C]at a
   refine bM.intro λd hd=>?_
   simp;change aa _ _ _ _ _ _ _ _ _;refine aa.runN lay [] 1 ?_;simp;change aa _ _ _ _ _ _ _ _ _;refine aa.bt 5 (b:=d) (jK w.ways[k]) (af.aj _ _ _) (by simp) rfl ?_;rw[ew hd];apply rn;simp[c];refine cf Tryz.func109 rfl (Cg (by omega) ?_);apply rn;simp;apply aH.intro<;>intro p<;>simp at p<;>simp[g,p]
   . rw[aaj p]at a
     simp[a,p]at h;exact .done h
   . rw[aal p]at a
     refine⟨by omega,B _ (by omega) ⟨_,rfl,?_,?_,?_,?_,a⟩⟩<;>simp[c,l,o]
 . have ek:k=w.ways.length:=by omega
   subst ek;rw[abV]at a;rw[show fQ (qx w.bf) []=0 from rfl]at a;simp[a]at h;refine aH.intro (λx=>?_) (λx=>?_)<;>(try simp[-Int.not_lt,-Int.not_le]at x)<;>(try simp[x]at h)<;>(try simp[x])<;>(try exact .done h)
   . apply rn
     simp;exact .done h
   apply rn;simp[c];refine aa.loop w.aF.length (λk s=>∃env,s=⟨env,σ,[],.no⟩/\env 1=.cp (dA w) 0/\env 47=kS w.aF/\env 48=int w.aF.length/\env 49=int k/\fQ (zE w) w.aF=fQ (zE w) (w.aF.drop k)) ⟨_,rfl,by simp[c]⟩ ?_;rintro G k _ H ⟨env,rfl,c,q,r,i,a⟩ B;refine aa.runN lay [] 17 ?_;simp[r,i];apply aH.intro<;>intro t<;>simp at t<;>simp[c,q,i,t]
   . rw[AL _ _ k t]at a
     refine bM.intro λd hd=>?_
     simp;change aa _ _ _ _ _ _ _ _ _;refine aa.runN lay [] 1 ?_;simp;change aa _ _ _ _ _ _ _ _ _;refine aa.bt 8 (b:=d) (ij w.aF[k]) (af.aj _ _ _) (by simp) rfl ?_;rw[ew hd];apply rn;simp[c];refine cf Tryz.func110 rfl (Ch (by omega) (e.VN _ (zD t)).1 (e.VN _ (zD t)).2 ?_);apply rn;simp;apply aH.intro<;>intro u<;>simp at u<;>simp[i,u]
     . rw[aaj u]at a
       simp[a,u]at h;exact .done h
     . rw[aal u]at a
       refine⟨by omega,B _ (by omega) ⟨_,rfl,?_,?_,?_,?_,a⟩⟩<;>simp[c,q,r]
   . have ek:k=w.aF.length:=by omega
     subst ek;rw[abV]at a;rw[show fQ (zE w) []=0 from rfl]at a;simp[a]at h;have J:=(Fr.nQ e.fits e.CX).px;have f1:-9223372036854775808<=(w.fair.aD.length:Int)+w.aF.length/\(w.fair.aD.length:Int)+w.aF.length<=9223372036854775807:=by omega
     apply rn;simp[f1.1,f1.2];refine aH.intro (λy=>?_) (λy=>?_)<;>(try simp[-Int.not_lt,-Int.not_le]at y)<;>(try simp[y]at h)<;>(try simp[c,y])<;>(try exact .done h);have z:=jT e (by omega);refine cf Tryz.func112 rfl (NZ (by omega) ?_);apply pg;simp;refine cf Tryz.func97 rfl (EC (by grind) ?_);apply pg;simp;refine cf Tryz.func111 rfl (NI (f:=jf w) D z.fits z.CX ⟨Nat.lt_of_le_of_lt (Cd z _) (by decide),Nat.lt_of_le_of_lt (Cd z _) (by decide)⟩ ?_);apply pg;simp;obtain⟨n,a⟩:∃n,n=ib (jf w):=⟨_,rfl⟩;rw[<-a]at h;change aa _ _ _ _ _ _ _ _ _;simp only[<-a];apply rn;simp;refine aH.intro (λA=>?_) (λA=>?_)<;>(try simp at A)<;>(try simp[A]at h)<;>(try simp[A])<;>(try exact .done h)
end
open Go.cE Go.Conc
theorem yH{m fb mb A j w c o p q hole}(B:∀i∈hole,9<=i)(C:A.fb=fb/\A.mb=mb/\A.fo=9/\A.nm=nn/\A.ng=ng/\A.dir=true)(hj:j<3)(r:∀x,A.GI x↔x=.map [])(D:w.ways.length<1152921504606846976)(s:∀x∈w.ways,tT w.bf x)(E:1<=w.bf/\w.bf<=4)(F:0<=c.town/\c.town<w.bf)(t:0<=c.hour/\c.hour<=72)
 (G:A.val j=.int .i64 ((qY w.ways w.bf.toNat c.town c.hour).getD 0 0)){body}(hb:Tryz.f101.body=some body):
 aa prog (iv prog A j) 101 25 none Q7 [.code body] ⟨du [.ref A.gb 0,.cp (Qj fb mb w o p q hole 0) 0,.cp (ij c) 0,.cp (int j) 0],jM A.fb,[],.told .deferred [cG prog] m⟩ (R5 prog A j Tryz.f101):=by
 obtain⟨rfl,rfl,a,e,H,d⟩:=C;simp only[Tryz.f101,kn]at hb;subst hb;apply rn;simp;refine aa.defer rfl rfl rfl rfl (by simp) rfl ?_
 apply rn;simp;obtain⟨I,L,M,N,y⟩:=Cf (l:=w.ways) (n:=w.bf.toNat) (town:=c.town) (λx g=>(s x g).2.2.1) t
 rw[y]at G;refine cf Tryz.func103 rfl (GA B D s E F t λh k=>?_)
 have J:h A.fb=some .gT:=k _ _ (by simp[jM])
 rw[y];apply rn;simp;have cell:A.cell j=11+j:=by unfold bN.cell;rw[a]
 have z:=@FZ prog A j d;rw[a,e]at z;refine cf Tryz.func104 rfl (z (by rw[cell];simp<;>omega) J λx v g O=>?_)
 obtain rfl:=(r x).1 g;apply rn;simp;refine aa.defer rfl rfl rfl rfl (by simp) rfl ?_
 have K:(j:Int)<3:=by omega
 have P:j<=2:=by omega
 refine aa.runN lay [] 1 ?_;simp
 change aa _ _ _ _ _ _ _ _ _
 refine aa.draw lay (.take [0,1,2,3,4,5] false (.one 6 (.done))) rfl ?_;refine aM.take lay [] ?_;simp[Br,K];refine aM.one rfl (by kernel_rfl) rfl (by simp) ?_
 refine I2 lay (b:=A.fb) (off:=11+j) (u:=.int .i64 I) (v0:=v) (f:=A.own j v) rfl rp rfl ?_ (by simp) rfl (by simp) (by simp[bN.own,cell]) ?_
 . simp
   exact qT _ _ _ _
 . refine iR.done ?_
   apply rn;simp;exact⟨rfl,.inl rfl,⟨m,rfl⟩,Qj A.fb A.mb w o p q hole 9,_,.map [],by rw[a];exact qT _ _ _ _,by grind,af.aj _ _ _,by simp_all,(af.ai _ _ (za A.d5)).trans (af.aj _ _ _),(r _).2 rfl,rfl⟩
