import Derived.Test.YtkcceaplmgdnfaaGreatDoorC17
set_option linter.all false
set_option maxHeartbeats 2000000
set_option maxRecDepth 4000
namespace Go.Proofs.YtkcceaplmgdnfaaGreatDoor
open Go.Proofs.Tryz (prog)
section
open Go.cz Go.Conc
variable{m:Mo}{σ:ab}{KF:adm}
theorem tD{l:adB}(h:l.Nodup){i j hi}{hj:j<l.length}(a:i≠j):l[i]≠l[j]:=by
 rw[List.Nodup,List.pairwise_iff_getElem]at h
 grind
def jc(rs:adB)(M:adg)(n j:Nat):adF:=(List.range rs.length).map λl=>if l<j then ints (M.getD l [])else AV.gn (rs.getD l 0) 0 n n
theorem oW  rs   M   n j :(jc rs M n j).length=rs.length:=by rw[jc,abi,acw]
theorem oX{rs M n j l}(a:l<rs.length):(jc rs M n j)[l]?=some (if l<j then ints (M.getD l [])else AV.gn (rs.getD l 0) 0 n n):=by rw[jc,abk,List.getElem?_range a];rfl
theorem Et{fid r ro hold K todo env D rc d n at_ rs M}{cs:adF}{spr}(σ0:ab)(k:rs.Nodup)(s:∀l,l<rs.length->(M.getD l []).length=n)(o:at_<cs.length)(hd:d∉rs)
 (w:∀σ',σ' d=some (.cells (cs.set at_ (.sl 1 (jc rs M n rs.length) spr)))->(∀y,y≠d->y∉rs->σ' y=σ0 y)->aa prog m fid r ro hold todo ⟨env,σ',D,rc⟩ K):
 ∀  f j ,j+f=rs.length->∀σ,σ d=some (.cells (cs.set at_ (.sl 1 (jc rs M n j) spr)))->(∀  l   h ,j<=l->σ rs[l]=some (.cells ((M.getD l []).map int)))->(∀y,y≠d->y∉rs->σ y=σ0 y)->aa prog m fid r ro hold todo ⟨env,σ,D,rc⟩ K
 | 0,j,x,σ,t,_,z=>by
   have:j=rs.length:=by omega
   simp_all
 | f + 1,j,x,σ,t,A,z=>by
   have a:j<rs.length:=by omega
   have B:=s j a;have q:d≠rs[j]:=λe=>hd (e ▸ zs a)
   have c:∀e∈jc rs M n j,e.cells=[e]:=λe p=>by unfold jc at p;obtain⟨l,_,rfl⟩:=aaU.1 p;split<;>rfl
   have hlen:(jc rs M n j).length=rs.length:=oW _ _ _ _;have u:∀l,l<rs.length->(jc rs M n j)[l]?=some (if l<j then ints (M.getD l [])else AV.gn (rs.getD l 0) 0 n n):=λl h=>oX h
   have g:(jc rs M n j).set j (.sl 1 ((M.getD j []).map int) .any)=jc rs M n (j+1):=by
    apply List.ext_getElem?;intro l
    by_cases h:l<rs.length
    . have G:(jc rs M n (j+1))[l]?=some (if l<j+1 then ints (M.getD l [])else AV.gn (rs.getD l 0) 0 n n):=oX h
      grind
    . rw[abI (by simp_all),abI (by rw[oW];omega)]
   refine aa.P5 (b:=rs[j]) (d:=d) (i:=j) (l:=(M.getD j []).map int) (at_:=at_) q (A j a (aaP _)) (λe p=>by obtain⟨_,_,rfl⟩:=aaU.1 p;rfl) t (by rw[abL o]) c (by simp_all) ?_
   rw[List.set_set,g];refine Et σ0 k s o hd w f (j+1) (by omega) _ (ab.ai _ _ _) (λl h v=>?_) (λy C E=>?_)
   . have F:rs[l]≠d:=λe=>hd (e ▸ zs h)
     rw[ab.ah _ _ F];simp only[ab.del,tD k (show l≠j by omega),aaH]
     grind
   . rw[ab.ah _ _ C]
     have:y≠rs[j]:=λe=>E (e ▸ zs a)
     simp only[ab.del,this,aaH]
     simp_all
section
variable{c k:Nat}{nums:adA}
abbrev gi:adF:=[.lit (.slice none 0 0),.lit (.slice none 0 0),int 0,int 0,int 0,int 0]
theorem Gy{cnt}(hk:k+20+11*cnt.toNat<1000000)(hn:nums.length<1152921504606846976)(gG:0<=cnt/\cnt<=1000)(hb:bo c nums k σ)(h:∀  f   a  σ',uI cnt f->pG c nums (k+20+11*cnt.toNat) σ σ'->(f.aA=[]->a=.lit (.slice none 0 0))/\(f.aA≠[]->a=jF f.aA)->KF (.val (.agg [a,rows f.roads,int f.aT,int f.eL,int f.cB,int f.aY])) σ'):az prog m 83 [.ref c 0,int cnt] σ KF:=by
 obtain⟨n0,s0,_,fl⟩:=id hb;refine fs XH Tryz.func83 rfl (by kernel_rfl) ?_
 simp[Tryz.f83];refine bS.intro λA h4=>?_
 have n4:c≠A:=λe=>by simp_all
 have G:∀x,bo c nums k (σ.set A x):=λx=>⟨n0,s0,by assumption,by rw[ab.ah _ _ n4];exact fl⟩
 simp;refine cf Tryz.func19 rfl (eV (by omega) hn ⟨by omega,by omega⟩ ⟨by omega,by omega⟩ (G _) λcB gI fp dm=>?_)
 apply rn;simp;refine cf Tryz.func54 rfl (mW (l:=[1,2,2,3,3,6]) (by omega) hn (by simp) dm.1 λaY r ft bq=>?_)
 apply rn;simp;refine bS.intro λw h5=>?_
 have Z:A≠c:=zj n4;have ax:pG c nums (k+2) (σ.set A (.cells gi)) r:=dm.trans bq;have ed:r A=some (.cells gi):=by rw[ax.2 A Z,ab.ai]
 have K:w≠c:=λe=>by subst e;obtain⟨_,_,_,q⟩:=bq.1;simp_all
 have S:w≠A:=λe=>by simp_all
 have aL:σ w=none:=by rw[ax.2 w K,ab.ah _ _ S]at h5;exact h5
 simp[aM]
 have ee:∀x,bo c nums (k+2) (r.set w x):=λx=>by obtain⟨n,z,h1,h2⟩:=bq.1;exact⟨n,z,by omega,by rw[ab.ah _ _ (zj K)];exact h2⟩
 refine cf Tryz.func19 rfl (eV (by omega) hn ⟨by omega,by omega⟩ ⟨by omega,by omega⟩ (ee _) λdW g fu dr=>?_)
 apply rn;simp;refine cf Tryz.func18 rfl (eU (by omega) hn ⟨by omega,by omega⟩ dr.1 λlo aO fv dx=>?_)
 apply rn;simp;have ay:pG c nums (k+4) (r.set w (.cells [.lit (.slice none 0 0),.lit (.slice none 0 0),int 0,int 0,int cB,int aY])) aO:=dr.trans dx;obtain⟨sp,rfl⟩:∃sp:Nat,dW=(sp:Int):=⟨dW.toNat,by omega⟩
 have gP:1<=sp/\sp<=3:=by omega
 have fw:0<=lo/\lo<=4:=by omega
 have eg:1<=cB/\cB<=4:=by omega
 have dy:aY=1\/aY=2\/aY=3\/aY=6:=by simp_all
 have ei:aO w=some (.cells [.lit (.slice none 0 0),.lit (.slice none 0 0),int 0,int 0,int cB,int aY]):=by rw[ay.2 w K,ab.ai]
 have ej:aO A=some (.cells gi):=by rw[ay.2 A Z,ab.ah _ _ (zj S)];exact ed
 have c9:(σ.del c).Le aO:=λy x p=>by
  have y1:y≠c:=λe=>by subst e;simp[ab.del]at p
  have y0:σ y=some x:=by simpa[ab.del,y1]using p
  have y5:y≠w:=λe=>by simp_all
  have y4:y≠A:=λe=>by simp_all
  rw[ay.2 y y1,ab.ah _ _ y5,ax.2 y y1,ab.ah _ _ y4];exact y0
 have b2:=dx.1;clear dm bq dr dx ax ay G ee h5 ed fp ft fu fv
 refine aa.loop sp (λi s=>∃env σ' a rs,s=⟨env,σ',[],.no⟩/\env 0=.ref c 0/\env 1=int cnt/\env 4=.ref A 0/\env 5=.ref w 0/\env 6=int sp/\env 7=int lo/\env 8=int i/\bo c nums (k+4) σ'/\σ' A=some (.cells gi)/\σ' w=some (.cells [.lit (.slice none 0 0),a,int 0,int 0,int cB,int aY])/\
  Tok (σ.del c) σ' a 1 (rs.map λb:Nat=>AV.gn b 0 sp sp)/\rs.length=i/\rs.Nodup/\(∀b∈rs,σ b=none/\b≠c/\b≠A/\b≠w/\σ' b=some (.cells (List.replicate sp (int 0))))) ⟨_,aO,.lit (.slice none 0 0),[],rfl,by simp,by simp,by simp,by simp,by simp,by simp,by simp,b2,ej,ei,⟨c9,.inl ⟨rfl,rfl⟩⟩,rfl,acK,by simp⟩ ?_
 rintro c0 i _ hi ⟨env,σ',a,rs,rfl,J,e1,T,D,H,e7,e8,I,q4,V,u,b3,a7,b0⟩ ih
 have L:=u.cells
 rcases aaX i sp with g1|g1
 . have fx:(i:Int)<sp:=by omega
   have f1:-9223372036854775808<=(i:Int)+1/\(i:Int)+1<=9223372036854775807:=by omega
   have ea:∀a8:ab,Tok (σ.del c) a8 a 1 (rs.map λb:Nat=>AV.gn b 0 sp sp)->∀y l,a8 y=some (.cells l)->bt a≠some y:=λa8 hx y l p e=>by obtain⟨_,_,q⟩:=hx.aZ e;rw[p]at q;cases q
   have fresh:∀b,σ' b=none->σ b=none/\b≠c/\b≠A/\b≠w/\w≠b/\b∉rs:=λb U=>by
    have n1:b≠c:=λe=>by subst e;obtain⟨_,_,_,q⟩:=I;simp_all
    refine⟨?_,n1,λe=>(by subst e;simp_all),λe=>(by subst e;simp_all),λe=>(by simp_all),λe=>(by rw[(b0 b e).2.2.2.2]at U;cases U)⟩
    cases e:σ b with
    |none=>rfl
    |some x=>have:=u.1 b x (by simp[ab.del,n1,e]);rw[U]at this;cases this
   apply rn;simp[D,H,e8,V,fx];refine⟨?_,?_⟩
   . ((
       refine tx lay rfl dD rfl rH rfl (by decide) rfl rfl (n:=sp) (by simp[H]) (by simp[H]) ⟨by omega,by omega⟩ λb U=>?_
       obtain⟨bw,a9,ad,al,b4,av⟩:=fresh b U;have up:=u.up (ab.rW (x:=.cells (List.replicate sp (int 0))) (ab.le_refl _) U);have b1:(σ'.set b (.cells (List.replicate sp (int 0)))) w=some (.cells [.lit (.slice none 0 0),a,int 0,int 0,int cB,int aY]):=(ab.ah _ _ b4).trans V;apply pg;simp[D,H,b1,L.1,L.2]))
     ((
       refine aP lay rfl rfl rfl qe rfl qe rfl dD (by decide) (by simp;omega) (σ0:=(σ'.set b (.cells (List.replicate sp (int 0)))).off a) (es:=rs.map λb:Nat=>AV.gn b 0 sp sp) (xs:=[AV.gn b 0 sp sp]) (by simpa using up.here.1) (.inr ⟨_,by simp;rfl⟩) λa' g t=>?_
       have B:=t.cells;have F:∀y l,(σ'.set b (.cells (List.replicate sp (int 0)))) y=some (.cells l)->g y=some (.cells l):=λy l p=>t.1 _ _ (by rw[ab.dT (ea _ up y l p)];exact p)
       have Q:=F _ _ b1;apply pg;simp[D,Q,B.1,B.2,aM];apply rn;simp[e8,f1.1,f1.2];obtain⟨X,Y,G,E⟩:=I
       have C:Tok (σ.del c) g a' 1 ((rs++[b]).map λb:Nat=>AV.gn b 0 sp sp):=by have:=t.base up.here.2;simpa using this
       refine ih _ g1 ⟨_,_,a',rs++[b],rfl,by simp[J],by simp[e1],by simp[T],by simp[D],by simp[H],by simp[e7],by simp,⟨X,Y,G,?_⟩,?_,ab.ai _ _ _,C.beside (by simp[ab.del,K,aL]) (λe=>by obtain⟨_,_,q⟩:=C.aZ e;rw[Q]at q;cases q),by simp[b3],?_,?_⟩
       . rw[ab.ah _ _ (zj K)];exact F _ _ ((ab.ah _ _ (zj a9)).trans E)
       . rw[ab.ah _ _ (zj S)];exact F _ _ ((ab.ah _ _ (zj ad)).trans q4)
       . rw[acM]
         exact⟨a7,by simp,λx hx y p=>by simp at p;subst p;exact λe=>av (e ▸ hx)⟩
       . intro d hd
         rcases aaN.1 hd with hd|hd
         . obtain⟨p1,p2,p3,p4,p5⟩:=b0 d hd
           have b5:d≠b:=λe=>av (e ▸ hd)
           exact⟨p1,p2,p3,p4,by rw[ab.ah _ _ p4];exact F _ _ ((ab.ah _ _ b5).trans p5)⟩
         . simp at hd
           subst hd;exact⟨bw,a9,ad,al,by rw[ab.ah _ _ al];exact F _ _ (ab.ai _ _ _)⟩))
   . ((
       refine tx lay rfl dD rfl rH rfl (by decide) rfl rfl (n:=sp) (by simp[H]) (by simp[H]) ⟨by omega,by omega⟩ λb U=>?_
       obtain⟨bw,a9,ad,al,b4,av⟩:=fresh b U;have up:=u.up (ab.rW (x:=.cells (List.replicate sp (int 0))) (ab.le_refl _) U);have b1:(σ'.set b (.cells (List.replicate sp (int 0)))) w=some (.cells [.lit (.slice none 0 0),a,int 0,int 0,int cB,int aY]):=(ab.ah _ _ b4).trans V;apply pg;simp[D,H,b1,L.1,L.2]))
     refine⟨?_,?_⟩
     . ((
         refine aP lay rfl rfl rfl qe rfl qe rfl dD (by decide) (by simp;omega) (σ0:=(σ'.set b (.cells (List.replicate sp (int 0)))).off a) (es:=rs.map λb:Nat=>AV.gn b 0 sp sp) (xs:=[AV.gn b 0 sp sp]) (by simpa using up.here.1) (.inr ⟨_,by simp;rfl⟩) λa' g t=>?_
         have B:=t.cells;have F:∀y l,(σ'.set b (.cells (List.replicate sp (int 0)))) y=some (.cells l)->g y=some (.cells l):=λy l p=>t.1 _ _ (by rw[ab.dT (ea _ up y l p)];exact p)
         have Q:=F _ _ b1;apply pg;simp[D,Q,B.1,B.2,aM];apply rn;simp[e8,f1.1,f1.2];obtain⟨X,Y,G,E⟩:=I
         have C:Tok (σ.del c) g a' 1 ((rs++[b]).map λb:Nat=>AV.gn b 0 sp sp):=by have:=t.base up.here.2;simpa using this
         refine ih _ g1 ⟨_,_,a',rs++[b],rfl,by simp[J],by simp[e1],by simp[T],by simp[D],by simp[H],by simp[e7],by simp,⟨X,Y,G,?_⟩,?_,ab.ai _ _ _,C.beside (by simp[ab.del,K,aL]) (λe=>by obtain⟨_,_,q⟩:=C.aZ e;rw[Q]at q;cases q),by simp[b3],?_,?_⟩
         . rw[ab.ah _ _ (zj K)];exact F _ _ ((ab.ah _ _ (zj a9)).trans E)
         . rw[ab.ah _ _ (zj S)];exact F _ _ ((ab.ah _ _ (zj ad)).trans q4)
         . rw[acM]
           exact⟨a7,by simp,λx hx y p=>by simp at p;subst p;exact λe=>av (e ▸ hx)⟩
         . intro d hd
           rcases aaN.1 hd with hd|hd
           . obtain⟨p1,p2,p3,p4,p5⟩:=b0 d hd
             have b5:d≠b:=λe=>av (e ▸ hd)
             exact⟨p1,p2,p3,p4,by rw[ab.ah _ _ p4];exact F _ _ ((ab.ah _ _ b5).trans p5)⟩
           . simp at hd
             subst hd;exact⟨bw,a9,ad,al,by rw[ab.ah _ _ al];exact F _ _ (ab.ai _ _ _)⟩))
     . ((
         refine aP lay rfl rfl rfl qe rfl qe rfl dD (by decide) (by simp;omega) (σ0:=(σ'.set b (.cells (List.replicate sp (int 0)))).off a) (es:=rs.map λb:Nat=>AV.gn b 0 sp sp) (xs:=[AV.gn b 0 sp sp]) (by simpa using up.here.1) (.inr ⟨_,by simp;rfl⟩) λa' g t=>?_
         have B:=t.cells;have F:∀y l,(σ'.set b (.cells (List.replicate sp (int 0)))) y=some (.cells l)->g y=some (.cells l):=λy l p=>t.1 _ _ (by rw[ab.dT (ea _ up y l p)];exact p)
         have Q:=F _ _ b1;apply pg;simp[D,Q,B.1,B.2,aM];apply rn;simp[e8,f1.1,f1.2];obtain⟨X,Y,G,E⟩:=I
         have C:Tok (σ.del c) g a' 1 ((rs++[b]).map λb:Nat=>AV.gn b 0 sp sp):=by have:=t.base up.here.2;simpa using this
         refine ih _ g1 ⟨_,_,a',rs++[b],rfl,by simp[J],by simp[e1],by simp[T],by simp[D],by simp[H],by simp[e7],by simp,⟨X,Y,G,?_⟩,?_,ab.ai _ _ _,C.beside (by simp[ab.del,K,aL]) (λe=>by obtain⟨_,_,q⟩:=C.aZ e;rw[Q]at q;cases q),by simp[b3],?_,?_⟩
         . rw[ab.ah _ _ (zj K)];exact F _ _ ((ab.ah _ _ (zj a9)).trans E)
         . rw[ab.ah _ _ (zj S)];exact F _ _ ((ab.ah _ _ (zj ad)).trans q4)
         . rw[acM]
           exact⟨a7,by simp,λx hx y p=>by simp at p;subst p;exact λe=>av (e ▸ hx)⟩
         . intro d hd
           rcases aaN.1 hd with hd|hd
           . obtain⟨p1,p2,p3,p4,p5⟩:=b0 d hd
             have b5:d≠b:=λe=>av (e ▸ hd)
             exact⟨p1,p2,p3,p4,by rw[ab.ah _ _ p4];exact F _ _ ((ab.ah _ _ b5).trans p5)⟩
           . simp at hd
             subst hd;exact⟨bw,a9,ad,al,by rw[ab.ah _ _ al];exact F _ _ (ab.ai _ _ _)⟩))
 . have fO:sp=i:=by omega
   subst fO;clear ih b2 ei ej c9
   obtain⟨spr,rfl⟩:∃spr,a=.sl 1 (rs.map λb:Nat=>AV.gn b 0 sp sp) spr:=by
    rcases u.2 with⟨_,e⟩|e|⟨_,_,_,e,_⟩
    . have:=congrArg List.length e
      grind
    . simp_all
    simp_all
   have N:=u.1;clear u
   have bA:∀(j:Nat) (hj:j<rs.length),σ rs[j]=none/\rs[j]≠c/\rs[j]≠A/\rs[j]≠w:=λj hj=>by simp_all
   apply rn;simp[H,e8]
   have o:∀(j:Nat) (hj:j<rs.length),σ' rs[j]=some (.cells (((List.replicate sp (List.replicate sp (0:Int))).getD j []).map int)):=λj hj=>by
    rw[(b0 _ (zs hj)).2.2.2.2]
    simp_all
   clear b0
   refine aa.loop sp (λi s=>∃env σ' M,s=⟨env,σ',[],.no⟩/\env 0=.ref c 0/\env 1=int cnt/\env 4=.ref A 0/\env 5=.ref w 0/\env 6=int sp/\env 7=int lo/\env 9=int i/\bo c nums (k+4+3*i) σ'/\σ' A=some (.cells gi)/\σ' w=some (.cells [.lit (.slice none 0 0),.sl 1 (rs.map λb:Nat=>AV.gn b 0 sp sp) spr,int 0,int 0,int cB,int aY])/\
    (σ.del c).Le σ'/\H5 sp lo i 0 M/\∀(j:Nat) (hj:j<rs.length),σ' rs[j]=some (.cells ((M.getD j []).map int))) ⟨_,σ',_,rfl,by simp[J],by simp[e1],by simp[T],by simp[D],by simp[H],by simp[e7],by simp,I,q4,V,N,H5.start sp lo,o⟩ ?_
   clear J e1 T D H e7 e8 I q4 V N o
   rintro c1 i _ gR ⟨env,σ',M,rfl,J,e1,T,D,H,e7,e9,I,q4,V,N,hM,o⟩ ih
   rcases aaX i sp with g2|g2
   . have BT:(i:Int)<sp:=by omega
     apply rn;simp[H,e9,BT]
     refine aa.loop i (λj s=>∃env σ' M,s=⟨env,σ',[],.no⟩/\env 0=.ref c 0/\env 1=int cnt/\env 4=.ref A 0/\env 5=.ref w 0/\env 6=int sp/\env 7=int lo/\env 9=int i/\env 10=int j/\bo c nums (k+4+3*i+j) σ'/\σ' A=some (.cells gi)/\σ' w=some (.cells [.lit (.slice none 0 0),.sl 1 (rs.map λb:Nat=>AV.gn b 0 sp sp) spr,int 0,int 0,int cB,int aY])/\
      (σ.del c).Le σ'/\H5 sp lo i j M/\∀(j:Nat) (hj:j<rs.length),σ' rs[j]=some (.cells ((M.getD j []).map int))) ⟨_,σ',M,rfl,by simp[J],by simp[e1],by simp[T],by simp[D],by simp[H],by simp[e7],by simp[e9],by simp,I,q4,V,N,hM,o⟩ ?_
     clear J e1 T D H e7 e9 I q4 V N hM o
     rintro c2 j _ hj ⟨env,σ',M,rfl,J,e1,T,D,H,e7,e9,cX,I,q4,V,N,hM,o⟩ ep
     rcases aaX j i with g3|g3
     . have HH:(j:Int)<i:=by omega
       have f1:-9223372036854775808<=(j:Int)+1/\(j:Int)+1<=9223372036854775807:=by omega
       have f2:-9223372036854775808<=2*lo/\2*lo<=9223372036854775807:=by omega
       apply rn;simp[J,e7,e9,cX,HH,f2.1,f2.2];refine cf Tryz.func19 rfl (eV (by omega) hn ⟨by omega,by omega⟩ ⟨by omega,by omega⟩ I λv r hv hd=>?_)
       have s5:r w=some (.cells [.lit (.slice none 0 0),.sl 1 (rs.map λb:Nat=>AV.gn b 0 sp sp) spr,int 0,int 0,int cB,int aY]):=by rw[hd.2 w K];exact V
       have s4:r A=some (.cells gi):=by rw[hd.2 A Z];exact q4
       have ca:i<rs.length:=by omega
       have cb:j<rs.length:=by omega
       obtain⟨z1,z2,z3,z4⟩:=bA i ca;obtain⟨y1,y2,y3,y4⟩:=bA j cb;have si:r rs[i]=some (.cells ((M.getD i []).map int)):=by rw[hd.2 _ z2];exact o i ca
       have sj:r rs[j]=some (.cells ((M.getD j []).map int)):=by rw[hd.2 _ y2];exact o j cb
       have gd:rs[i]≠rs[j]:=tD a7 (by omega)
       have et:=zj gd;obtain⟨Ri,ev⟩:∃R,R=M.getD i []:=⟨_,rfl⟩;obtain⟨Rj,ey⟩:∃R,R=M.getD j []:=⟨_,rfl⟩;have li:=hM.row i (by omega)
       have lj:=hM.row j (by omega)
       rw[<-ev]at si li;rw[<-ey]at sj lj;have gf:j+1<=sp:=by omega
       have gj:i+1<=sp:=by omega
       have g4:j<sp:=by omega
       have gl:(j:Int)<sp:=by omega
       have ez:(i:Int)<sp:=by omega
       have hF:∀g,g=(r.set rs[i] (.cells ((Ri.map int).set j (int v)))).set rs[j] (.cells ((Rj.map int).set i (int v)))->bo c nums (k+4+3*i+(j+1)) g/\g A=some (.cells gi)/\g w=some (.cells [.lit (.slice none 0 0),.sl 1 (rs.map λb:Nat=>AV.gn b 0 sp sp) spr,int 0,int 0,int cB,int aY])/\(σ.del c).Le g/\∀(l:Nat) (hl:l<rs.length),g rs[l]=some (.cells (((zJ M i j v).getD l []).map int)):=λg e3=>by
        subst e3;refine⟨?_,?_,?_,λy x p=>?_,λl hl=>?_⟩
        . obtain⟨X,Y,G,E⟩:=hd.1
          exact⟨X,Y,by omega,by rw[ab.ah _ _ (zj y2),ab.ah _ _ (zj z2)];exact E⟩
        . rw[ab.ah _ _ (zj y3),ab.ah _ _ (zj z3)];exact s4
        . rw[ab.ah _ _ (zj y4),ab.ah _ _ (zj z4)];exact s5
        . have w1:y≠c:=λe=>by subst e;simp[ab.del]at p
          have w0:σ y=some x:=by simpa[ab.del,w1]using p
          have w2:y≠rs[i]:=λe=>by rw[e,z1]at w0;cases w0
          have w3:y≠rs[j]:=λe=>by rw[e,y1]at w0;cases w0
          rw[ab.ah _ _ w3,ab.ah _ _ w2,hd.2 y w1];exact N y x p
        . rw [AJ (by rw[hM.len];omega) (by rw[hM.len];omega) (by omega),<-ev,<-ey]
          by_cases q1:l=j
          . subst q1
            rw[aaK rfl,ab.ai,acF]
          . rw[aaJ q1,ab.ah _ _ (tD a7 q1)]
            by_cases q2:l=i
            . subst q2
              rw[aaK rfl,ab.ai,acF]
            . rw[aaJ q2,ab.ah _ _ (tD a7 q2),hd.2 _ (bA l hl).2.1]
              exact o l hl
       have O:=hF _ rfl;clear hF;apply rn;simp[D,e9,cX,s5,b3,g2,g4,gl,ez,gf,gj,li,lj,si,sj,ab.ah,et];refine⟨?_,?_⟩
       . apply rn
         simp[cX,f1.1,f1.2];refine ep _ g3 ⟨_,_,zJ M i j v,rfl,?_,?_,?_,?_,?_,?_,?_,?_,O.1,O.2.1,O.2.2.1,O.2.2.2.1,hM.next (by omega) g3 ⟨hv.1,by omega⟩,O.2.2.2.2⟩<;>simp[J,e1,T,D,H,e7,e9]
       . apply rn
         simp[cX,f1.1,f1.2];refine ep _ g3 ⟨_,_,zJ M i j v,rfl,?_,?_,?_,?_,?_,?_,?_,?_,O.1,O.2.1,O.2.2.1,O.2.2.2.1,hM.next (by omega) g3 ⟨hv.1,by omega⟩,O.2.2.2.2⟩<;>simp[J,e1,T,D,H,e7,e9]
     . have gp:i=j:=by omega
       subst gp;have f1:-9223372036854775808<=(i:Int)+1/\(i:Int)+1<=9223372036854775807:=by omega
       apply rn;simp[e9,cX,f1.1,f1.2];refine ih _ g2 ⟨_,_,M,rfl,?_,?_,?_,?_,?_,?_,?_,I.mono (by omega),q4,V,N,hM.line,o⟩<;>simp[J,e1,T,D,H,e7]
   . have gw:sp=i:=by omega
     subst gw;clear ih;have eA:∀l,l<rs.length->(M.getD l []).length=sp:=λl hl=>hM.row l (by omega)
     have eB:w∉rs:=λe=>by
      obtain⟨l,hl,e'⟩:=abm.1 e
      grind
     have aC:rs.map (λb:Nat=>AV.gn b 0 sp sp)=jc rs M sp 0:=by
      apply List.ext_getElem?;intro l
      by_cases hl:l<rs.length
      . rw[oX hl,aaJ (by omega),abk,zU hl]
        grind
      . rw[abI (by simp_all),abI (by rw[oW];omega)]
     have aE:jc rs M sp rs.length=M.map ints:=by
      have gx:=hM.len;apply List.ext_getElem?;intro l
      by_cases hl:l<rs.length
      . have gA:l<M.length:=by omega
        rw[oX hl,aaK hl,abk,zU gA]
        simp_all
      . rw[abI (by rw[oW];omega),abI (by simp_all)]
     rw[aC]at V;refine Et (d:=w) (n:=sp) (at_:=1) (rs:=rs) (M:=M) (cs:=[.lit (.slice none 0 0),.cJ,int 0,int 0,int cB,int aY]) (spr:=spr) σ' a7 eA (by simp) eB (λg eK eN=>?_) rs.length 0 (by omega) σ' (by simp_all) (λl hl _=>o l hl) (λ_ _ _=>rfl)
     rw[aE]at eK;have gH:=hM.fin;have gx:=hM.len
     have F:∀(j:Nat),j≠w->(∀(l:Nat) (hl:l<rs.length),rs[l]≠j)->g j=σ' j:=λj h1 h2=>eN j h1 λe=>by
      obtain⟨l,hl,e'⟩:=abm.1 e
      grind
     have eR:bo c nums (k+4+3*sp) g:=by obtain⟨X,Y,G,E⟩:=I;exact⟨X,Y,G,by grind⟩
     have eW:g A=some (.cells gi):=by grind
     have eX:g w=some (.cells [.lit (.slice none 0 0),.sl 1 (M.map ints) spr,int 0,int 0,int cB,int aY]):=by grind
     have cg:(σ.del c).Le g:=λy x p=>by
      have w1:y≠c:=λe=>by subst e;simp[ab.del]at p
      have w0:σ y=some x:=by simpa[ab.del,w1]using p
      rw[F y (λe=>by grind) (λl hl e=>by grind)]
      exact N y x p
     clear eK eN o aC aE I q4 V N hM eA eB F bA a7 b3;apply rn;simp[J,H,e9];refine cf Tryz.func18 rfl (eU (by omega) hn ⟨by omega,by omega⟩ eR λfr aO gU b6=>?_)
     apply rn;simp[J];refine cf Tryz.func19 rfl (eV (by omega) hn ⟨by omega,by omega⟩ ⟨by omega,by omega⟩ b6.1 λto bB h3 b7=>?_)
     have Q:bB w=some (.cells [.lit (.slice none 0 0),.sl 1 (M.map ints) spr,int 0,int 0,int cB,int aY]):=by rw[b7.2 w K,b6.2 w K];exact eX
     apply rn;simp[J,e1,D,Q,aM];have t4:bB A=some (.cells gi):=by rw[b7.2 A Z,b6.2 A Z];exact eW
     have cm:(σ.del c).Le bB:=λy x p=>by
      have w1:y≠c:=λe=>by subst e;simp[ab.del]at p
      rw[b7.2 y w1,b6.2 y w1];exact cg y x p
     have fc:∀x,bo c nums (k+6+3*sp) (bB.set w x):=λx=>by obtain⟨n,z,h1,h2⟩:=b7.1;exact⟨n,z,by omega,by rw[ab.ah _ _ (zj K)];exact h2⟩
     refine cf Tryz.func18 rfl (eU (by omega) hn ⟨by omega,by omega⟩ (fc _) λq c6 h6 b8=>?_)
     apply rn;simp;have u5:c6 w=some (.cells [.lit (.slice none 0 0),.sl 1 (M.map ints) spr,int fr,int to,int cB,int aY]):=by rw[b8.2 w K,ab.ai]
     have u4:c6 A=some (.cells gi):=by rw[b8.2 A Z,ab.ah _ _ (zj S)];exact t4
     have cv:(σ.del c).Le c6:=λy x p=>by
      have w1:y≠c:=λe=>by subst e;simp[ab.del]at p
      have w0:σ y=some x:=by simpa[ab.del,w1]using p
      rw[b8.2 y w1,ab.ah _ _ (λe=>by simp_all)];exact cm y x p
     obtain⟨qn,rfl⟩:∃qn:Nat,q=(qn:Int):=⟨q.toNat,by omega⟩
     have h7:(qn:Int)<=cnt:=by omega
     have dj:=b8.1;clear b6 b7 b8 fc eR eW eX cg cm Q t4
     refine aa.loop qn (λi s=>∃env σ' a es,s=⟨env,σ',[],.no⟩/\env 0=.ref c 0/\env 4=.ref A 0/\env 5=.ref w 0/\env 6=int sp/\env 13=int ((qn:Int)-i)/\bo c nums (k+7+3*sp+11*i) σ'/\σ' A=some (.cells gi)/\σ' w=some (.cells [a,.sl 1 (M.map ints) spr,int fr,int to,int cB,int aY])/\
      Tok (σ.del c) σ' a 6 (es.map bc)/\es.length=i/\(∀e∈es,yt sp e)/\(es=[]->a=.lit (.slice none 0 0))) ⟨_,c6,.lit (.slice none 0 0),[],rfl,by simp[J],by simp[T],by simp[D],by simp[H],by simp,dj.mono (by omega),u4,u5,⟨cv,.inl ⟨rfl,rfl⟩⟩,rfl,by simp,λ_=>rfl⟩ ?_
     clear J e1 T D H e7 e9 dj u4 u5 cv
     rintro c3 i _ h8 ⟨env,σ',a,es,rfl,J,T,D,H,b9,c7,q4,V,u,eb,ec,fg⟩ ih
     have L:=u.cells;have bm:∀a8:ab,Tok (σ.del c) a8 a 6 (es.map bc)->∀y l,a8 y=some (.cells l)->bt a≠some y:=λa8 hx y l p e=>by obtain⟨_,_,q⟩:=hx.aZ e;grind
     have fi:∃l,σ' c=some (.cells l):=by obtain⟨_,_,_,q⟩:=c7;grind
     rcases aaX i qn with g1|g1
     . have f1 : -9223372036854775808<=(qn:Int)-i-1/\(qn:Int)-i-1<=9223372036854775807:=by omega
       apply rn;simp[J,D,H,b9,V,g1];refine⟨?_,?_⟩
       . ((
           refine cf Tryz.func84 rfl (oU (by omega) hn ⟨by omega,by omega⟩ c7 λe r he hd=>?_)
           have s5:r w=some (.cells [a,.sl 1 (M.map ints) spr,int fr,int to,int cB,int aY]):=by rw[hd.2 w K];exact V
           have s4:r A=some (.cells gi):=by rw[hd.2 A Z];exact q4
           have P:Tok (σ.del c) r a 6 (es.map bc):=qX u (by simp[ab.del]) fi hd.2
           apply pg;simp[D,s5,L.1,L.2]))
         ((
           refine aP lay rfl rfl rfl nk rfl nk rfl zE (by decide) (by simp;omega) (σ0:=r.off a) (es:=es.map bc) (xs:=[bc e]) (by simpa using P.here.1) (.inr ⟨_,by simp;rfl⟩) λa' g t=>?_
           have B:=t.cells;have F:∀y l,r y=some (.cells l)->g y=some (.cells l):=λy l p=>t.1 _ _ (by rw[ab.dT (bm _ P y l p)];exact p)
           have Q:=F _ _ s5;have t4:=F _ _ s4;apply pg;simp[D,Q,B.1,B.2,aM];apply rn;simp[b9,f1.1,f1.2];obtain⟨X,Y,G,E⟩:=hd.1
           have C:Tok (σ.del c) g a' 6 ((es++[e]).map bc):=by have:=t.base P.here.2;simpa using this
           refine ih _ g1 ⟨_,_,a',es++[e],rfl,by simp[J],by simp[T],by simp[D],by simp[H],by simp;omega,⟨X,Y,by omega,?_⟩,?_,ab.ai _ _ _,C.beside (by simp[ab.del,K,aL]) (λe=>by obtain⟨_,_,q⟩:=C.aZ e;rw[Q]at q;cases q),by simp[eb],?_,λe=>by simp at e⟩
           . rw[ab.ah _ _ (zj K)];exact F _ _ E
           . rw[ab.ah _ _ (zj S)];exact t4
           . intro x hx
             rcases aaN.1 hx with hx|hx
             . exact ec x hx
             . simp at hx;subst hx;exact he))
       . ((
           refine cf Tryz.func84 rfl (oU (by omega) hn ⟨by omega,by omega⟩ c7 λe r he hd=>?_)
           have s5:r w=some (.cells [a,.sl 1 (M.map ints) spr,int fr,int to,int cB,int aY]):=by rw[hd.2 w K];exact V
           have s4:r A=some (.cells gi):=by rw[hd.2 A Z];exact q4
           have P:Tok (σ.del c) r a 6 (es.map bc):=qX u (by simp[ab.del]) fi hd.2
           apply pg;simp[D,s5,L.1,L.2]))
         refine⟨?_,?_⟩
         . ((
             refine aP lay rfl rfl rfl nk rfl nk rfl zE (by decide) (by simp;omega) (σ0:=r.off a) (es:=es.map bc) (xs:=[bc e]) (by simpa using P.here.1) (.inr ⟨_,by simp;rfl⟩) λa' g t=>?_
             have B:=t.cells;have F:∀y l,r y=some (.cells l)->g y=some (.cells l):=λy l p=>t.1 _ _ (by rw[ab.dT (bm _ P y l p)];exact p)
             have Q:=F _ _ s5;have t4:=F _ _ s4;apply pg;simp[D,Q,B.1,B.2,aM];apply rn;simp[b9,f1.1,f1.2];obtain⟨X,Y,G,E⟩:=hd.1
             have C:Tok (σ.del c) g a' 6 ((es++[e]).map bc):=by have:=t.base P.here.2;simpa using this
             refine ih _ g1 ⟨_,_,a',es++[e],rfl,by simp[J],by simp[T],by simp[D],by simp[H],by simp;omega,⟨X,Y,by omega,?_⟩,?_,ab.ai _ _ _,C.beside (by simp[ab.del,K,aL]) (λe=>by obtain⟨_,_,q⟩:=C.aZ e;rw[Q]at q;cases q),by simp[eb],?_,λe=>by simp at e⟩
             . rw[ab.ah _ _ (zj K)];exact F _ _ E
             . rw[ab.ah _ _ (zj S)];exact t4
             . intro x hx
               rcases aaN.1 hx with hx|hx
               . exact ec x hx
               . simp at hx;subst hx;exact he))
         . ((
             refine aP lay rfl rfl rfl nk rfl nk rfl zE (by decide) (by simp;omega) (σ0:=r.off a) (es:=es.map bc) (xs:=[bc e]) (by simpa using P.here.1) (.inr ⟨_,by simp;rfl⟩) λa' g t=>?_
             have B:=t.cells;have F:∀y l,r y=some (.cells l)->g y=some (.cells l):=λy l p=>t.1 _ _ (by rw[ab.dT (bm _ P y l p)];exact p)
             have Q:=F _ _ s5;have t4:=F _ _ s4;apply pg;simp[D,Q,B.1,B.2,aM];apply rn;simp[b9,f1.1,f1.2];obtain⟨X,Y,G,E⟩:=hd.1
             have C:Tok (σ.del c) g a' 6 ((es++[e]).map bc):=by have:=t.base P.here.2;simpa using this
             refine ih _ g1 ⟨_,_,a',es++[e],rfl,by simp[J],by simp[T],by simp[D],by simp[H],by simp;omega,⟨X,Y,by omega,?_⟩,?_,ab.ai _ _ _,C.beside (by simp[ab.del,K,aL]) (λe=>by obtain⟨_,_,q⟩:=C.aZ e;rw[Q]at q;cases q),by simp[eb],?_,λe=>by simp at e⟩
             . rw[ab.ah _ _ (zj K)];exact F _ _ E
             . rw[ab.ah _ _ (zj S)];exact t4
             . intro x hx
               rcases aaN.1 hx with hx|hx
               . exact ec x hx
               . simp at hx;subst hx;exact he))
     . have gB:i=qn:=by omega
       subst gB;apply rn;simp[T,D,b9,V,L.2,q4,aM];obtain⟨X,Y,G,E⟩:=c7;obtain⟨f,hf⟩:∃f:Fr,f=⟨es,M,fr,to,cB,aY⟩:=⟨_,rfl⟩
       have gC:uI cnt f:=by
        subst hf;refine⟨eg,dy,by grind,⟨lo,fw,by grind⟩,by grind,by grind,by grind,λe he=>?_⟩
        grind
       obtain⟨a2,gD,h9⟩:∃a2,((f.aA=[]->a2=.lit (.slice none 0 0))/\(f.aA≠[]->a2=jF f.aA))/\a.W a2:=by
        by_cases e:es=[]
        . exact⟨_,⟨λ_=>rfl,λe2=>absurd (by grind) e2⟩,by rw[fg e];exact .refl _⟩
        . exact⟨_,⟨λe2=>absurd (by grind) e,λ_=>rfl⟩,by subst hf;exact u.W⟩
       refine .om (a':=.agg [a2,rows f.roads,int f.aT,int f.eL,int f.cB,int f.aY]) (qm (by grind) λi x y x1 x2=>?_) (.less (σ':=σ.set c (.cells [ints nums,int X,.lit (.int .u64 Y)])) (λy x p=>?_) (.done (h f a2 _ gC ⟨⟨X,Y,by omega,ab.ai _ _ _⟩,λy p=>ab.ah _ _ p⟩ gD)))
       . subst hf
         match i with
         |0=>grind
         |1=>simp at x1 x2;subst x1;subst x2;exact fL 1 _ spr
         |2=>simp at x1 x2;subst x1;subst x2;exact .refl _
         |3=>simp at x1 x2;subst x1;subst x2;exact .refl _
         |4=>simp at x1 x2;subst x1;subst x2;exact .refl _
         |5=>simp at x1 x2;subst x1;subst x2;exact .refl _
         |i+6=>simp at x1
       . by_cases y1:y=c
         . subst y1
           rw[ab.ai]at p;rw[ab.ah _ _ n4,E];exact p
         . rw[ab.ah _ _ y1]at p
           have y4:y≠A:=λe=>by grind
           rw[ab.ah _ _ y4];exact u.1 y x (by simpa[ab.del,y1]using p)
end
end
section
open Go.cz Go.Conc
theorem N2{f}(b:f.Good)  e :bH f e≠[]:=by
 unfold bH gY;have:=b.le;by_cases a:e.gg=0
 . simp[a]
 . have c:(f.eL-f.aT+1).toNat=(f.eL-f.aT).toNat+1:=by omega
   rw[aaK a,c,List.range_succ_eq_map];split<;>simp
def N3(f:Fr)(l:adA):adA:=(bH f (aJ f (l.getD 0 0))).filter λh=>l.all λj=>decide (h∈bH f (aJ f j))
theorem Eu{f l}(b:l≠[]):fH f l=N3 f l:=by
 match l,b with
 | a::r,_=>
   simp only[fH,N3,iP,acO,List.getD_cons_zero];refine aca λx c=>?_
   simp[c,aaL]
section
variable{k:Int->Int}
abbrev CP(k:Int->Int):Int->Int->Bool:=λa b=>decide (k a<k b)
def Dn(k:Int->Int)(r:adA):Prop:=r.Pairwise λy z=>k z<=k y
theorem Ev  x :∀{r},(∀z∈r,k z<=k x)->dK (CP k) x r=x::r
 |[],_=>rfl
 | y::r,h=>by
   unfold dK
   grind
theorem AL  x :∀{r z},z∈dK (CP k) x r->z=x\/z∈r
 |[],z,h=>by simp[dK]at h;exact .inl h
 | y :: r,z,h=>by
   unfold dK at h;split at h
   . rcases abf.1 h with rfl|h
     . simp_all
     . rcases AL x h with h|h
       . exact .inl h
       simp_all
   simp_all
theorem wA  x :∀{r},Dn k r->Dn k (dK (CP k) x r)
 |[],_=>by simp[dK,Dn]
 | y ::r,h=>by
   obtain⟨d,b⟩:=abg.1 h;unfold dK;split
   . next q=>
     have c:k x<k y:=by simp_all
     refine abg.2 ⟨λz a=>?_,wA x b⟩;rcases AL x a with rfl|a
     . omega
     simp_all
   . next q=>
     have c:¬k x<k y:=by simp_all
     refine abg.2 ⟨λz a=>?_,h⟩
     grind
theorem wB{x y r}(h:k x<k y):dK (CP k) x (y::r)=y::dK (CP k) x r:=by simp[dK,CP,h]
theorem wC{x y r}(h:¬k x<k y):dK (CP k) x (y::r)=x::y::r:=by simp[dK,CP,h]
theorem Ew  x :∀r:adA,r.Sublist (dK (CP k) x r)
 |[]=>List.nil_sublist _
 | y::r=>by
   unfold dK;split
   . exact(Ew x r).cons_cons y
   simp_all
theorem N4  x  {d r}(a:d.Sublist r) (hd:Dn k r):(dK (CP k) x d).Sublist (dK (CP k) x r):=by
 induction a with
 |slnil=>simp_all
 | cons y a b=>
   obtain⟨e,c⟩:=abg.1 hd;by_cases q:k x<k y
   . rw[wB q]
     exact(b c).cons y
   . rw[wC q,Ev x (λz f=>by grind)]
     simp_all
 | cons_cons y a b=>
   obtain⟨e,c⟩:=abg.1 hd;by_cases q:k x<k y
   . rw[wB q,wB q]
     exact(b c).cons_cons y
   . rw[wC q,wC q]
     simp_all
theorem Kc{d l:adA}(b:d.Sublist l):∀{a r},a.Sublist r->Dn k r->(d.foldl (λr x=>dK (CP k) x r) a).Sublist (l.foldl (λr x=>dK (CP k) x r) r):=by
 induction b with
 |slnil=>simp_all
 |cons x b c=>intro a r h hd;exact c (h.trans (Ew x r)) (wA x hd)
 |cons_cons x b c=>intro a r h hd;exact c (N4 x h hd) (wA x hd)
end
theorem kD  f   l :aI f l=(dg (CP λn=>(aJ f n).hour) l).reverse:=by
 unfold aI;congr 2;funext a b;unfold uH Cd CP
 grind
theorem Ck{f a l}(b:a.Sublist l):(aI f a).Sublist (aI f l):=by rw[kD,kD];exact(Kc b (List.Sublist.refl _) List.Pairwise.nil).reverse
theorem oY{f l n}:n∈aI f l↔n∈l:=by unfold aI;rw[List.mem_reverse,qW]
theorem SA:∀a:Fin 32,∀b:Fin 32,∀c:Fin 32,bx (a.val:Int) (c.val:Int)<=bx (a.val:Int) (b.val:Int)+bx (b.val:Int) (c.val:Int):=by decide +kernel
theorem lI{l}(h:mE none l=0):∃a:Fin 32,aR l=(a.val:Int):=by have:=gZ (ln h);exact⟨⟨(aR l).toNat,by omega⟩,by grind⟩
def Fit(f:Fr)(a b:Int):Prop:=eo f a b=false
theorem Fr.Good.tri{f:Fr}(a:f.Good){i j k}(hi:i<f.roads.length)(hj:j<f.roads.length)(b:k<f.roads.length):rd f.roads i k<=rd f.roads i j+rd f.roads j k:=by
 have h:=a.KN;unfold eT at h;split at h
 . cases h
 split at h
 . cases h
 split at h
 . omega
 split at h
 . cases h
 next q=>
 simp only[abb,Rp,not_exists,not_and]at q;have c:=q i hi k b;unfold bY at c
 grind
theorem fI{f n}(h:0<=n/\n<f.aA.length):aJ f n∈f.aA:=by
 have:n.toNat<f.aA.length:=by omega
 rw[iV this]
 simp_all
theorem AM{f}(d:f.Good){a b c}(q:0<=a/\a<f.aA.length)(hb:0<=b/\b<f.aA.length)(r:0<=c/\c<f.aA.length)(e:Fit f a b)(g:Fit f b c):Fit f a c:=by
 have h:=kB (d.qV _ (fI q));have l:=kB (d.qV _ (fI hb));have m:=kB (d.qV _ (fI r));have hd:=d.cB;obtain⟨A,n⟩:=lI h.2.2.2.2.2;obtain⟨B,o⟩:=lI l.2.2.2.2.2;obtain⟨C,p⟩:=lI m.2.2.2.2.2;have s:=SA A B C;have t:=h.2.1;have u:=l.2.1;have pc:=m.2.1;have v:=d.tri (i:=(aJ f a).place.toNat) (j:=(aJ f b).place.toNat) (k:=(aJ f c).place.toNat) (by omega) (by omega) (by omega);unfold Fit eo at e g ⊢;rw[n,o]at e;rw[o,p]at g;rw[n,p];simp only[abq]at e g ⊢;have w:f.cB*bx (A.val:Int) (C.val:Int)<=f.cB*(bx (A.val:Int) (B.val:Int)+bx (B.val:Int) (C.val:Int)):=Int.mul_le_mul_of_nonneg_left s (by omega)
 grind
theorem yu  f   a b   r :bu f (a::b::r)=(eo f a b||bu f (b::r)):=by
 unfold bu;rw[show(a::b::r).length-1=r.length+1 from rfl,List.range_succ_eq_map,List.any_cons,List.any_map];rfl
theorem uJ{f}(e:f.Good):∀{l},(∀n∈l,0<=n/\n<f.aA.length)->bu f l=false->l.Pairwise (Fit f)
 |[],_,_=>List.Pairwise.nil
 |[a],_,_=>List.pairwise_singleton _ _
 | a::b::r,d,h=>by
   rw[yu,acz]at h;have g:=uJ e (λn i=>d n (by simp[i])) h.2;refine abg.2 ⟨λz j=>?_,g⟩;rcases abf.1 j with rfl|c
   . exact h.1
   . exact AM e (d a (by simp)) (d b (by simp)) (d z (by simp[c])) h.1 ((abg.1 g).1 z c)
theorem nR{f}:∀{l},l.Pairwise (Fit f)->bu f l=false
 |[],_=>rfl
 |[a],_=>rfl
 |a::b::r,h=>by obtain⟨c,d⟩:=abg.1 h;rw[yu,nR d,Bool.or_false];exact c b (by simp)
theorem oZ{f l}(b:l≠[]){h}:h∈fH f l↔∀j∈l,h∈bH f (aJ f j):=by
 rw[Eu b]
 match l,b with
 | a::r,_=>
   simp only[N3,abv,aaL,aaG]
   simp_all
theorem qo{f l}:jM f l=0↔dt f (aI f l)=false/\cy f (aI f l)=false/\bu f (aI f l)=false:=by
 unfold jM
 grind
theorem Qp{f}(m:f.Good){c l}(o:c.Sublist l)(p:c≠[])(q:∀n∈l,0<=n/\n<f.aA.length)(h:jM f l=0):jM f c=0:=by
 obtain⟨s,g,t⟩:=qo.1 h;have i:=Ck (f:=f) o
 have b:aI f c≠[]:=λe=>by
  cases c with
  |nil=>grind
  |cons a r=>have:a∈aI f (a::r):=oY.2 (by simp);simp_all
 have d:aI f l≠[]:=λe=>b (by simp_all)
 have u:∀n∈aI f l,0<=n/\n<f.aA.length:=λn v=>q n (oY.1 v)
 generalize aI f l=S at *;refine qo.2 ⟨?_,?_,nR ((uJ m u t).sublist i)⟩
 . generalize aI f c=k at *
   unfold dt at s ⊢
   grind
 . generalize aI f c=k at *
   unfold cy at g ⊢;simp only[abq]at g ⊢;obtain⟨x,w⟩:=abG _ g;have:x∈fH f k:=(oZ b).2 λj y=>(oZ d).1 w j (i.subset y)
   grind
theorem SB{f}(b:f.Good)  n :jM f [n]=0:=by
 have e:aI f [n]=[n]:=by simp[aI,dg,dK]
 refine qo.2 ?_;rw[e];refine⟨by simp[dt],?_,rfl⟩;unfold cy;simp only[abq];obtain⟨x,c⟩:=abG _ (N2 b (aJ f n));exact abW ((oZ (by simp)).2 (λj a=>by simp at a;subst a;exact c))
theorem H6{α β:Type}{B}{g:α->List β}:∀(l:List α),(∀x∈l,(g x).length<=B)->(l.flatMap g).length<=l.length*B
 |[],_=>by simp
 | a::l,h=>by
   rw[acu,aaV,abl,acB,Nat.one_mul];have c:=h a (by simp);have d:=H6 l λx b=>h x (by simp[b])
   omega
theorem Ey{f}(a:f.Good)  begun :∀  fuel   cY   many   b ,(gh f begun fuel cY many b).length<=6 ^ fuel
 |0,_,_,_=>by simp[gh]
 | fuel+1,cY,many,b=>by
   unfold gh;refine aaR (H6 (B:=6 ^ fuel) _ λk _=>?_) ?_
   . split
     . simp
     split
     . exact Ey a begun fuel _ _ _
     . simp
   . rw[acw,Nat.pow_succ,Nat.mul_comm]
     have:=a.aY;exact Nat.mul_le_mul_left _ (by omega)
theorem Cl{f}(a:f.Good)  begun :(aH f begun).length<=46656:=by refine aaR (Ey a begun _ _ _ _) ?_;exact Nat.pow_le_pow_right (by omega) a.pI
theorem mX  f   begun :∀  fuel   cY   many   a ,begun.length<=cY.length->gh f begun fuel cY many a=gh f [] fuel cY many a
 |0,_,_,_,_=>rfl
 | fuel+1,cY,many,a,h=>by
   unfold gh;congr 1;funext k;have b:¬(cY.length<begun.length/\begun.getD cY.length 0≠(k:Int)):=by omega
   have c:¬(cY.length<([]:adA).length/\([]:adA).getD cY.length 0≠(k:Int)):=by simp
   rw[aaJ b,aaJ c];split
   . exact mX f begun fuel _ _ _ (by simp;omega)
   . rfl
theorem Gz{f}(b:f.Good)(e:2<=f.aA.length):aH f []=aH f [0,0]++aH f [0,1]:=by
 obtain⟨n,c⟩:∃n,f.aA.length=n+2:=⟨f.aA.length-2,by omega⟩;have g:=b.aY;have d:(min ((0:Int)+1) f.aY).toNat=1:=by omega
 unfold aH;rw[c];unfold gh;rw[d];simp only[aaZ,acW,acD,acu,List.flatMap_nil,abn];simp;by_cases a:jR f (bV 0 0)=true
 . simp only[a,aaO]
   unfold gh;have e2:(min (max (0:Int) 1+1) f.aY).toNat=1\/(min (max (0:Int) 1+1) f.aY).toNat=2:=by omega
   rcases e2 with e2|e2
   . rw[e2]
     simp only[aaZ,acW,acD,acu,List.flatMap_nil,abn];simp;rw[mX f [0,0] n [0,0] _ _ (by simp)]
   . rw[e2]
     simp only[aaZ,acW,acD];simp;rw[mX f [0,0] n [0,0] _ _ (by simp),mX f [0,1] n [0,1] _ _ (by simp)]
 . simp[a]
theorem N5{f}(a:f.Good)(d:f.aA.length<2):aH f []≠[]:=by
 have e:=a.aY;have b:(min ((0:Int)+1) f.aY).toNat=1:=by omega
 have c:jR f (bV 0 0)=true:=by
  have:aB (bV 0 0)=[0]:=by decide +kernel
  unfold jR;rw[this,aaG];exact SB a 0
 rcases(show f.aA.length=0\/f.aA.length=1 by omega)with hn|hn
 . unfold aH;rw[hn];simp[gh]
 . unfold aH;rw[hn]
   unfold gh;rw[b];simp only[aaZ,acW,acD,acu,List.flatMap_nil,abn];simp[c,gh]
theorem GA{f}(a:f.Good)(b:2<=f.aA.length):iu f=((aH f []).length:Int):=by
 unfold iu;rw[aaJ (by omega),Gz a b,aaV];omega
theorem AN{f}(a:f.Good):0<iu f↔aH f []≠[]:=by
 by_cases b:2<=f.aA.length
 . rw[GA a b]
   cases aH f []<;>simp
 . have:=N5 a (by omega)
   have e:iu f=1:=by unfold iu;omega
   simp_all
theorem yv{β:Type}{G:Nat->List β}{c}:∀d ,(∀j,c<=j->j<c+d->G j=[])->(List.range (c+d)).flatMap G=(List.range c).flatMap G
 |0,_=>rfl
 | d+1,h=>by
   rw[<-Nat.add_assoc,aaZ,acf,yv d λj a b=>h j a (by omega)]
   simp_all
theorem AO{α β:Type}{f g:α->List β}{l:List α}(h:∀x∈l,f x=g x):l.flatMap f=l.flatMap g:=by rw[List.flatMap_def,List.flatMap_def,acg h]
def bb(w:adA)(k:Int):adA:=(w.zipIdx.filter λp=>decide (p.1=k)).map λp=>(p.2:Int)
def H7(l:adA):adg:=(List.range (bE l+1).toNat).map λk:Nat=>l++[(k:Int)]
def jI:Nat->adg
 |0=>[[]]
 |i+1=>(jI i).flatMap H7
def yw:Nat->adA->adg
 |0,l=>[l]
 |n+1,l=>(List.range (bE l+1).toNat).flatMap λk:Nat=>yw n (l++[(k:Int)])
def qp(f:Fr)(l:adA):Bool:=decide (bE l<=f.aY) && (List.range (bE l).toNat).all λk:Nat=>decide (jM f (bb l k)=0)
theorem eY  w   x k :bb (w++[x]) k=bb w k++if x=k then[(w.length:Int)]else[]:=by
 unfold bb
 grind
theorem Ez  w t   k :(bb w k).Sublist (bb (w++t) k):=by
 unfold bb
 grind
theorem cE{w k n}(h:n∈bb w k):0<=n/\n<w.length/\w.getD n.toNat 0=k:=by
 unfold bb at h
 grind
theorem cL  w   x :bE (w++[x])=max (bE w) (x+1):=by
 unfold bE
 simp_all
theorem rK(t:adA):∀n ,n<=t.foldl (λn k=>max n (k+1)) n:=by
 induction t with
 |nil=>simp_all
 |cons a t b=>grind
theorem jJ  w t :bE w<=bE (w++t):=by unfold bE;rw[abo];exact rK t _
theorem qt  w :0<=bE w:=rK w 0
theorem yx:∀  n   w l ,l∈yw n w->∃t,l=w++t/\t.length=n
 |0,w,l,h=>by simp[yw]at h;simp_all
 | n+1,w,l,h=>by
   unfold yw at h;obtain⟨k,_,a⟩:=acb.1 h;obtain⟨t,b,c⟩:=yx n _ l a
   simp_all
theorem AP:∀n m ,(jI m).flatMap (yw n)=jI (m+n)
 | 0,m=>by
   have:yw 0=λl=>[l]:=by funext l;rfl
   simp_all
 | n+1,m=>by
   have e:∀l,yw (n+1) l=(H7 l).flatMap (yw n):=λl=>by unfold H7;rw[List.flatMap_map];rfl
   rw[show m+(n+1)=m+1+n by omega,<-AP n (m+1),jI,List.flatMap_assoc]
   exact AO λl _=>e l
theorem N6:∀x:Fin 64,∀n:Fin 6,(∀e∈aB (x.val:Int),e<(n.val:Int))->aB (bV (x.val:Int) (n.val:Int))=aB (x.val:Int)++[(n.val:Int)]:=by decide +kernel
theorem AQ{x}{n:Nat}(b:0<=x/\x<64)(a:n<6)(h:∀e∈aB x,e<n):aB (bV x n)=aB x++[(n:Int)]:=by
 have c:(x.toNat:Int)=x:=by omega
 have:=N6 ⟨x.toNat,by omega⟩ ⟨n,a⟩
 simp_all
theorem N7{f}(b:f.Good){w t}{k:Nat}(hlen:(w++t).length=f.aA.length)(e:(k:Int)<bE w)(a:bb w k≠[])(h:qp f (w++t)=true):jM f (bb w k)=0:=by
 unfold qp at h;rw[za,aaL]at h;have g:=jJ w t;have c:=h.2 k (Rp.2 (by omega));refine Qp b (Ez w t k) a (λn d=>?_) (abV c);have:=cE d;omega
theorem yy{f}(p:f.Good):∀  fuel   cY b ,cY.length+fuel=f.aA.length->Hs f cY.length b->(∀k ,k<6->aB (b.getD k 0)=bb cY k)->bE cY<=f.aY->(∀k:Nat,(k:Int)<bE cY->jM f (bb cY k)=0) ->
 gh f [] fuel cY (bE cY) b=(yw fuel cY).filter (qp f)
 | 0,cY,b,_,_,_,v,w=>by
   have:qp f cY=true:=by
    unfold qp
    grind
   simp[gh,yw,this]
 | fuel+1,cY,b,B,q,hb,v,w=>by
   have r:=p.aY;have C:=p.pI;have x:=qt cY;rw[sd];unfold yw;rw[List.filter_flatMap];obtain⟨d,hd⟩:∃d,(bE cY+1).toNat=(min (bE cY+1) f.aY).toNat+d:=⟨(bE cY+1).toNat-(min (bE cY+1) f.aY).toNat,by omega⟩
   rw[hd,yv d λj D E=>?_]
   . refine AO λk u=>?_
     have u:=Rp.1 u;have h:k<6:=by omega
     have c:k<b.length:=by rw[q.pI];exact h
     have i:b.getD k 0=b[k]:=by simp_all
     have m:cY.length<6:=by omega
     have n:aB (bV b[k] cY.length)=bb (cY++[(k:Int)]) k:=by rw[AQ (q.small _ (zs c)) m (q.bits _ (zs c)),<-i,hb k h,eY,aaK rfl]
     unfold py;rw[aaJ (by simp),i]
     by_cases o:jR f (bV b[k] cY.length)=true
     . rw [aaK o,<-cL]
       unfold jR at o;rw[aaG,n]at o;have y:=q.set m c;refine yy p fuel _ _ (by simp;omega) (by simp_all) (λj s=>?_) (by rw[cL];omega) λj s=>?_
       . by_cases e:j=k
         . simp_all
         . rw[zD,abA (zj e),<-List.getD_eq_getElem?_getD,hb j s,eY,aaJ (by omega),abn]
       . by_cases e:j=k
         . simp_all
         . rw[cL]at s
           rw[eY,aaJ (by omega),abn]
           grind
     . rw[aaJ o]
       symm;rw[acU];intro l g a;obtain⟨t,rfl,z⟩:=yx _ _ _ g;refine o ?_;unfold jR;rw[aaG,n];refine N7 p (by simp;omega) (by rw[cL];omega) ?_ a
       rw[eY,aaK rfl];simp
   . rw[acU]
     intro l g a;obtain⟨t,rfl,z⟩:=yx _ _ _ g;unfold qp at a;rw[za,aaG]at a;have A:=jJ (cY++[(j:Int)]) t;rw[cL]at A;omega
theorem me{f}(d:f.Good):(jI f.aA.length).filter (qp f)=aH f []:=by
 have n:=d.aY;have i:bE []=0:=rfl;have j:aB 0=[]:=by decide +kernel
 have l:∀x∈([0,0,0,0,0,0]:adA),x=0:=λx g=>by simp_all
 have m:Hs f ([]:adA).length [0,0,0,0,0,0]:=⟨rfl,λx g e o=>by simp_all,λx g=>by simp_all⟩
 have c:∀k:Nat,k<6->aB (([0,0,0,0,0,0]:adA).getD k 0)=bb [] k:=λk h=>by
  have:([0,0,0,0,0,0]:adA).getD k 0=0:=by
   match k,h with
   |0,_=>rfl
   |1,_=>rfl
   |2,_=>rfl
   |3,_=>rfl
   |4,_=>rfl
   |5,_=>rfl
  rw[this,j];rfl
 have a:=yy d f.aA.length [] [0,0,0,0,0,0] (by simp) m c (by omega) (λk h=>by omega);rw[i]at a;have b:=AP f.aA.length 0;rw[abU]at b;unfold aH;rw[a,<-b];simp[jI]
theorem lJ:∀  i ,∀l∈jI i,l.length=i/\(∀x∈l,0<=x/\x<i)/\bE l<=i
 |0,l,h=>by simp[jI]at h;subst h;exact⟨rfl,by simp,by decide⟩
 | i+1,l,h=>by
   unfold jI at h;obtain⟨p,c,a⟩:=acb.1 h;obtain⟨d,e,f⟩:=lJ i p c;unfold H7 at a;obtain⟨k,b,rfl⟩:=aaU.1 a;have b:=Rp.1 b;have:=qt p;refine⟨by simp[d],λx g=>?_,by rw[cL];omega⟩
   grind
end
section
open Go.cz Go.Conc
variable{m:Mo}{σ:ab}{KF:adm}
def toldOf(n all:Int):Int:=if n=0 then 2 else if n=all then 1 else 3
theorem tE{n all}(a:0<=n)(b:n<=all)(c:0<all):ir n all=toldOf n all:=by unfold ir toldOf;omega
end
section
open Go.cz Go.Conc
theorem EA{k}:∀(l r:adA),(∀z∈r,∀x∈l,k z<=k x)->l.Pairwise (λa b=>k a<=k b)->l.foldl (λr x=>dK (CP k) x r) r=l.reverse++r
 |[],r,_,_=>rfl
 | a::l,r,d,e=>by
   obtain⟨g,f⟩:=abg.1 e;rw[abC,Ev a (λz c=>d z c a (by simp)),EA l (a::r) (λz c x h=>?_) f,List.reverse_cons,abT]
   . rfl
   grind
theorem EB{f l}(h:l.Pairwise λa b=>(aJ f a).hour<=(aJ f b).hour):aI f l=l:=by
 rw[kD];unfold dg;rw[EA l [] (by simp) h];simp
theorem qu  k :∀(w:adA)  n ,(((w.zipIdx n).filter λp=>decide (p.1=k)).map λp=>(p.2:Int)).Pairwise (·<·)/\∀x∈(((w.zipIdx n).filter λp=>decide (p.1=k)).map λp=>(p.2:Int)),(n:Int)<=x
 |[],n=>by simp
 | a ::w,n=>by
   have b:=qu k w (n+1);rw[List.zipIdx_cons,List.filter_cons];split
   . rw[acO]
     refine⟨abg.2 ⟨λx c=>?_,b.1⟩,λx c=>?_⟩
     . grind
     grind
   grind
theorem er{w k}{i:Nat}(hi:i<w.length)(h:w.getD i 0=k):(i:Int)∈bb w k:=by
 unfold bb;refine aaU.2 ⟨(w[i],i),abv.2 ⟨?_,?_⟩,rfl⟩
 . grind
 simp_all
def uK:adA->adA->adA->adA × List Int
 |[],w,s=>(w,s)
 |h::l,w,s=>if h∈s then uK l (w++[(s.idxOf h:Int)]) s else uK l (w++[(s.length:Int)]) (s++[h])
structure Canon(p w s:adA):Prop where
 len:w.length=p.length
 many:bE w=s.length
 nd:s.Nodup
 sub:∀x∈s,x∈p
 yz:∀k ,(hk:k<s.length)->bb w k=bb p s[k]
 part:w∈jI p.length
theorem Canon.all{p w s}(h:Canon p w s):∀x∈p,x∈s:=λx c=>by
 obtain⟨i,d,rfl⟩:=abm.1 c;have f:=(lJ _ _ h.part).2.1;have a:i<w.length:=by rw[h.len];exact d
 have g:w[i]<bE w:=by
  have e:w=w.take i++(w[i]::w.drop (i+1)):=by simp_all
  have:bE (w.take i++[w[i]])<=bE w:=by
   have:=jJ (w.take i++[w[i]]) (w.drop (i+1))
   grind
  rw[cL]at this;omega
 have k:=f _ (zs a);rw[h.many]at g;have j:w[i].toNat<s.length:=by omega
 have b:(i:Int)∈bb w (w[i].toNat:Int):=er a (by grind);rw[h.yz _ j]at b;have:=(cE b).2.2
 simp_all
theorem tF{s:adA}{h}(a:h∈s):∃b ,s[s.idxOf h]=h:=⟨List.idxOf_lt_length_iff.2 a,List.getElem_idxOf (List.idxOf_lt_length_iff.2 a)⟩
theorem yA{s:adA}(a:s.Nodup){i j hi}{hj:j<s.length}(e:s[i]=s[j]):i=j:=by
 rw[List.Nodup,List.pairwise_iff_getElem]at a
 grind
theorem uL:∀  l p w s ,Canon p w s->Canon (p++l) (uK l w s).1 (uK l w s).2
 |[],p,w,s,h=>by simpa[uK]using h
 | a :: l, p,w,s,h=>by
   have hlen:=h.len;rw[show p++a::l=(p++[a])++l by simp];unfold uK;split
   . next f=>
     obtain⟨i,t⟩:=tF f;refine uL l _ _ _ ⟨by simp[hlen],?_,h.nd,λx hx=>by simp[h.sub x hx],λk c=>?_,?_⟩
     . rw[cL,h.many];omega
     . rw[eY,eY,h.yz k c,hlen]
       by_cases e:k=s.idxOf a
       . simp_all
       . rw[aaJ (by omega),aaJ (λj=>e (yA h.nd (hi:=c) (hj:=i) (by omega)))]
     . rw[aaV,abN,jI,acb]
       exact⟨w,h.part,aaU.2 ⟨_,Rp.2 (by rw[h.many];omega),rfl⟩⟩
   . next f=>
     refine uL l _ _ _ ⟨by simp[hlen],?_,?_,λx hx=>?_,λk c=>?_,?_⟩
     . rw[cL,h.many,aaV];simp;omega
     . rw[acM]
       exact⟨h.nd,by simp,λx hx y u=>by grind⟩
     . rcases aaN.1 hx with hx|hx
       . simp[h.sub x hx]
       simp_all
     . rw [eY,eY,hlen]
       rw[aaV,abN]at c;by_cases e:k=s.length
       . subst e
         rw[aaK rfl];have m:(s++[a])[s.length]=a:=by simp
         rw[m,aaK rfl];congr 1
         have n:bb w (s.length:Int)=[]:=by
          rw[List.eq_nil_iff_forall_not_mem];intro x hx;obtain⟨o,q,g⟩:=cE hx;have b:x.toNat<w.length:=by omega
          rw[zD,zU b,abF]at g;have e:w=w.take x.toNat++(w[x.toNat]::w.drop (x.toNat+1)):=by rw[<-List.drop_eq_getElem_cons b,List.take_append_drop]
          have:=jJ (w.take x.toNat++[w[x.toNat]]) (w.drop (x.toNat+1));rw[abT,acY,<-e,cL,h.many]at this;omega
         have r:bb p a=[]:=by
          rw[List.eq_nil_iff_forall_not_mem];intro x hx;obtain⟨o,q,g⟩:=cE hx;have b:x.toNat<p.length:=by omega
          rw[zD,zU b,abF]at g;exact f (g ▸ h.all _ (zs b))
         rw[n,r]
       . have d:k<s.length:=by omega
         rw[aaJ (by omega),List.getElem_append_left d,aaJ (λj=>f (by simp_all)),h.yz k d]
     . rw[aaV,abN,jI,acb]
       exact⟨w,h.part,aaU.2 ⟨_,Rp.2 (by rw[h.many];omega),rfl⟩⟩
theorem EC  p :∃w s,Canon p w s:=⟨_,_,by
 have:=uL p [] [] [] ⟨rfl,rfl,acK,by simp,λk a=>by simp at a,by simp[jI]⟩;simpa using this⟩
theorem uM:∀(m:Nat) (s:adA),s.Nodup->(∀x∈s,0<=x/\x<m)->s.length<=m
 | 0,s,_,h=>by
   cases s with
   |nil=>simp_all
   |cons a s=>have:=h a (by simp);omega
 | m+1,s,b,h=>by
   have c:=uM m (s.erase (m:Int)) (b.erase _) λx d=>by grind
   grind
abbrev se:wu:=⟨0,0,0,[],0,0⟩
def N8(f:Fr)(a b:wu):Prop:=rd f.roads a.place.toNat b.place.toNat+f.cB*bx (aR a.marks) (aR b.marks)<=b.hour-a.hour
structure Seen(f0:Fr)(aY:Nat)(C H:adA)(ks:adA)(es last:List wu):Prop where
 len:ks.length=es.length
 SC:∀x∈ks,0<=x/\x<aY
 qV:∀e∈es,bL f0.roads.length e=0
 bX:∀i,i<es.length->(es.getD i se).bX=C.getD (ks.getD i 0).toNat 0
 SD:∀i,i<es.length->H.getD (ks.getD i 0).toNat 0∈bH f0 (es.getD i se)
 fit:∀i j,i<j->j<es.length->ks.getD i 0=ks.getD j 0->(∀m,i<m->m<j->ks.getD m 0≠ks.getD i 0)->N8 f0 (es.getD i se) (es.getD j se)
 XJ:∀i,i<es.length->(∀m,i<m->m<es.length->ks.getD m 0≠ks.getD i 0)->last.getD (ks.getD i 0).toNat se=es.getD i se
 H8:∀k,k<aY->(last.getD k se).bX=C.getD k 0
 SE:last.length=aY
theorem TO{α:Type}  l  (x d:α)  i :(l++[x]).getD i d=if i<l.length then l.getD i d else if i=l.length then x else d:=by grind
theorem Seen.push{f0 aY C H ks es last}(h:Seen f0 aY C H ks es last){k n}(v:k<aY)(A:bL f0.roads.length n=0)(s:n.bX=(last.getD k se).bX)(B:H.getD k 0∈bH f0 n)(D:(k:Int)∈ks->N8 f0 (last.getD k se) n):
 Seen f0 aY C H (ks++[(k:Int)]) (es++[n]) (last.set k n):=by
 have hlen:=h.len;have w:=h.SE;have d:∀i,i<es.length->(es++[n]).getD i se=es.getD i se:=λi a=>by grind
 have y:(es++[n]).getD es.length se=n:=by simp_all
 have c:∀i,i<es.length->(ks++[(k:Int)]).getD i 0=ks.getD i 0:=λi a=>by grind
 have l:(ks++[(k:Int)]).getD es.length 0=(k:Int):=by simp_all
 have o:∀i,i<es.length->0<=ks.getD i 0/\ks.getD i 0<aY:=λi a=>by
  have f:i<ks.length:=by omega
  rw[zD,zU f];exact h.SC _ (zs f)
 refine⟨by simp[hlen],λx hx=>?_,λe he=>?_,λi a=>?_,λi a=>?_,λi j p g he q=>?_,λi a q=>?_,λj g=>?_,by simp_all⟩
 . rcases aaN.1 hx with hx|hx
   . exact h.SC x hx
   simp_all
 . rcases aaN.1 he with he|he
   . exact h.qV e he
   simp_all
 . rw[aaV,abN]at a
   by_cases e:i=es.length
   . subst e;rw[y,l,s,acs];exact h.H8 k v
   . rw[d i (by omega),c i (by omega)];exact h.bX i (by omega)
 . rw[aaV,abN]at a
   by_cases e:i=es.length
   . simp_all
   . rw[d i (by omega),c i (by omega)];exact h.SD i (by omega)
 . rw [aaV,abN]at g
   have a:i<es.length:=by omega
   by_cases e:j=es.length
   . subst e
     rw[c i a,l]at he;have z:=h.XJ i a λm t u=>by simp_all
     rw[he,acs]at z
     grind
   . rw[c i a,c j (by omega)]at he
     rw[d i a,d j (by omega)];refine h.fit i j p (by omega) he λm t u=>?_
     grind
 . rw[aaV,abN]at a q
   by_cases e:i=es.length
   . simp_all
   . have b:i<es.length:=by omega
     have r:=q es.length b (by omega);rw[l,c i b]at r;have E:=o i b;rw[d i b,c i b,zD,abA (by omega),<-List.getD_eq_getElem?_getD];refine h.XJ i b λm t u=>?_
     grind
 . by_cases e:j=k
   . subst e
     rw[zD,abL (by omega),abF,s];exact h.H8 j g
   . rw[zD,abA (zj e),<-List.getD_eq_getElem?_getD]
     exact h.H8 j g
section
variable{f:Fr}{aY:Nat}{C H ks:adA}{last:List wu}
theorem V4(a:f.Good){i j}(hi:i<f.roads.length)(hj:j<f.roads.length):0<=rd f.roads i j:=by
 obtain⟨c,d⟩:=a.row hi;have b:j<f.roads[i].length:=by omega
 unfold rd
 simp_all
theorem N9(c:f.Good){a b:Int}(d:0<=a/\a<f.aA.length)(hb:0<=b/\b<f.aA.length)(h:Fit f a b):(aJ f a).hour<=(aJ f b).hour:=by
 have e:=kB (c.qV _ (fI d));have g:=kB (c.qV _ (fI hb));have hd:=c.cB;have l:=V4 c (i:=(aJ f a).place.toNat) (j:=(aJ f b).place.toNat) (by omega) (by omega);have k:=(Ci (gZ (ln e.2.2.2.2.2)) (gZ (ln g.2.2.2.2.2))).2.1;have m:=Int.mul_nonneg (show 0<=f.cB by omega) k;unfold Fit eo at h
 grind
theorem Seen.pair(h:Seen f aY C H ks f.aA last)(b:f.Good):∀  d i j ,j-i<=d->i<j->j<f.aA.length->ks.getD i 0=ks.getD j 0->Fit f i j
 |0,i,j,hd,a,_,_=>by omega
 | d + 1,i,j,hd,a,k,l=>by
   by_cases q:∃m,i<m/\m<j/\ks.getD m 0=ks.getD i 0
   . obtain⟨m,c,e,g⟩:=q
     have n:=h.pair b d i m (by omega) c (by omega) g.symm;have o:=h.pair b d m j (by omega) e k (by omega);exact AM b (by omega) (by omega) (by omega) n o
   . have:=h.fit i j a k l λm c e g=>q ⟨m,c,e,g⟩
     unfold N8 at this;unfold Fit eo;rw[show aJ f (i:Int)=f.aA.getD i se from rfl,show aJ f (j:Int)=f.aA.getD j se from rfl]
     simp_all
theorem Seen.one(h:Seen f aY C H ks f.aA last)(m:f.Good){k}(l:bb ks k≠[]):jM f (bb ks k)=0:=by
 have c:∀n∈bb ks k,0<=n/\n<f.aA.length/\ks.getD n.toNat 0=k:=λn e=>by have:=cE e;rw[h.len]at this;exact this
 have d:(bb ks k).Pairwise (Fit f):=by
  refine((qu k ks 0).1).imp_of_mem λ{a b} i hb g=>?_
  have j:=c a i;have p:=c b hb;have:=h.pair m (b.toNat-a.toNat) a.toNat b.toNat (aaP _) (by omega) (by omega) (by omega)
  grind
 have o:aI f (bb ks k)=bb ks k:=EB (d.imp_of_mem λ{a b} i hb g=>N9 m ⟨(c a i).1,(c a i).2.1⟩ ⟨(c b hb).1,(c b hb).2.1⟩ g);refine qo.2 ?_;rw[o];refine⟨?_,?_,nR d⟩
 . have q:∀n∈bb ks k,(aJ f n).bX=C.getD k.toNat 0:=λn e=>by
    have j:=c n e;have:=h.bX n.toNat (by omega);rw[j.2.2]at this;exact this
   unfold dt
   grind
 . unfold cy
   simp only[abq]
   have:H.getD k.toNat 0∈fH f (bb ks k):=(oZ l).2 λn e=>by
    have j:=c n e;have:=h.SD n.toNat (by omega);rw[j.2.2]at this;exact this
   grind
theorem Seen.cY(h:Seen f aY C H ks f.aA last)(c:f.Good)(l:(aY:Int)<=f.aY):∃w s,Canon ks w s/\w∈aH f []:=by
 obtain⟨w,s,a⟩:=EC ks;refine⟨w,s,a,?_⟩;rw[<-me c,abv,<-h.len];refine⟨a.part,?_⟩;unfold qp;rw[za,aaL,a.many];have m:=uM aY s a.nd λx g=>h.SC x (a.sub x g)
 refine⟨decide_eq_true (by omega),λk d=>?_⟩;have d:=Rp.1 d;have b:k<s.length:=by omega
 rw[aaG,a.yz k b];refine h.one c ?_;obtain⟨i,j,e⟩:=abm.1 (a.sub _ (zs b));exact abW (er j (by simp_all))
end
theorem GB{n all}(h:0<all):toldOf n all=2↔n=0:=by unfold toldOf;omega
theorem Kd{α:Type}  p  (l:List α):(l.filter p).length=0↔∀x∈l,p x=false:=by simp_all
section
variable{L:adg}{n:Nat}
def ED(L:adg)(x y:Nat):Int:=ir ((L.filter (iQ x y)).length:Int) L.length
theorem GC(a:0<L.length){x y}:ED L x y=2↔∀w∈L,iQ x y w=false:=by
 have:=abJ (iQ (x:Int) y) L;unfold ED;rw[tE (by omega) (by omega) (by omega),GB (by omega),<-Kd];omega
end
theorem Fr.Good.Fb{f}(h:f.Good):check f=0:=by
 have c:=h.fr;have d:=h.to;have e:=h.le;have g:=h.cB;have i:=h.aY;have j:=h.pI;have a:(br f.aT 0 3 && br f.eL 0 3)=true:=by simp[br];omega
 have b:(br f.cB 1 6 && br f.aY 1 6)=true:=by simp[br];omega
 unfold Go.Proofs.YtkcceaplmgdnfaaGreatDoor.check;rw[aaJ (by simp[h.KN]),a,aaJ (by simp),aaJ (by omega),b,aaJ (by simp),aaJ (by omega)]
 exact oV h.qV
section
variable{L:adg}{n:Nat}
theorem yB{p w s}(h:Canon p w s){i j}(hi:i<p.length)(hj:j<p.length)(e:p.getD i 0=p.getD j 0):iQ i j w=true:=by
 have d:i<w.length:=by rw[h.len];exact hi
 have f:j<w.length:=by rw[h.len];exact hj
 have g:p.getD i 0=p[i]:=by simp_all
 have k:p.getD i 0∈s:=h.all _ (by simp_all)
 obtain⟨l,m⟩:=tF k;have a:=h.yz _ l;rw[m]at a;have n:(i:Int)∈bb w ((s.idxOf (p.getD i 0):Nat):Int):=by rw[a];exact er hi rfl
 have o:(j:Int)∈bb w ((s.idxOf (p.getD i 0):Nat):Int):=by rw[a];exact er hj e.symm
 have b:=(cE n).2.2;have c:=(cE o).2.2;rw[acs]at b c;simp only[iQ,aaG,acs,b,c]
end
theorem AR  lt   x :∀r ,(dK lt x r).Perm (x::r)
 |[]=>List.Perm.refl _
 | y::r=>by
   unfold dK;split
   . exact((AR lt x r).cons y).trans (List.Perm.swap x y r)
   simp_all
theorem GD  lt   l :(dg lt l).Perm l:=by
 have key:∀(l r:adA),(l.foldl (λr x=>dK lt x r) r).Perm (l++r):=by
  intro l;induction l with
  |nil=>simp_all
  | cons a l b=>
    intro r;rw[abC];refine(b _).trans (((AR lt a r).append_left l).trans ?_)
    simp_all
 simpa[dg]using key l []
theorem iR  f   l :(aI f l).Perm l:=(List.reverse_perm _).trans (GD _ _)
theorem EE  f   l :(aI f l).Pairwise λa b=>(aJ f a).hour<=(aJ f b).hour:=by
 rw[kD,List.pairwise_reverse]
 have key:∀(l r:adA),Dn (λn=>(aJ f n).hour) r->Dn (λn=>(aJ f n).hour) (l.foldl (λr x=>dK (CP λn=>(aJ f n).hour) x r) r):=by
  intro l;induction l with
  |nil=>simp_all
  |cons a l c=>intro r h;exact c _ (wA a h)
 exact key l [] List.Pairwise.nil
theorem vz{R}:∀{l:adA},l.Pairwise R->∀a∈l,∀b∈l,a≠b->R a b\/R b a
 |[],_,a,d,_,_,_=>by cases d
 | c ::l,h,a,d,b,hb,e=>by
   obtain⟨j,i⟩:=abg.1 h;rcases abf.1 d with rfl|f
   . grind
   . rcases abf.1 hb with rfl|g
     . simp_all
     . exact vz i a f b g e
theorem Qq:∀a:Fin 32,∀b:Fin 32,bx (a.val:Int) (b.val:Int)=bx (b.val:Int) (a.val:Int):=by decide +kernel
theorem Fr.Good.symm{f:Fr}(a:f.Good){i j}(hi:i<f.roads.length)(hj:j<f.roads.length):rd f.roads i j=rd f.roads j i:=by
 have h:=a.KN;unfold eT at h;split at h
 . cases h
 split at h
 . cases h
 split at h
 . omega
 split at h
 . cases h
 next q=>
 simp only[abb,Rp,not_exists,not_and]at q;have b:=q i hi j hj;unfold bY at b
 simp_all
theorem Qr:∀a:Fin 32,bx (a.val:Int) (a.val:Int)=0:=by decide +kernel
theorem EF{f}(a:f.Good){x}(b:0<=x/\x<f.aA.length):eo f x x=false:=by
 have e:=kB (a.qV _ (fI b));obtain⟨A,c⟩:=lI e.2.2.2.2.2;have p:=e.2.1
 have d:rd f.roads (aJ f x).place.toNat (aJ f x).place.toNat=0:=by
  have h:=a.KN;unfold eT at h;split at h
  . cases h
  split at h
  . cases h
  split at h
  . omega
  split at h
  . cases h
  next q=>
  simp only[abb,Rp,not_exists,not_and]at q;have g:=q (aJ f x).place.toNat (by omega) (aJ f x).place.toNat (by omega);unfold bY at g
  simp_all
 unfold eo;rw[c,Qr,d];simp
theorem Oa{f}(c:f.Good){a b}(g:0<=a/\a<f.aA.length)(hb:0<=b/\b<f.aA.length)(k:(aJ f a).hour<=(aJ f b).hour)(h:Fit f b a):Fit f a b:=by
 have d:=kB (c.qV _ (fI g));have e:=kB (c.qV _ (fI hb));have hd:=c.cB;obtain⟨A,l⟩:=lI d.2.2.2.2.2;obtain⟨B,m⟩:=lI e.2.2.2.2.2;have n:=d.2.1;have o:=e.2.1;have p:=Qq A B;have q:=c.symm (i:=(aJ f a).place.toNat) (j:=(aJ f b).place.toNat) (by omega) (by omega);unfold Fit eo at h ⊢
 grind
structure GF  f  (l:adA):Prop where
 bX:∀a∈l,∀b∈l,(aJ f a).bX=(aJ f b).bX
 SD:∃h,∀j∈l,h∈bH f (aJ f j)
 fit:∀a∈l,∀b∈l,a≠b->Fit f a b\/Fit f b a
theorem wD{f}(u:f.Good){l}(y:l≠[])(o:l.Nodup)(p:∀n∈l,0<=n/\n<f.aA.length):jM f l=0↔GF f l:=by
 have v:=iR f l;have c:∀n,n∈aI f l↔n∈l:=λn=>v.mem_iff
 have r:=EE f l;have m:(aI f l).Nodup:=v.nodup_iff.2 o;have g:aI f l≠[]:=λe=>by simp_all
 rw[qo];generalize aI f l=S at *;have z:S.getD 0 0∈S:=by grind
 constructor
 . rintro⟨w,s,A⟩
   unfold dt at w;rw[abH]at w;have B:∀x∈S,(aJ f x).bX=(aJ f (S.getD 0 0)).bX:=λx k=>by simp_all
   refine⟨λa i b hb=>by simp_all,?_,λa i b hb d=>vz (uJ u (λn C=>p n ((c n).1 C)) A) a ((c a).2 i) b ((c b).2 hb) d⟩;unfold cy at s;simp only[abq]at s;obtain⟨x,k⟩:=abG _ s;exact⟨x,λj t=>(oZ g).1 k j ((c j).2 t)⟩
 . intro h
   refine⟨?_,?_,nR ?_⟩
   . unfold dt
     rw[abH];intro x k;rw[h.bX x ((c x).1 k) _ ((c _).1 z)];simp
   . unfold cy
     simp only[abq];obtain⟨x,k⟩:=h.SD;have:x∈fH f S:=(oZ g).2 λj t=>k j ((c j).1 t)
     grind
   . refine(r.and m).imp_of_mem λ{a b} i hb d=>?_
     have i:=(c a).1 i;have hb:=(c b).1 hb;rcases h.fit a i b hb d.2 with q|q
     . exact q
     . exact Oa u (p a i) (p b hb) d.1 q
theorem np  w   k :(bb w k).Nodup:=(qu k w 0).1.imp λh=>by omega
theorem Ke  L   x y  (a:0<L.length):ED L x y=1\/ED L x y=2\/ED L x y=3:=by
 have:=abJ (iQ (x:Int) y) L;unfold ED;rw[tE (by omega) (by omega) (by omega)];unfold toldOf;omega
theorem o0{w x}(h:x∈w):x<bE w:=by obtain⟨a,b,rfl⟩:=List.append_of_mem h;have:=jJ (a++[x]) b;rw[abT,acY,cL]at this;omega
section
variable{f x:Fr}{π ρ:adC}
theorem yC{p w s}(h:Canon p w s){i j}(hi:i<p.length)(hj:j<p.length)(e:iQ i j w=true):p.getD i 0=p.getD j 0:=by
 have a:i<w.length:=by rw[h.len];exact hi
 have b:j<w.length:=by rw[h.len];exact hj
 simp only[iQ,aaG,acs]at e;have f:w.getD i 0=w[i]:=by simp_all
 have m:=((lJ _ _ h.part).2.1 _ (zs a)).1;have g:=o0 (zs a);rw[h.many]at g;have k:w[i].toNat<s.length:=by omega
 have l:=h.yz _ k;have c:(i:Int)∈bb w ((w[i].toNat:Nat):Int):=er a (by omega)
 have d:(j:Int)∈bb w ((w[i].toNat:Nat):Int):=er b (by omega)
 rw[l]at c d;have n:=(cE c).2.2;have o:=(cE d).2.2
 simp_all
end
section
variable{f x:Fr}{π ρ:adC}
theorem yD{f}(a:f.Good){w}(h:w∈aH f []):w∈jI f.aA.length:=by rw[<-me a]at h;simp_all
end
theorem hQ{l:adA}{i}(h:i<l.length):l.getD i 0∈l:=by simp_all
theorem Qs{l:adA}{x}(h:x∈l):∃i,i<l.length/\l.getD i 0=x:=by obtain⟨i,a,e⟩:=abm.1 h;exact⟨i,a,by simp_all⟩
structure o6(f x:Fr)(L:adA):Prop where
 roads:x.roads=f.roads
 fr:x.aT=f.aT
 to:x.eL=f.eL
 cB:x.cB=f.cB
 aY:f.aY<=x.aY
 SC:∀i∈L,0<=i/\i<f.aA.length
 qV:x.aA=L.map (aJ f)
section
variable{f x:Fr}{L:adA}
theorem o6.len(h:o6 f x L):x.aA.length=L.length:=by rw[h.qV,abi]
theorem o6.at(h:o6 f x L){j:Int}(b:0<=j/\j<L.length):aJ x j=aJ f (L.getD j.toNat 0):=by
 have a:j.toNat<L.length:=by omega
 unfold aJ;rw[h.qV,zD,abk,zU a,zD (l:=L),zU a];rfl
theorem o6.bH(h:o6 f x L)(e:wu):bH x e=bH f e:=by unfold Go.Proofs.YtkcceaplmgdnfaaGreatDoor.bH gY;rw[h.fr,h.to]
theorem o6.one(h:o6 f x L)(n:x.Good){l i:adA}(e:∀j∈i,(0<=j/\j<L.length)/\L.getD j.toNat 0∈l)(k:GF f l):GF x i:=by
 have c:∀j∈i,aJ x j=aJ f (L.getD j.toNat 0):=λj m=>h.at (e j m).1
 refine⟨λa d b hb=>?_,?_,λa d b hb o=>?_⟩
 . rw[c a d,c b hb];exact k.bX _ (e a d).2 _ (e b hb).2
 . obtain⟨z,q⟩:=k.SD
   exact⟨z,λj m=>by rw[h.bH,c j m];simp_all⟩
 . by_cases g:L.getD a.toNat 0=L.getD b.toNat 0
   . have r:=EF n (x:=b) (by rw[h.len];simp_all)
     have p:=c a d;rw[g,<-c b hb]at p;refine .inl ?_;unfold Fit eo at *
     simp_all
   have:=k.fit _ (e a d).2 _ (e b hb).2 g;unfold Fit eo at this ⊢;rw[c a d,c b hb,h.roads,h.cB];exact this
theorem o6.cY(h:o6 f x L)(E:f.Good)(u:x.Good){w}(F:w∈aH f []):∃v∈aH x [],∀i j ,i<L.length->j<L.length->iQ i j v=iQ (L.getD i 0) (L.getD j 0) w:=by
 rw[<-me E,abv]at F;obtain⟨y,z⟩:=F;obtain⟨wl,G,_⟩:=lJ _ _ y;obtain⟨p,R⟩:∃p,p=L.map λj=>w.getD j.toNat 0:=⟨_,rfl⟩
 have g:p.length=L.length:=by simp_all
 have o:∀j,j<L.length->0<=L.getD j 0/\(L.getD j 0).toNat<w.length:=λj l=>by have:=h.SC _ (hQ l);omega
 have m:∀j,j<L.length->p.getD j 0=w.getD (L.getD j 0).toNat 0:=λj l=>by simp_all
 have r:∀c∈p,∃j,j<L.length/\p.getD j 0=c/\c∈w:=λc d=>by
  obtain⟨j,l,H⟩:=Qs d
  grind
 obtain⟨v,s,d⟩:=EC p;have A:=z;unfold qp at A;rw[za,aaL,aaG]at A;refine⟨v,?_,λi j n l=>?_⟩
 . rw[<-me u,abv,h.len,<-g]
   refine⟨d.part,?_⟩;unfold qp;rw[za,aaL,d.many];have J:=qt w
   have S:=uM (bE w).toNat s d.nd λc B=>by obtain⟨_,_,_,a⟩:=r c (d.sub c B);have:=G c a;have:=o0 a;omega
   refine⟨decide_eq_true (by have:=h.aY;omega),λk T=>?_⟩
   have t:k<s.length:=by grind
   rw[aaG,d.yz k t];obtain⟨j,l,e,a⟩:=r _ (d.sub _ (zs t));generalize s[k]=c at *;have K:=G c a;have M:=o0 a;have b:=abV (A.2 c.toNat (Rp.2 (by omega)))
   rw[show(c.toNat:Int)=c by omega]at b
   have C:bb w c≠[]:=abW (er (i:=(L.getD j 0).toNat) (o j l).2 (by grind))
   have D:bb p c≠[]:=abW (er (i:=j) (by omega) e)
   rw[wD E C (np w c) λi n=>by have:=cE n;omega]at b
   rw[wD u D (np p c) λi n=>by have:=cE n;rw[g,<-h.len]at this;omega]
   refine h.one u (λi n=>?_) b
   obtain⟨N,I,O⟩:=cE n;rw[g]at I;have P:=o i.toNat (by omega)
   refine⟨⟨N,I⟩,?_⟩;have:=er (w:=w) (k:=c) (i:=(L.getD i.toNat 0).toNat) P.2 (by rw[<-m _ (by omega)];exact O)
   rwa [show((L.getD i.toNat 0).toNat:Int)=L.getD i.toNat 0 by omega]at this
 . have Q:=m i n
   have H:=m j l;rw[ach];constructor
   . intro q
     have:=yC d (by omega) (by omega) q
     rw[Q,H]at this;simp only[iQ,aaG];exact this
   . intro q
     simp only[iQ,aaG]at q;exact yB d (by omega) (by omega) (by omega)
end
end
section
open Go.cz Go.Conc
variable{m:Mo}{σ:ab}{KF:adm}
structure Way where
 a:Int
 b:Int
 cG:Int
 aT:Int
 eL:Int
 deriving DecidableEq
structure O4 where
 lost:wu
 town:Int
 hour:Int
 deriving DecidableEq
structure gO where
 fair:Fr
 bf:Int
 ways:List Way
 aD:List O4
 deriving DecidableEq
abbrev jN(x:Way):AV:=.agg [int x.a,int x.b,int x.cG,int x.aT,int x.eL]
abbrev iv(c:O4):AV:=.agg [int c.lost.hour,int c.lost.place,int c.lost.bX,ints c.lost.marks,int c.lost.aX,int c.lost.gg,int c.town,int c.hour]
abbrev uN(l:List Way):AV:=.sl 5 (l.map jN) .any
abbrev kW(l:List O4):AV:=.sl 8 (l.map iv) .any
abbrev EG(w:gO):adF:=[jF w.fair.aA,rows w.fair.roads,int w.fair.aT,int w.fair.eL,int w.fair.cB,int w.fair.aY,int w.bf,uN w.ways,kW w.aD]
abbrev dP(w:gO):AV:=.agg (EG w)
abbrev Qt(b mb:Nat)(w:gO)(a c d:AV)(hole:adB)(o:Nat):AV:=.kp b [jF w.fair.aA,rows w.fair.roads,int w.fair.aT,int w.fair.eL,int w.fair.cB,int w.fair.aY,int w.bf,uN w.ways,kW w.aD,.lit (.int .i32 0),.lit (.int .u32 0),a,c,d,.map mb] hole o
def tH(bf:Int)(x:Way):Prop:=(0<=x.a/\x.a<bf)/\(0<=x.b/\x.b<bf)/\(1<=x.cG/\x.cG<=12)/\(0<=x.aT/\x.aT<=72)/\0<=x.eL/\x.eL<=72
def qv(h:Int)(x:Way):Int:=if h<x.aT then x.aT else h
def Ob(h a b:Int)(x:Way)(c:Int):Int:=if(x.a≠a\/x.b≠b)/\(x.a≠b\/x.b≠a)then c else if qv h x<=x.eL then(if qv h x+x.cG<c then qv h x+x.cG else c)else c
def nT(l:List Way)(h a b:Int):Int:=l.foldl (λc x=>Ob h a b x c) 1048576
theorem SF{h a b c x}(d:1<=x.cG/\x.cG<=12)(e:0<=h)(hb:0<=c/\c<=1048576):0<=Ob h a b x c/\Ob h a b x c<=1048576:=by
 have:0<=qv h x:=by unfold qv;omega
 unfold Ob;omega
theorem EH{l h a b}(e:∀x∈l,1<=x.cG/\x.cG<=12)(f:0<=h):0<=nT l h a b/\nT l h a b<=1048576:=by
 have key:∀(l:List Way) (c:Int),(∀x∈l,1<=x.cG/\x.cG<=12)->(0<=c/\c<=1048576)->0<=l.foldl (λc x=>Ob h a b x c) c/\l.foldl (λc x=>Ob h a b x c) c<=1048576:=λl=>by
  induction l with
  |nil=>simp_all
  |cons x l g=>exact λc d i=>g _ (λy j=>d y (by simp[j])) (SF (d x (by simp)) f i)
 exact key l _ e ⟨by omega,by omega⟩
theorem eE{σ:ab}{d x}(h:σ d=none):(σ.set d x).del d=σ:=by
 funext c;by_cases e:c=d
 . subst e;simp[ab.del,h]
 . simp[ab.set,ab.del,e]
theorem Oc{fb mb w E F G hole h a b}(R:∀i∈hole,9<=i)(S:w.ways.length<1152921504606846976)(z:∀x∈w.ways,tH w.bf x)(H:0<=h/\h<=1048576)(I:KF (.val (int (nT w.ways h a b))) σ):az prog m 77 [Qt fb mb w E F G hole 0,int h,int a,int b] σ KF:=by
 have J:7∉hole:=λq=>by grind
 refine fs [] Tryz.func77 rfl (by kernel_rfl) ?_
 simp[Tryz.f77,J];apply rn;simp;refine aa.loop w.ways.length (λk s=>∃env,s=⟨env,σ,[],.no⟩/\env 1=int h/\env 2=int a/\env 3=int b/\env 9=int (nT (w.ways.take k) h a b)/\env 17=uN w.ways/\env 18=int w.ways.length/\env 19=int k) ⟨_,rfl,by simp[nT]⟩ ?_
 rintro T k _ U ⟨env,rfl,o,r,t,u,c,f,g⟩ v
 refine aa.runN lay [] 17 ?_;simp[f,g];apply aG.intro<;>intro j<;>simp at j<;>simp[u,c,g,j]
 . refine bS.intro λd hd=>?_
   simp
   change aa _ _ _ _ _ _ _ _ _
   refine aa.bd 11 (b:=d) (jN w.ways[k]) (ab.ai _ _ _) (by simp) rfl ?_
   rw[eE hd];obtain⟨⟨V,W⟩,⟨X,Y⟩,⟨Z,x6⟩,⟨x7,x8⟩,x9,K⟩:=z _ (zs j);have L:=EH (l:=w.ways.take k) (h:=h) (a:=a) (b:=b) (λx M=>(z x (acA M)).2.2.1) H.1
   have y:nT (w.ways.take (k+1)) h a b=Ob h a b w.ways[k] (nT (w.ways.take k) h a b):=by unfold nT;rw[zG j,abo];rfl
   obtain⟨N,A⟩:∃p,(w.ways[k].a !=a)=p:=⟨_,rfl⟩;obtain⟨O,B⟩:∃p,(w.ways[k].b !=b)=p:=⟨_,rfl⟩;obtain⟨P,C⟩:∃p,(w.ways[k].a !=b)=p:=⟨_,rfl⟩;obtain⟨Q,D⟩:∃p,(w.ways[k].b !=a)=p:=⟨_,rfl⟩;cases N<;>cases O<;>cases P<;>cases Q
   all_goals
    apply rn;simp[o,r,t,g,A,B,C,D]
   all_goals simp at A B C D
   all_goals try refine⟨by omega,v _ j ⟨_,rfl,?_⟩⟩
   all_goals try
    simp[o,r,t,u,c,f];rw[y,Ob,aaK (by omega)]
   all_goals
    rw[show(if h<w.ways[k].aT then w.ways[k].aT else h)=qv h w.ways[k]from rfl]
    have f0:0<=qv h w.ways[k]/\qv h w.ways[k]<=1048576:=by unfold qv;split<;>omega
    refine aG.intro (λn=>?_) (λn=>?_)<;>(try simp[-Int.not_lt,-Int.not_le]at n)<;>(try simp[u,g,n])
    . have f1:-9223372036854775808<=qv h w.ways[k]+w.ways[k].cG/\qv h w.ways[k]+w.ways[k].cG<=9223372036854775807:=by omega
      simp[f1.1,f1.2];refine⟨by omega,v _ j ⟨_,rfl,?_⟩⟩
      simp[o,r,t,c,f];rw[y];exact (show Ob h a b w.ways[k] (nT (w.ways.take k) h a b)=_ by rw[Ob,aaJ (by omega),aaK n]).symm
    . refine⟨by omega,v _ j ⟨_,rfl,?_⟩⟩
      simp[o,r,t,u,c,f];rw[y,Ob,aaJ (by omega)]
      simp[n]
 . have e:k=w.ways.length:=by omega
   subst e;rw[aaQ];exact .done I
def mh(l:List Way)(a b:Nat)(t:adA):adA:=if t.getD a 0<1048576 then t.set b (if nT l (t.getD a 0) a b<t.getD b 0 then nT l (t.getD a 0) a b else t.getD b 0)else t
def tJ(l:List Way)(n a:Nat)(t:adA):adA:=(List.range n).foldl (λt b=>mh l a b t) t
def pass(l:List Way)(n:Nat)(t:adA):adA:=(List.range n).foldl (λt a=>tJ l n a t) t
def iw(l:List Way)(n:Nat):Nat->adA->adA
 |0,t=>t
 |k+1,t=>if pass l n t=t then t else iw l n k (pass l n t)
def qw(t:adA):Nat:=(t.foldl (·+·) 0).toNat
def begun(town hour:Int):adA:=[1048576,1048576,1048576,1048576].set town.toNat hour
def qY(l:List Way)(n:Nat)(town hour:Int):adA:=iw l n (qw (begun town hour)+1) (begun town hour)
theorem mn{α:Type}(P:adA->Prop)  f  (a:∀t x,P t->P (f t x)):∀(l:List α)  t ,P t->P (l.foldl f t)
 |[],_,h=>h
 |x::l,t,h=>mn P f a l _ (a t x h)
def zg(t:adA):Prop:=t.length=4/\∀i,0<=t.getD i 0/\t.getD i 0<=1048576
theorem EI{t:adA}{b i v}:(t.set b v).getD i 0=if i=b/\b<t.length then v else t.getD i 0:=by grind
theorem zg.to{l}(c:∀x∈l,1<=x.cG/\x.cG<=12){a b t}(h:zg t):zg (mh l a b t):=by
 unfold mh;split
 . refine⟨by rw[acj];exact h.1,λi=>?_⟩
   rw[EI];split
   . have:=EH (h:=t.getD a 0) (a:=a) (b:=b) c (h.2 a).1
     split
     . exact this
     . exact h.2 b
   . exact h.2 i
 . exact h
theorem zg.from{l}(b:∀x∈l,1<=x.cG/\x.cG<=12){n a t}(h:zg t):zg (tJ l n a t):=mn zg _ (λ_ _ h=>h.to b) _ _ h
theorem zg.pass{l:List Way}(a:∀x∈l,1<=x.cG/\x.cG<=12){n:Nat}{t:adA}(h:zg t):zg (pass l n t):=mn zg _ (λ_ _ h=>h.from a) _ _ h
def ns(a t:adA):Prop:=a.length=t.length/\∀i,a.getD i 0<=t.getD i 0
theorem ns.trans{a b c}(h:ns a b)(d:ns b c):ns a c:=⟨h.1.trans d.1,λi=>Int.le_trans (h.2 i) (d.2 i)⟩
theorem Kf  l   a b   t :ns (mh l a b t) t:=by
 unfold mh;split
 . refine⟨acj,λi=>?_⟩
   grind
 . exact⟨rfl,λi=>acL _⟩
theorem EJ  l   n a   t :ns (tJ l n a t) t:=mn (ns · t) _ (λu b h=>(Kf l a b u).trans h) _ _ ⟨rfl,λi=>acL _⟩
theorem qx  l   n   t :ns (pass l n t) t:=mn (ns · t) _ (λu a h=>(EJ l n a u).trans h) _ _ ⟨rfl,λi=>acL _⟩
theorem Cm{a t}(h:ns a t)(d:zg a)(c:zg t)(e:a≠t):qw a<qw t:=by
 obtain⟨f,b⟩:=d;obtain⟨g,q⟩:=c
 match a,t,f,g with
 | [r,s,u,v],[w,x,y,z],_,_=>
   have i:=h.2 0;have j:=h.2 1;have k:=h.2 2;have l:=h.2 3;have m:=b 0;have n:=b 1;have o:=b 2;have p:=b 3;simp at i j k l m n o p;unfold qw
   grind
theorem pe{l}(a:∀x∈l,1<=x.cG/\x.cG<=12){n}:∀  k   t ,zg t->qw t<k->iw l n k t=iw l n (qw t+1) t
 |0,t,_,h=>by omega
 | k+1,t,b,h=>by
   show(if pass l n t=t then t else iw l n k (pass l n t))=if pass l n t=t then t else iw l n (qw t) (pass l n t);split
   . rfl
   . next c=>have d:=Cm (qx l n t) (b.pass a) b c;rw[pe a k _ (b.pass a) (by omega),pe a (qw t) _ (b.pass a) d]
 termination_by k=>k
theorem EK{l}(a:∀x∈l,1<=x.cG/\x.cG<=12){n t}(b:zg t):iw l n (qw t+1) t=if pass l n t=t then t else iw l n (qw (pass l n t)+1) (pass l n t):=by
 show(if pass l n t=t then t else iw l n (qw t) (pass l n t))=_;split
 . rfl
 . next c=>exact pe a _ _ (b.pass a) (Cm (qx l n t) (b.pass a) b c)
theorem AS{town hour}(a:0<=hour/\hour<=72):zg (begun town hour):=by
 refine⟨by simp[begun],λi=>?_⟩;unfold begun;rw[EI];split
 . omega
 . match i with
   |0=>simp
   |1=>simp
   |2=>simp
   |3=>simp
   |i+4=>simp
theorem vA{l}(a:∀x∈l,1<=x.cG/\x.cG<=12){n}:∀  k   t ,zg t->zg (iw l n k t)
 |0,_,h=>h
 | k+1,t,h=>by
   unfold iw;split
   . exact h
   . exact vA a k _ (h.pass a)
theorem Cn{l}(e:∀x∈l,1<=x.cG/\x.cG<=12){n town hour}(f:0<=hour/\hour<=72):∃a b c d,qY l n town hour=[a,b,c,d]:=by
 have:=(vA e (n:=n) (qw (begun town hour)+1) _ (AS (town:=town) f)).1;unfold qY
 match iw l n (qw (begun town hour)+1) (begun town hour),this with
 |[a,b,c,d],_=>simp_all
theorem V5:Rg prog 167 3:=⟨by kernel_rfl,by kernel_rfl,by kernel_rfl⟩
theorem GG{fb mb w U V W hole town hour}(hh:∀i∈hole,9<=i)(hl:w.ways.length<1152921504606846976)(hw:∀x∈w.ways,tH w.bf x)(hn:1<=w.bf/\w.bf<=4)(ht:0<=town/\town<w.bf)(h0:0<=hour/\hour<=72)
 (hK:∀σ',σ.Le σ'->KF (.val (.agg ((qY w.ways w.bf.toNat town hour).map int))) σ'):az prog m 92 [Qt fb mb w U V W hole 0,int town,int hour] σ KF:=by
 have n6:6∉hole:=λq=>by grind
 refine az.start lay [6,7,9] XI 3 Tryz.func92 rfl rfl (by rfl) (by kernel_rfl) ?_
 simp[Tryz.f92];refine bS.intro λr hr=>?_
 simp;refine bS.intro λd hd=>?_
 obtain⟨n1,n2,hd⟩:=ab.aQ hd;simp;have b4:town<4:=by omega
 have b5:town.toNat<4:=by omega
 have b6:town<=3:=by omega
 refine aa.uF ?_;refine aa.run lay [6,7,9] ?_;simp;refine aa.again (by kernel_rfl) ?_
 refine aa.run lay [6,7,9] ?_;simp;refine aa.again (by kernel_rfl) ?_
 refine aa.run lay [6,7,9] ?_;simp;refine aa.again (by kernel_rfl) ?_
 refine aa.run lay [6,7,9] ?_;simp;refine aa.again (by kernel_rfl) ?_
 refine aa.runN lay [6,7,9] 16 ?_;simp[ht.1,b4,b5,b6]
 change aa _ _ _ _ _ _ _ _ _
 obtain⟨X,J⟩:∃T,T=begun town hour:=⟨_,rfl⟩;have hc:([int 1048576,int 1048576,int 1048576,int 1048576]:adF).set town.toNat (int hour)=X.map int:=by rw[J];simp[begun,acF]
 rw[hc];have a7:zg X:=J ▸ AS h0;have N:∀x∈w.ways,1<=x.cG/\x.cG<=12:=λx hx=>(hw x hx).2.2.1
 refine aa.lower (λa s=>∃env t,s=⟨env,(σ.set r (.cells [int 0,int 0,int 0,int 0])).set d (.cells (t.map int)),[],.no⟩/\env 0=Qt fb mb w U V W hole 0/\env 6=.ref r 0/\env 7=.ref d 0/\zg t/\qw t=a/\iw w.ways w.bf.toNat (qw t+1) t=qY w.ways w.bf.toNat town hour) (qw X) ⟨_,X,rfl,by simp,by simp,by simp,a7,rfl,by rw[J];rfl⟩ ?_
 rintro a _ ⟨env,t,rfl,E,F,g,Y,rfl,I⟩ ih
 obtain⟨h,l,p,y,rfl⟩:∃h l p y,t=[h,l,p,y]:=by
  match t,Y.1 with
  |[h,l,p,y],_=>grind
 refine aa.runN lay [6,7,9] 5 ?_;simp[g];refine bS.intro λo Z=>?_
 obtain⟨m1,m2,Z⟩:=ab.aQ Z;obtain⟨m3,m4,Z⟩:=ab.aQ Z;simp
 change aa _ _ _ _ _ _ _ _ _
 refine aa.bd 9 (b:=o) (.agg [int h,int l,int p,int y]) (ab.ai _ _ _) (by simp) rfl ?_
 rw[eE (by omega)]
 refine aa.run lay [6,7,9] ?_;simp[E,n6];refine aa.loop w.bf.toNat (λk s=>∃env u,s=⟨env,(σ.set r (.cells [int 0,int 0,int 0,int 0])).set d (.cells (u.map int)),[],.no⟩/\env 0=Qt fb mb w U V W hole 0/\env 6=.ref r 0/\env 7=.ref d 0/\env 9=.cp (.agg [int h,int l,int p,int y]) 0/\env 26=int w.bf/\env 27=int k/\zg u/\u=(List.range k).foldl (λt a=>tJ w.ways w.bf.toNat a t) [h,l,p,y]) ⟨_,[h,l,p,y],rfl,by simp[E],by simp[F],by simp[g],by simp,by simp,by simp,Y,rfl⟩ ?_
 rintro cc k _ hk ⟨env,u,rfl,E,F,g,M,z,f,hU,hu⟩ a8
 refine aa.runN lay [6,7] 17 ?_;simp[z,f];apply aG.intro<;>intro g1<;>simp at g1<;>simp[E,g,M,f,g1]
 . change aa _ _ _ _ _ _ _ _ _
   refine aa.run lay [6,7,9] ?_;simp[n6];refine aa.loop w.bf.toNat (λj s=>∃env v,s=⟨env,(σ.set r (.cells [int 0,int 0,int 0,int 0])).set d (.cells (v.map int)),[],.no⟩/\env 0=Qt fb mb w U V W hole 0/\env 6=.ref r 0/\env 7=.ref d 0/\env 9=.cp (.agg [int h,int l,int p,int y]) 0/\env 10=int k/\env 26=int w.bf/\env 27=int k/\env 34=int w.bf/\env 35=int j/\zg v/\v=(List.range j).foldl (λt b=>mh w.ways k b t) u) ⟨_,u,rfl,by simp[E],by simp[F],by simp[g],by simp[M],by simp,by simp[z],by simp[f],by simp,by simp,hU,rfl⟩ ?_
   rintro cc j _ hj ⟨env,v,rfl,E,F,g,M,cX,z,f,K,G,H,hv⟩ O
   refine aa.runN lay [6,7] 17 ?_;simp[K,G];apply aG.intro<;>intro g2<;>simp at g2<;>simp[cX,f,G,g2]
   . have k4:k<4:=by omega
     have j4:j<4:=by omega
     have k5:k<v.length:=by rw[H.1];exact k4
     have j5:j<v.length:=by rw[H.1];exact j4
     have L:v.getD k 0=v[k]:=by simp[k5]
     have a9:v.getD j 0=v[j]:=by simp[j5]
     have i4:(k:Int)<4:=by omega
     have l4:(j:Int)<4:=by omega
     have j3:j<=3:=by omega
     refine aa.runN lay [6,7] 5 ?_;simp[g,H.1,k4,i4];apply aG.intro<;>intro g3<;>simp at g3<;>(try simp[g3])
     . change aa _ _ _ _ _ _ _ _ _
       refine aa.run lay [6,7] ?_;simp[E,g,cX,H.1,k4,j4,i4,l4];have P:=H.2 k;rw[L]at P;have Q:(v.map int).set j (int (if nT w.ways v[k] k j<v[j]then nT w.ways v[k] k j else v[j]))=(mh w.ways k j v).map int:=by rw[mh,L,a9,aaK g3,acF]
       refine⟨?_,?_,?_⟩
       all_goals
        refine cf Tryz.func77 rfl (Oc hh hl hw P ?_);refine aN.go lay [6,7] ?_;simp[H.1,j4,j3];rw[Q];refine aa.run lay [6,7] ?_;simp[G];refine⟨by omega,O _ (by omega) ⟨_,mh w.ways k j v,rfl,?_,?_,?_,?_,?_,?_,?_,?_,?_,H.to N,?_⟩⟩
        rotate_right
        . rw[aaZ,abo,<-hv];rfl
        all_goals simp[E,F,g,M,cX,z,f,K]
     . change aa _ _ _ _ _ _ _ _ _
       refine aa.run lay [6,7] ?_;simp[G];refine⟨by omega,O _ (by omega) ⟨_,v,rfl,?_,?_,?_,?_,?_,?_,?_,?_,?_,H,?_⟩⟩
       rotate_right
       . rw[aaZ,abo,<-hv]
         show v=mh w.ways k j v;rw[mh,L,aaJ (by omega)]
       all_goals simp[E,F,g,M,cX,z,f,K]
   . have ej:j=w.bf.toNat:=by omega
     subst ej;refine⟨by omega,a8 _ (by omega) ⟨_,v,rfl,?_,?_,?_,?_,?_,?_,H,?_⟩⟩
     rotate_right
     . rw[aaZ,abo,<-hu]
       exact hv
     all_goals simp[E,F,g,M,z]
 . have ek:k=w.bf.toNat:=by omega
   subst ek
   obtain⟨A,B,C,D,rfl⟩:∃A B C D,u=[A,B,C,D]:=by
    match u,hU.1 with
    |[A,B,C,D],_=>exact⟨A,B,C,D,rfl⟩
   have R:=EK N (n:=w.bf.toNat) Y;rw[show pass w.ways w.bf.toNat [h,l,p,y]=[A,B,C,D]from hu.symm]at R
   refine⟨by simp,?_⟩
   refine F8 lay V5 rH rfl rfl (a:=A) (b:=B) (c:=C) (d:=D) (a':=h) (b':=l) (c':=p) (d':=y) rfl (by simp) (by simp) ?_
   cases e:(A==h && (B==l && (C==p && D==y)))
   . have S:¬([A,B,C,D]=[h,l,p,y]):=λq=>by simp at q;simp[q]at e
     rw[aaJ S,I]at R;refine aa.runN lay [6,7] 2 ?_;simp
     change aa _ _ _ _ _ _ _ _ _
     refine aa.goto rfl (by kernel_rfl) ?_
     refine aa.runN lay [6,7,9] 2 ?_;simp;refine ih (qw [A,B,C,D]) _ (Cm (hu.symm ▸ qx w.ways w.bf.toNat [h,l,p,y]) hU Y S) ⟨_,[A,B,C,D],rfl,?_,?_,?_,hU,rfl,R.symm⟩<;>simp[E,F,g]
   . simp at e
     obtain⟨rfl,rfl,rfl,rfl⟩:=e;rw[aaK rfl,I]at R;refine aa.run lay [6,7,9] ?_;simp[F,g,n2,ab.ah];refine .done ?_;have:=hK _ (ab.fE (b:=r) (x:=.cells [int A,int B,int C,int D]) (ab.fE (b:=d) (x:=.cells [int A,int B,int C,int D]) (ab.fE (b:=r) (x:=.cells [int 0,int 0,int 0,int 0]) (ab.le_refl σ) hr) hd) hr);rw[R]at this;exact this
theorem eu{a lo hi}(h:KF (.val (bool (br a lo hi))) σ):az prog m 71 [int a,int lo,int hi] σ KF:=by
 refine fs [] Tryz.func71 rfl (by kernel_rfl) ?_;simp[Tryz.f71];unfold br at h;by_cases g:lo<=a
 . simp[g]
   refine .done ?_
   simp_all
 . simp[g]
   refine .done ?_
   simp_all
theorem kF{x}(h:KF (.val (ints (aB x))) σ):az prog m 60 [u8 x] σ KF:=by
 refine fs [] Tryz.func60 rfl (by kernel_rfl) ?_;simp[Tryz.f60];refine aa.loop 6 (λk s=>∃env b,s=⟨env,b,[],.no⟩/\env 0=u8 x/\env 5=int k/\Tok σ b (env 3) 1 ((((List.range k).map λn:Nat=>(n:Int)).filter λn=>fW x n).map int)) ⟨_,_,rfl,by simp,by simp,.nil σ 1⟩ ?_;rintro l k _ o ⟨env,b,rfl,d,c,a⟩ f;rcases aaX k 6 with g1|g1
 . have e:(k:Int)<6:=by omega
   have p:(((List.range k).map λn:Nat=>(n:Int)).filter λn=>fW x n).length<=k:=by grind
   have q:(((List.range (k+1)).map λn:Nat=>(n:Int)).filter λn=>fW x n)=(((List.range k).map λn:Nat=>(n:Int)).filter λn=>fW x n)++if fW x k then[(k:Int)]else[]:=by
    rw[aaZ,aaY,abz]
    grind
   apply rn;simp[d,c,e,uG];have g:fW x k=(Eh (x.fdiv (2 ^ min k IntKind.u8.bits)) 1==1):=by simp[fW]
   rw[<-g];cases hb:fW x k
   . simp[c]
     refine⟨by omega,f _ g1 ⟨_,_,rfl,by simp[d],by simp,?_⟩⟩
     simp_all
   . simp
     refine aP lay rfl rfl rfl dD rfl dD rfl rH (by decide) (by grind) (σ0:=σ) (es:=(((List.range k).map λn:Nat=>(n:Int)).filter λn=>fW x n).map int) (xs:=[int k]) (by simp_all) (.inr ⟨_,rfl⟩) λr i j=>?_
     apply rn;simp[c];refine⟨by omega,f _ g1 ⟨_,_,rfl,by simp[d],by simp,?_⟩⟩
     simp_all
 . have:k=6:=by omega
   subst this;apply rn;simp[c];exact .om a.W (.less a.1 (.done h))
abbrev nz(n:Nat):adA:=(List.range n).map λn:Nat=>(n:Int)
theorem uO{n}(j:n<=1000)(h:KF (.val (ints (nz n))) σ):az prog m 49 [int n] σ KF:=by
 refine fs [] Tryz.func49 rfl (by kernel_rfl) ?_;simp[Tryz.f49];refine aa.loop n (λk s=>∃env b,s=⟨env,b,[],.no⟩/\env 5=int n/\env 6=int k/\Tok σ b (env 3) 1 ((nz k).map int)) ⟨_,_,rfl,by simp,by simp,.nil σ 1⟩ ?_;rintro l k _ o ⟨env,b,rfl,c,d,a⟩ g;rcases aaX k n with g1|g1
 . have e:(k:Int)<n:=by omega
   have f1:-9223372036854775808<=(k:Int)+1/\(k:Int)+1<=9223372036854775807:=by omega
   apply rn;simp[c,d,e];refine aP lay rfl rfl rfl dD rfl dD rfl rH (by decide) (by grind) (σ0:=σ) (es:=(nz k).map int) (xs:=[int k]) (by simp_all) (.inr ⟨_,rfl⟩) λp i f=>?_
   apply rn;simp[d];refine⟨by omega,g _ g1 ⟨_,_,rfl,by simp[c],by simp,?_⟩⟩;rw[show nz (k+1)=nz k++[(k:Int)]by unfold nz;rw[aaZ,aaY];rfl,aaY];exact f
 . have:k=n:=by omega
   subst this;apply rn;simp[c,d];exact .om a.W (.less a.1 (.done h))
theorem Od(h:KF (.val (.agg [u8 1,u8 2,u8 4])) σ):az prog m 101 [] σ KF:=by
 refine az.F5 lay [] [] 3 0 Tryz.func101 rfl rfl (by rfl) (by kernel_rfl) ?_;simp[Tryz.f101];refine bS.intro λc a=>?_
 simp;change aa _ _ _ _ _ _ _ _ _;refine aa.runN lay [] 3 ?_;simp;change aa _ _ _ _ _ _ _ _ _;refine aa.op rfl (cj rfl) (by simp) (λc=>by simp) (qd lay rfl Vu rfl ME (l:=[u8 1,u8 2,u8 4]) (by simp) rfl ?_);apply rn;simp;refine .less ?_ (.done h);exact ab.fE (ab.le_refl _) a
theorem GH{n}{t:Nat}(a:t=if n=1 then 125 else if n=3 then 284 else 195)(h:KF (.val (.mr t (.agg []))) σ):az prog m 149 [int n] σ KF:=by
 subst a;refine fs [] Tryz.func149 rfl (by kernel_rfl) ?_;simp[Tryz.f149];by_cases g:n=1
 . subst g
   simp;exact .done h
 . by_cases b:n=3
   . subst b
     simp;exact .done h
   . have c:(n==1)=false:=by grind
     have d:(n==3)=false:=by simp_all
     simp[c,d];refine .done ?_
     simp_all
abbrev yE(l:List O4):List wu:=l.map (·.lost)
theorem Oe{l}(p:l.length<=1000)(h:KF (.val (jF (yE l))) σ):az prog m 76 [kW l] σ KF:=by
 refine fs [] Tryz.func76 rfl (by kernel_rfl) ?_;simp[Tryz.f76];refine aa.loop l.length (λk s=>∃env c,s=⟨env,c,[],.no⟩/\env 6=kW l/\env 7=int l.length/\env 8=int k/\Tok σ c (env 3) 6 ((yE (l.take k)).map bc)) ⟨_,_,rfl,by simp,by simp,by simp,.nil σ 6⟩ ?_;rintro q k _ r ⟨env,c,rfl,j,e,f,a⟩ n;rcases aaX k l.length with g1|g1
 . have g:(k:Int)<l.length:=by omega
   refine aa.runN lay [] 17 ?_;simp[j,e,f,g1,g];refine bS.intro λd hd=>?_
   simp;change aa _ _ _ _ _ _ _ _ _;refine aa.runN lay [] 1 ?_;simp;change aa _ _ _ _ _ _ _ _ _;refine aa.bd 5 (b:=d) (iv l[k]) (ab.ai _ _ _) (by simp) rfl ?_;rw[eE hd];apply rn;simp;refine aP lay rfl rfl rfl nk rfl nk rfl zE (by decide) (by grind) (σ0:=σ) (es:=(yE (l.take k)).map bc) (xs:=[bc l[k].lost]) (by simp_all) (.inr ⟨_,rfl⟩) λt o i=>?_
   apply rn;simp[f];refine⟨by omega,n _ g1 ⟨_,_,rfl,by simp[j],by simp[e],by simp,?_⟩⟩;rw[show(yE (l.take (k+1))).map bc=(yE (l.take k)).map bc++[bc l[k].lost]by unfold yE;rw[zG g1,aaY,aaY];rfl];exact i
 . have:k=l.length:=by omega
   subst this;apply rn;simp[e,f];rw[aaQ]at a;exact .om a.W (.less a.1 (.done h))
theorem zK{l}(f:l.length<=1000)(h:∀a σ',Tok σ σ' a 6 (l.map bc)->KF (.val a) σ'):az prog m 115 [jF l] σ KF:=by
 refine fs [] Tryz.func115 rfl (by kernel_rfl) ?_;simp[Tryz.f115];refine Bz (es:=l.map bc) (sp:=.any) (kk:=6) lay rfl nk rfl rfl (by simp) (.inl rfl) (λb=>?_) ?_
 . have:l=[]:=by simp_all
   subst this;have c:(BinOp.eql==BinOp.eql)=true:=rfl;apply rn;simp;exact .done (h _ _ (.nil σ 6))
 . have c:(BinOp.eql==BinOp.neq)=false:=rfl
   apply rn;simp[c];refine aP lay rfl rfl rfl nk rfl nk rfl zE (by decide) (by grind) (σ0:=σ) (es:=[]) (xs:=l.map bc) ⟨ab.le_refl _,.inr (.inl (by simp))⟩ (.inr ⟨_,rfl⟩) λg d e=>?_
   apply rn;simp;exact .done (h _ _ (by simp_all))
theorem EL{f l}(u:f.aA.length+l.length<=1000)(h:KF (.val (bI {f with aA:=f.aA++l})) σ):az prog m 75 [bI f,jF l] σ KF:=by
 refine az.start lay [2] [] 2 Tryz.func75 rfl rfl (by rfl) (by kernel_rfl) ?_;simp[Tryz.f75];refine bS.intro λb hb=>?_
 simp;refine bS.intro λd hd=>?_
 obtain⟨o,j,hd⟩:=ab.aQ hd;simp[j,ab.ah];refine cf Tryz.func115 rfl (zK (by omega) λa p q=>?_);refine aa.run lay [2] ?_;simp;refine aP lay rfl rfl rfl nk rfl nk rfl zE (by decide) (by grind) (es:=f.aA.map bc) (xs:=l.map bc) q (.inr ⟨_,rfl⟩) λa' i g=>?_
 rw[<-List.map_append]at g;generalize f.aA++l=L at h g;refine aa.KM 9 (a':=jF L) (by simpa using g.W) ?_;have r:i b=some (.cells (HZ f)):=g.1 _ _ (by simp[j,ab.ah]);have s:i d=some (.cells [.lit (.slice none 0 0),.lit (.slice none 0 0),int 0,int 0,int 0,int 0]):=g.1 _ _ (by simp);refine aa.run lay [2] ?_;simp[r,s,o,ab.ah];refine .less (λc x t=>?_) (.done h);have k:c≠b:=λe=>by simp_all
 have n:c≠d:=λe=>by simp_all
 rw[ab.ah _ _ n,ab.ah _ _ k];exact g.1 _ _ (by rw[ab.ah _ _ n,ab.ah _ _ k];exact t)
theorem yF(h:KF (.val (int 0)) σ):az prog m 69 [.lit .nilIface] σ KF:=by
 refine fs [] Tryz.func69 rfl (by kernel_rfl) ?_;simp[Tryz.f69];refine bS.intro λb hb=>?_
 simp;refine cf Tryz.func111 rfl (VV ?_);apply rn;simp;exact .less (by repeat (first|exact ab.le_refl _|assumption|refine ab.fE ?_ (by assumption)|refine ab.lO ?_ (by assumption))) (.done h)
theorem rL{f}(a:f.Fits)(b:check f=0)(h:KF (.val (.lit .nilIface)) σ):az prog m 70 [bI f] σ KF:=by
 refine fs [] Tryz.func70 rfl (by kernel_rfl) ?_;simp[Tryz.f70];refine cf Tryz.func112 rfl (Ej a ?_);apply rn;simp[b];exact .done h
def qy(t:Int)(x:Way):Int:=if br x.a 0 (t-1)=false then 3 else if br x.b 0 (t-1)=false then 3 else if x.a=x.b then 8 else if br x.cG 1 12=false then 1 else if br x.aT 0 72=false then 1 else if br x.eL 0 72=false then 1 else if x.aT>x.eL then 5 else 0
theorem Co{x t}(i:0<=t/\t<=100)(h:KF (.val (int (qy t x))) σ):az prog m 72 [jN x,int t] σ KF:=by
 unfold qy at h;refine fs [] Tryz.func72 rfl (by kernel_rfl) ?_;simp[Tryz.f72];refine⟨by omega,?_⟩;refine cf Tryz.func71 rfl (eu ?_);apply rn;simp;refine sm.intro (λa=>?_) (λa=>?_)<;>(try simp at a)<;>(try simp[a]at h)<;>(try simp[a])<;>(try exact .done h);refine⟨by omega,?_⟩;refine cf Tryz.func71 rfl (eu ?_);apply rn;simp;refine aG.intro (λb=>?_) (λb=>?_)<;>(try simp at b)<;>(try simp[b]at h)<;>(try simp[b])<;>(try exact .done h);refine aG.intro (λc=>?_) (λc=>?_)<;>(try simp at c)<;>(try simp[c]at h)<;>(try simp[c])<;>(try exact .done h);refine cf Tryz.func71 rfl (eu ?_);apply rn;simp;refine sm.intro (λd=>?_) (λd=>?_)<;>(try simp at d)<;>(try simp[d]at h)<;>(try simp[d])<;>(try exact .done h)
 refine cf Tryz.func71 rfl (eu ?_);apply rn;simp;refine sm.intro (λe=>?_) (λe=>?_)<;>(try simp at e)<;>(try simp[e]at h)<;>(try simp[e])<;>(try exact .done h);refine cf Tryz.func71 rfl (eu ?_);apply rn;simp;refine aG.intro (λf=>?_) (λf=>?_)<;>(try simp at f)<;>(try simp[f]at h)<;>(try simp[f])<;>(try exact .done h);refine aG.intro (λg=>?_) (λg=>?_)<;>(try simp[-Int.not_lt,-Int.not_le]at g)<;>(try simp[g]at h)<;>(try simp[g])<;>(try exact .done h)
def fX{α:Type}(g:α->Int):List α->Int
 |[]=>0
 |x::l=>if g x=0 then fX g l else g x
theorem AT{α}  g  (l:List α)  i   h :fX g (l.drop i)=if g l[i]=0 then fX g (l.drop (i+1))else g l[i]:=by rw[abu h,fX]
abbrev lone(f:Fr)(e:wu):Fr:={f with aA:=[e]}
abbrev ji(w:gO):Fr:={w.fair with aA:=w.fair.aA++yE w.aD}
def zL(w:gO)(c:O4):Int:=if br c.town 0 (w.bf-1)=false then 3 else if br c.hour 0 72=false then 1 else if c.hour<c.lost.hour then 5 else 0
def nu(w:gO):Int:=if br w.bf 1 4=false then 1 else if(6:Int)<w.ways.length then 6 else if fX (qy w.bf) w.ways≠0 then fX (qy w.bf) w.ways else if(3:Int)<w.aD.length then 6 else if fX (zL w) w.aD≠0 then fX (zL w) w.aD
 else if(6:Int)<(w.fair.aA.length:Int)+w.aD.length then 6 else if iu (ji w)=0 then 9 else 0
structure gO.qz(w:gO):Prop where
 fits:w.fair.Fits
 Fb:check w.fair=0
 V6:∀c∈w.aD,(lone w.fair c.lost).Fits/\check (lone w.fair c.lost)=0
 ways:w.ways.length<1152921504606846976
 aD:w.aD.length<1152921504606846976
theorem SG{es sp l}:(AV.agg (.sl 6 es sp::l)).W (.agg (.sl 6 es .any::l)):=qm rfl λi x y b a=>by
 cases i with
 |zero=>simp at b a;subst b;subst a;exact fL _ _ _
 |succ i=>simp at b a;rw[b]at a;cases a;exact .refl _
theorem Cp{w c}(j:0<=w.bf/\w.bf<=100)(f:(lone w.fair c.lost).Fits)(g:check (lone w.fair c.lost)=0)(h:KF (.val (int (zL w c))) σ):az prog m 73 [dP w,iv c] σ KF:=by
 unfold zL at h;have i:Wl [AV.agg [.sl 6 [bc c.lost] .exact,rows w.fair.roads,int w.fair.aT,int w.fair.eL,int w.fair.cB,int w.fair.aY]] [bI (lone w.fair c.lost)]:=.cons SG .nil;refine az.thaw ?_;refine fs [] Tryz.func73 rfl (by kernel_rfl) ?_;simp[Tryz.f73];refine bS.intro λb hb=>?_
 simp;refine bK Tryz.func70 rfl rfl i (rL f g ?_);apply rn;simp;refine cf Tryz.func69 rfl (yF ?_);apply rn;simp
 replace h:=nE.less (ab.fE (b:=b) (x:=.cells [.sl 6 [bc c.lost] .exact,rows w.fair.roads,int w.fair.aT,int w.fair.eL,int w.fair.cB,int w.fair.aY]) (ab.le_refl _) hb) (.done h)
 refine⟨by omega,?_⟩;refine cf Tryz.func71 rfl (eu ?_);apply rn;simp;refine aG.intro (λa=>?_) (λa=>?_)<;>(try simp at a)<;>(try simp[a]at h)<;>(try simp[a])<;>(try exact .done h);refine cf Tryz.func71 rfl (eu ?_);apply rn;simp;refine aG.intro (λd=>?_) (λd=>?_)<;>(try simp at d)<;>(try simp[d]at h)<;>(try simp[d])<;>(try exact .done h);refine aG.intro (λe=>?_) (λe=>?_)<;>(try simp[-Int.not_lt,-Int.not_le]at e)<;>(try simp[e]at h)<;>(try simp[e])<;>(try exact .done h)
theorem mq{w}(b:w.qz)(f:w.fair.aA.length+w.aD.length<=6):(ji w).Good:=by
 have a:=Fr.qh b.fits b.Fb;refine⟨⟨?_,a.fits.roads,a.fits.row,λe he=>?_⟩,a.fr,a.to,a.le,a.cB,a.aY,?_,λe he=>?_,a.KN⟩
 . grind
 . rcases aaN.1 he with he|he
   . exact a.fits.marks e he
   . obtain⟨c,d,rfl⟩:=aaU.1 he
     exact(b.V6 c d).1.marks _ (lb.2 rfl)
 . simp_all
 . rcases aaN.1 he with he|he
   . exact a.qV e he
   . obtain⟨c,d,rfl⟩:=aaU.1 he
     exact(Fr.qh (b.V6 c d).1 (b.V6 c d).2).qV _ (lb.2 rfl)
theorem GJ{w}(D:m.solo=true)(e:w.qz)(h:KF (.val (int (nu w))) σ):az prog m 33 [dP w] σ KF:=by
 have E:=e.ways;have F:=e.aD;unfold nu at h;refine fs XC Tryz.func33 rfl (by kernel_rfl) ?_;simp[Tryz.f33];refine cf Tryz.func70 rfl (rL e.fits e.Fb ?_);apply rn;simp;refine cf Tryz.func69 rfl (yF ?_);apply rn;simp;refine cf Tryz.func71 rfl (eu ?_);apply rn;simp;refine aG.intro (λj=>?_) (λj=>?_)<;>(try simp at j)<;>(try simp[j]at h)<;>(try simp[j])<;>(try exact .done h);have I:=dA j;refine aG.intro (λv=>?_) (λv=>?_)<;>(try simp[-Int.not_lt,-Int.not_le]at v)<;>(try simp[v]at h)<;>(try simp[v])<;>(try exact .done h);refine aa.loop w.ways.length (λk s=>∃env,s=⟨env,σ,[],.no⟩/\env 1=.cp (dP w) 0/\env 28=uN w.ways/\env 29=int w.ways.length/\env 30=int k/\fX (qy w.bf) w.ways=fX (qy w.bf) (w.ways.drop k)) ⟨_,rfl,by simp⟩ ?_;rintro G k _ H ⟨env,rfl,c,l,o,g,a⟩ B;refine aa.runN lay [] 17 ?_;simp[o,g];apply aG.intro<;>intro C<;>simp at C<;>simp[c,l,g,C]
 . rw[AT _ _ k C]at a
   refine bS.intro λd hd=>?_
   simp;change aa _ _ _ _ _ _ _ _ _;refine aa.runN lay [] 1 ?_;simp;change aa _ _ _ _ _ _ _ _ _;refine aa.bd 5 (b:=d) (jN w.ways[k]) (ab.ai _ _ _) (by simp) rfl ?_;rw[eE hd];apply rn;simp[c];refine cf Tryz.func72 rfl (Co (by omega) ?_);apply rn;simp;apply aG.intro<;>intro p<;>simp at p<;>simp[g,p]
   . rw[aaJ p]at a
     simp[a,p]at h;exact .done h
   . rw[aaK p]at a
     refine⟨by omega,B _ (by omega) ⟨_,rfl,?_,?_,?_,?_,a⟩⟩<;>simp[c,l,o]
 . have ek:k=w.ways.length:=by omega
   subst ek;rw[acy]at a;rw[show fX (qy w.bf) []=0 from rfl]at a;simp[a]at h;refine aG.intro (λx=>?_) (λx=>?_)<;>(try simp[-Int.not_lt,-Int.not_le]at x)<;>(try simp[x]at h)<;>(try simp[x])<;>(try exact .done h)
   . apply rn
     simp;exact .done h
   apply rn;simp[c];refine aa.loop w.aD.length (λk s=>∃env,s=⟨env,σ,[],.no⟩/\env 1=.cp (dP w) 0/\env 47=kW w.aD/\env 48=int w.aD.length/\env 49=int k/\fX (zL w) w.aD=fX (zL w) (w.aD.drop k)) ⟨_,rfl,by simp[c]⟩ ?_;rintro G k _ H ⟨env,rfl,c,q,r,i,a⟩ B;refine aa.runN lay [] 17 ?_;simp[r,i];apply aG.intro<;>intro t<;>simp at t<;>simp[c,q,i,t]
   . rw[AT _ _ k t]at a
     refine bS.intro λd hd=>?_
     simp;change aa _ _ _ _ _ _ _ _ _;refine aa.runN lay [] 1 ?_;simp;change aa _ _ _ _ _ _ _ _ _;refine aa.bd 8 (b:=d) (iv w.aD[k]) (ab.ai _ _ _) (by simp) rfl ?_;rw[eE hd];apply rn;simp[c];refine cf Tryz.func73 rfl (Cp (by omega) (e.V6 _ (zs t)).1 (e.V6 _ (zs t)).2 ?_);apply rn;simp;apply aG.intro<;>intro u<;>simp at u<;>simp[i,u]
     . rw[aaJ u]at a
       simp[a,u]at h;exact .done h
     . rw[aaK u]at a
       refine⟨by omega,B _ (by omega) ⟨_,rfl,?_,?_,?_,?_,a⟩⟩<;>simp[c,q,r]
   . have ek:k=w.aD.length:=by omega
     subst ek;rw[acy]at a;rw[show fX (zL w) []=0 from rfl]at a;simp[a]at h;have J:=(Fr.qh e.fits e.Fb).pI;have f1:-9223372036854775808<=(w.fair.aA.length:Int)+w.aD.length/\(w.fair.aA.length:Int)+w.aD.length<=9223372036854775807:=by omega
     apply rn;simp[f1.1,f1.2];refine aG.intro (λy=>?_) (λy=>?_)<;>(try simp[-Int.not_lt,-Int.not_le]at y)<;>(try simp[y]at h)<;>(try simp[c,y])<;>(try exact .done h);have z:=mq e (by omega);refine cf Tryz.func76 rfl (Oe (by omega) ?_);apply pg;simp;refine cf Tryz.func75 rfl (EL (by grind) ?_);apply pg;simp;refine cf Tryz.func74 rfl (NW (f:=ji w) D z.fits z.Fb ⟨Nat.lt_of_le_of_lt (Cl z _) (by decide),Nat.lt_of_le_of_lt (Cl z _) (by decide)⟩ ?_);apply pg;simp;obtain⟨n,a⟩:∃n,n=iu (ji w):=⟨_,rfl⟩;rw[<-a]at h;change aa _ _ _ _ _ _ _ _ _;simp only[<-a];apply rn;simp;refine aG.intro (λA=>?_) (λA=>?_)<;>(try simp at A)<;>(try simp[A]at h)<;>(try simp[A])<;>(try exact .done h)
end
open Go.cz Go.Conc
theorem yG{m fb mb A j w c o p q hole}(B:∀i∈hole,9<=i)(C:A.fb=fb/\A.mb=mb/\A.fo=9/\A.nm=nn/\A.ng=ng/\A.dir=true)(hj:j<3)(r:∀x,A.GI x↔x=.map [])(D:w.ways.length<1152921504606846976)(s:∀x∈w.ways,tH w.bf x)(E:1<=w.bf/\w.bf<=4)(F:0<=c.town/\c.town<w.bf)(t:0<=c.hour/\c.hour<=72)
 (G:A.val j=.int .i64 ((qY w.ways w.bf.toNat c.town c.hour).getD 0 0)){body}(hb:Tryz.f90.body=some body):
 aa prog (iC prog A j) 90 25 none VA [.code body] ⟨dv [.ref A.gb 0,.cp (Qt fb mb w o p q hole 0) 0,.cp (iv c) 0,.cp (int j) 0],jP A.fb,[],.told .deferred [cM prog] m⟩ (Sk prog A j Tryz.f90):=by
 obtain⟨rfl,rfl,a,e,H,d⟩:=C;simp only[Tryz.f90,kn]at hb;subst hb;apply rn;simp;refine aa.defer rfl rfl rfl rfl (by simp) rfl ?_
 apply rn;simp;obtain⟨I,L,M,N,y⟩:=Cn (l:=w.ways) (n:=w.bf.toNat) (town:=c.town) (λx g=>(s x g).2.2.1) t
 rw[y]at G;refine cf Tryz.func92 rfl (GG B D s E F t λh k=>?_)
 have J:h A.fb=some .ig:=k _ _ (by simp[jP])
 rw[y];apply rn;simp;have cell:A.cell j=11+j:=by unfold bN.cell;rw[a]
 have z:=@F6 prog A j d;rw[a,e]at z;refine cf Tryz.func93 rfl (z (by rw[cell];simp<;>omega) J λx v g O=>?_)
 obtain rfl:=(r x).1 g;apply rn;simp;refine aa.defer rfl rfl rfl rfl (by simp) rfl ?_
 have K:(j:Int)<3:=by omega
 have P:j<=2:=by omega
 refine aa.runN lay [] 1 ?_;simp
 change aa _ _ _ _ _ _ _ _ _
 refine aa.draw lay (.take [0,1,2,3,4,5] false (.one 6 (.done))) rfl ?_;refine aN.take lay [] ?_;simp[BB,K];refine aN.one rfl (by kernel_rfl) rfl (by simp) ?_
 refine Jd lay (b:=A.fb) (off:=11+j) (u:=.int .i64 I) (v0:=v) (f:=A.own j v) rfl rH rfl ?_ (by simp) rfl (by simp) (by simp[bN.own,cell]) ?_
 . simp
   exact qU _ _ _ _
 . refine iW.done ?_
   apply rn;simp;exact⟨rfl,.inl rfl,⟨m,rfl⟩,Qt A.fb A.mb w o p q hole 9,_,.map [],by rw[a];exact qU _ _ _ _,by grind,ab.ai _ _ _,by simp_all,(ab.ah _ _ (zj A.d5)).trans (ab.ai _ _ _),(r _).2 rfl,rfl⟩
