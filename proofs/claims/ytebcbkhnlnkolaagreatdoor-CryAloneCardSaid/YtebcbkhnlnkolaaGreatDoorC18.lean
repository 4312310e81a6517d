import Derived.Test.YtebcbkhnlnkolaaGreatDoorC17
set_option linter.all false
set_option maxHeartbeats 2000000
set_option maxRecDepth 4000
namespace Go.Proofs.YtebcbkhnlnkolaaGreatDoor
open Go.Proofs.Tryz (prog)
section
open Go.bN Go.Conc
variable{m:Mo}{σ:ab}{KF:aeQ}
theorem vZ{l:aff}(h:l.Nodup){i j hi}{hj:j<l.length}(a:i≠j):l[i]≠l[j]:=by
 rw[List.Nodup,List.pairwise_iff_getElem]at h
 grind
def j9(rs:aff)(M:aeJ)(n j:Nat):afk:=(List.range rs.length).map λl=>if l<j then ints (M.getD l [])else AV.gK (rs.getD l 0) 0 n n
theorem rJ  rs   M   n j :(j9 rs M n j).length=rs.length:=by rw[j9,aac,adf]
theorem rK{rs M n j l}(a:l<rs.length):(j9 rs M n j)[l]?=some (if l<j then ints (M.getD l [])else AV.gK (rs.getD l 0) 0 n n):=by rw[j9,aaM,aef a];rfl
theorem G5{fid r ro hold K todo env D rc d n at_ rs M}{cs:afk}{spr}(σ0:ab)(k:rs.Nodup)(s:∀l,l<rs.length->(M.getD l []).length=n)(o:at_<cs.length)(hd:d∉rs)
 (w:∀σ',σ' d=some (.cells (cs.set at_ (.sl 1 (j9 rs M n rs.length) spr)))->(∀y,y≠d->y∉rs->σ' y=σ0 y)->aa prog m fid r ro hold todo ⟨env,σ',D,rc⟩ K):
 ∀  f j ,j+f=rs.length->∀σ,σ d=some (.cells (cs.set at_ (.sl 1 (j9 rs M n j) spr)))->(∀  l   h ,j<=l->σ rs[l]=some (.cells ((M.getD l []).map int)))->(∀y,y≠d->y∉rs->σ y=σ0 y)->aa prog m fid r ro hold todo ⟨env,σ,D,rc⟩ K
 | 0,j,x,σ,t,_,z=>by
   have:j=rs.length:=by omega
   simp_all
 | f + 1,j,x,σ,t,A,z=>by
   have a:j<rs.length:=by omega
   have B:=s j a;have q:d≠rs[j]:=λe=>hd (e ▸ ys a)
   have c:∀e∈j9 rs M n j,e.cells=[e]:=λe p=>by unfold j9 at p;obtain⟨l,_,rfl⟩:=aab.1 p;split<;>rfl
   have hlen:(j9 rs M n j).length=rs.length:=rJ _ _ _ _;have u:∀l,l<rs.length->(j9 rs M n j)[l]?=some (if l<j then ints (M.getD l [])else AV.gK (rs.getD l 0) 0 n n):=λl h=>rK h
   have g:(j9 rs M n j).set j (.sl 1 ((M.getD j []).map int) .any)=j9 rs M n (j+1):=by
    apply List.ext_getElem?;intro l
    by_cases h:l<rs.length
    . have G:(j9 rs M n (j+1))[l]?=some (if l<j+1 then ints (M.getD l [])else AV.gK (rs.getD l 0) 0 n n):=rK h
      grind
    rw[adl (by simp_all),adl (by rw[rJ];omega)]
   refine aa.SK (b:=rs[j]) (d:=d) (i:=j) (l:=(M.getD j []).map int) (at_:=at_) q (A j a (aav _)) (λe p=>by obtain⟨_,_,rfl⟩:=aab.1 p;rfl) t (by rw[acn o]) c (by simp_all) ?_
   rw[List.set_set,g];refine G5 σ0 k s o hd w f (j+1) (by omega) _ (ab.ai _ _ _) (λl h v=>?_) (λy C E=>?_)
   . have F:rs[l]≠d:=λe=>hd (e ▸ ys h)
     rw[ab.ah _ _ F];simp only[ab.del,vZ k (show l≠j by omega),aao]
     grind
   rw[ab.ah _ _ C];have:y≠rs[j]:=λe=>E (e ▸ ys a)
   simp only[ab.del,this,aao]
   simp_all
section
variable{c k:Nat}{nums:afe}
abbrev iw:afk:=[.lit (.slice none 0 0),.lit (.slice none 0 0),int 0,int 0,int 0,int 0]
theorem Ja{cnt}(hk:k+20+11*cnt.toNat<1000000)(hn:nums.length<1152921504606846976)(gC:0<=cnt/\cnt<=1000)(hb:bg c nums k σ)(h:∀  f   a  σ',xm cnt f->qZ c nums (k+20+11*cnt.toNat) σ σ'->(f.az=[]->a=.lit (.slice none 0 0))/\(f.az≠[]->a=kq f.az)->KF (.val (.agg [a,rows f.roads,int f.aU,int f.dD,int f.cJ,int f.aX])) σ'):aB prog m 60 [.ref c 0,int cnt] σ KF:=by
 obtain⟨n0,s0,_,fi⟩:=id hb;refine fs Z7 Tryz.func60 rfl (by kernel_rfl) ?_
 simp[Tryz.f60];refine bO.intro λA h4=>?_
 have n4:c≠A:=λe=>by simp_all
 have G:∀x,bg c nums k (σ.set A x):=λx=>⟨n0,s0,by assumption,by rw[ab.ah _ _ n4];exact fi⟩
 simp;refine cf Tryz.func13 rfl (fY (by omega) hn ⟨by omega,by omega⟩ ⟨by omega,by omega⟩ (G _) λcJ gG fj dj=>?_)
 apply rn;simp;refine cf Tryz.func63 rfl (po (l:=[1,2,2,3,3,6]) (by omega) hn (by simp) dj.1 λaX r fl bq=>?_)
 apply rn;simp;refine bO.intro λw h5=>?_
 have Z:A≠c:=zs n4;have ax:qZ c nums (k+2) (σ.set A (.cells iw)) r:=dj.trans bq;have ec:r A=some (.cells iw):=by rw[ax.2 A Z,ab.ai]
 have K:w≠c:=λe=>by subst e;obtain⟨_,_,_,q⟩:=bq.1;simp_all
 have S:w≠A:=λe=>by simp_all
 have aL:σ w=none:=by rw[ax.2 w K,ab.ah _ _ S]at h5;exact h5
 simp[aI]
 have ed:∀x,bg c nums (k+2) (r.set w x):=λx=>by obtain⟨n,z,h1,h2⟩:=bq.1;exact⟨n,z,by omega,by rw[ab.ah _ _ (zs K)];exact h2⟩
 refine cf Tryz.func13 rfl (fY (by omega) hn ⟨by omega,by omega⟩ ⟨by omega,by omega⟩ (ed _) λfq g fp dm=>?_)
 apply rn;simp;refine cf Tryz.func16 rfl (fE (by omega) hn ⟨by omega,by omega⟩ dm.1 λlo aO ft dr=>?_)
 apply rn;simp;have ay:qZ c nums (k+4) (r.set w (.cells [.lit (.slice none 0 0),.lit (.slice none 0 0),int 0,int 0,int cJ,int aX])) aO:=dm.trans dr;obtain⟨sp,rfl⟩:∃sp:Nat,fq=(sp:Int):=⟨fq.toNat,by omega⟩
 have gH:1<=sp/\sp<=3:=by omega
 have fu:0<=lo/\lo<=4:=by omega
 have ee:1<=cJ/\cJ<=4:=by omega
 have dx:aX=1\/aX=2\/aX=3\/aX=6:=by simp_all
 have eg:aO w=some (.cells [.lit (.slice none 0 0),.lit (.slice none 0 0),int 0,int 0,int cJ,int aX]):=by rw[ay.2 w K,ab.ai]
 have ei:aO A=some (.cells iw):=by rw[ay.2 A Z,ab.ah _ _ (zs S)];exact ec
 have c9:(σ.del c).Le aO:=λy x p=>by
  have y1:y≠c:=λe=>by subst e;simp[ab.del]at p
  have y0:σ y=some x:=by simpa[ab.del,y1]using p
  have y5:y≠w:=λe=>by simp_all
  have y4:y≠A:=λe=>by simp_all
  rw[ay.2 y y1,ab.ah _ _ y5,ax.2 y y1,ab.ah _ _ y4];exact y0
 have b2:=dr.1;clear dj bq dm dr ax ay G ed h5 ec fj fl fp ft
 refine aa.loop sp (λi s=>∃env σ' a rs,s=⟨env,σ',[],.no⟩/\env 0=.ref c 0/\env 1=int cnt/\env 4=.ref A 0/\env 5=.ref w 0/\env 6=int sp/\env 7=int lo/\env 8=int i/\bg c nums (k+4) σ'/\σ' A=some (.cells iw)/\σ' w=some (.cells [.lit (.slice none 0 0),a,int 0,int 0,int cJ,int aX])/\
  Tok (σ.del c) σ' a 1 (rs.map λb:Nat=>AV.gK b 0 sp sp)/\rs.length=i/\rs.Nodup/\(∀b∈rs,σ b=none/\b≠c/\b≠A/\b≠w/\σ' b=some (.cells (List.replicate sp (int 0))))) ⟨_,aO,.lit (.slice none 0 0),[],rfl,by simp,by simp,by simp,by simp,by simp,by simp,by simp,b2,ei,eg,⟨c9,.inl ⟨rfl,rfl⟩⟩,rfl,ael,by simp⟩ ?_
 rintro c0 i _ hi ⟨env,σ',a,rs,rfl,J,e1,T,D,H,e7,e8,I,q4,V,u,b3,a7,b0⟩ ih
 have L:=u.cells
 rcases aaA i sp with g1|g1
 . have fv:(i:Int)<sp:=by omega
   have f1:-9223372036854775808<=(i:Int)+1/\(i:Int)+1<=9223372036854775807:=by omega
   have dy:∀a8:ab,Tok (σ.del c) a8 a 1 (rs.map λb:Nat=>AV.gK b 0 sp sp)->∀y l,a8 y=some (.cells l)->bt a≠some y:=λa8 hx y l p e=>by obtain⟨_,_,q⟩:=hx.aV e;rw[p]at q;cases q
   have fresh:∀b,σ' b=none->σ b=none/\b≠c/\b≠A/\b≠w/\w≠b/\b∉rs:=λb U=>by
    have n1:b≠c:=λe=>by subst e;obtain⟨_,_,_,q⟩:=I;simp_all
    refine⟨?_,n1,λe=>(by subst e;simp_all),λe=>(by subst e;simp_all),λe=>(by simp_all),λe=>(by rw[(b0 b e).2.2.2.2]at U;cases U)⟩
    cases e:σ b with
    |none=>rfl
    |some x=>have:=u.1 b x (by simp[ab.del,n1,e]);rw[U]at this;cases this
   apply rn;simp[D,H,e8,V,fv];refine⟨?_,?_⟩
   . ((
       refine qW lay rfl cK rfl pQ rfl (by decide) rfl rfl (n:=sp) (by simp[H]) (by simp[H]) ⟨by omega,by omega⟩ λb U=>?_
       obtain⟨bw,a9,ad,al,b4,av⟩:=fresh b U;have up:=u.up (ab.jW (x:=.cells (List.replicate sp (int 0))) (ab.le_refl _) U);have b1:(σ'.set b (.cells (List.replicate sp (int 0)))) w=some (.cells [.lit (.slice none 0 0),a,int 0,int 0,int cJ,int aX]):=(ab.ah _ _ b4).trans V;apply pg;simp[D,H,b1,L.1,L.2]))
     ((
       refine aN lay rfl rfl rfl qp rfl qp rfl cK (by decide) (by simp;omega) (σ0:=(σ'.set b (.cells (List.replicate sp (int 0)))).off a) (es:=rs.map λb:Nat=>AV.gK b 0 sp sp) (xs:=[AV.gK b 0 sp sp]) (by simpa using up.here.1) (.inr ⟨_,by simp;rfl⟩) λa' g t=>?_
       have B:=t.cells;have F:∀y l,(σ'.set b (.cells (List.replicate sp (int 0)))) y=some (.cells l)->g y=some (.cells l):=λy l p=>t.1 _ _ (by rw[ab.dF (dy _ up y l p)];exact p)
       have Q:=F _ _ b1;apply pg;simp[D,Q,B.1,B.2,aI];apply rn;simp[e8,f1.1,f1.2];obtain⟨X,Y,G,E⟩:=I
       have C:Tok (σ.del c) g a' 1 ((rs++[b]).map λb:Nat=>AV.gK b 0 sp sp):=by have:=t.base up.here.2;simpa using this
       refine ih _ g1 ⟨_,_,a',rs++[b],rfl,by simp[J],by simp[e1],by simp[T],by simp[D],by simp[H],by simp[e7],by simp,⟨X,Y,G,?_⟩,?_,ab.ai _ _ _,C.beside (by simp[ab.del,K,aL]) (λe=>by obtain⟨_,_,q⟩:=C.aV e;rw[Q]at q;cases q),by simp[b3],?_,?_⟩
       . rw[ab.ah _ _ (zs K)];exact F _ _ ((ab.ah _ _ (zs a9)).trans E)
       . rw[ab.ah _ _ (zs S)];exact F _ _ ((ab.ah _ _ (zs ad)).trans q4)
       . rw[aem]
         exact⟨a7,by simp,λx hx y p=>by simp at p;subst p;exact λe=>av (e ▸ hx)⟩
       . intro d hd
         rcases aan.1 hd with hd|hd
         . obtain⟨p1,p2,p3,p4,p5⟩:=b0 d hd
           have b5:d≠b:=λe=>av (e ▸ hd)
           exact⟨p1,p2,p3,p4,by rw[ab.ah _ _ p4];exact F _ _ ((ab.ah _ _ b5).trans p5)⟩
         . simp at hd
           subst hd;exact⟨bw,a9,ad,al,by rw[ab.ah _ _ al];exact F _ _ (ab.ai _ _ _)⟩))
   ((
     refine qW lay rfl cK rfl pQ rfl (by decide) rfl rfl (n:=sp) (by simp[H]) (by simp[H]) ⟨by omega,by omega⟩ λb U=>?_
     obtain⟨bw,a9,ad,al,b4,av⟩:=fresh b U;have up:=u.up (ab.jW (x:=.cells (List.replicate sp (int 0))) (ab.le_refl _) U);have b1:(σ'.set b (.cells (List.replicate sp (int 0)))) w=some (.cells [.lit (.slice none 0 0),a,int 0,int 0,int cJ,int aX]):=(ab.ah _ _ b4).trans V;apply pg;simp[D,H,b1,L.1,L.2]))
   refine⟨?_,?_⟩
   . ((
       refine aN lay rfl rfl rfl qp rfl qp rfl cK (by decide) (by simp;omega) (σ0:=(σ'.set b (.cells (List.replicate sp (int 0)))).off a) (es:=rs.map λb:Nat=>AV.gK b 0 sp sp) (xs:=[AV.gK b 0 sp sp]) (by simpa using up.here.1) (.inr ⟨_,by simp;rfl⟩) λa' g t=>?_
       have B:=t.cells;have F:∀y l,(σ'.set b (.cells (List.replicate sp (int 0)))) y=some (.cells l)->g y=some (.cells l):=λy l p=>t.1 _ _ (by rw[ab.dF (dy _ up y l p)];exact p)
       have Q:=F _ _ b1;apply pg;simp[D,Q,B.1,B.2,aI];apply rn;simp[e8,f1.1,f1.2];obtain⟨X,Y,G,E⟩:=I
       have C:Tok (σ.del c) g a' 1 ((rs++[b]).map λb:Nat=>AV.gK b 0 sp sp):=by have:=t.base up.here.2;simpa using this
       refine ih _ g1 ⟨_,_,a',rs++[b],rfl,by simp[J],by simp[e1],by simp[T],by simp[D],by simp[H],by simp[e7],by simp,⟨X,Y,G,?_⟩,?_,ab.ai _ _ _,C.beside (by simp[ab.del,K,aL]) (λe=>by obtain⟨_,_,q⟩:=C.aV e;rw[Q]at q;cases q),by simp[b3],?_,?_⟩
       . rw[ab.ah _ _ (zs K)];exact F _ _ ((ab.ah _ _ (zs a9)).trans E)
       . rw[ab.ah _ _ (zs S)];exact F _ _ ((ab.ah _ _ (zs ad)).trans q4)
       . rw[aem]
         exact⟨a7,by simp,λx hx y p=>by simp at p;subst p;exact λe=>av (e ▸ hx)⟩
       . intro d hd
         rcases aan.1 hd with hd|hd
         . obtain⟨p1,p2,p3,p4,p5⟩:=b0 d hd
           have b5:d≠b:=λe=>av (e ▸ hd)
           exact⟨p1,p2,p3,p4,by rw[ab.ah _ _ p4];exact F _ _ ((ab.ah _ _ b5).trans p5)⟩
         . simp at hd
           subst hd;exact⟨bw,a9,ad,al,by rw[ab.ah _ _ al];exact F _ _ (ab.ai _ _ _)⟩))
   ((
     refine aN lay rfl rfl rfl qp rfl qp rfl cK (by decide) (by simp;omega) (σ0:=(σ'.set b (.cells (List.replicate sp (int 0)))).off a) (es:=rs.map λb:Nat=>AV.gK b 0 sp sp) (xs:=[AV.gK b 0 sp sp]) (by simpa using up.here.1) (.inr ⟨_,by simp;rfl⟩) λa' g t=>?_
     have B:=t.cells;have F:∀y l,(σ'.set b (.cells (List.replicate sp (int 0)))) y=some (.cells l)->g y=some (.cells l):=λy l p=>t.1 _ _ (by rw[ab.dF (dy _ up y l p)];exact p)
     have Q:=F _ _ b1;apply pg;simp[D,Q,B.1,B.2,aI];apply rn;simp[e8,f1.1,f1.2];obtain⟨X,Y,G,E⟩:=I
     have C:Tok (σ.del c) g a' 1 ((rs++[b]).map λb:Nat=>AV.gK b 0 sp sp):=by have:=t.base up.here.2;simpa using this
     refine ih _ g1 ⟨_,_,a',rs++[b],rfl,by simp[J],by simp[e1],by simp[T],by simp[D],by simp[H],by simp[e7],by simp,⟨X,Y,G,?_⟩,?_,ab.ai _ _ _,C.beside (by simp[ab.del,K,aL]) (λe=>by obtain⟨_,_,q⟩:=C.aV e;rw[Q]at q;cases q),by simp[b3],?_,?_⟩
     . rw[ab.ah _ _ (zs K)];exact F _ _ ((ab.ah _ _ (zs a9)).trans E)
     . rw[ab.ah _ _ (zs S)];exact F _ _ ((ab.ah _ _ (zs ad)).trans q4)
     . rw[aem]
       exact⟨a7,by simp,λx hx y p=>by simp at p;subst p;exact λe=>av (e ▸ hx)⟩
     . intro d hd
       rcases aan.1 hd with hd|hd
       . obtain⟨p1,p2,p3,p4,p5⟩:=b0 d hd
         have b5:d≠b:=λe=>av (e ▸ hd)
         exact⟨p1,p2,p3,p4,by rw[ab.ah _ _ p4];exact F _ _ ((ab.ah _ _ b5).trans p5)⟩
       . simp at hd
         subst hd;exact⟨bw,a9,ad,al,by rw[ab.ah _ _ al];exact F _ _ (ab.ai _ _ _)⟩))
 have fw:sp=i:=by omega
 subst fw;clear ih b2 eg ei c9
 obtain⟨spr,rfl⟩:∃spr,a=.sl 1 (rs.map λb:Nat=>AV.gK b 0 sp sp) spr:=by
  rcases u.2 with⟨_,e⟩|e|⟨_,_,_,e,_⟩
  . have:=congrArg List.length e
    grind
  . simp_all
  simp_all
 have N:=u.1;clear u
 have bA:∀(j:Nat) (hj:j<rs.length),σ rs[j]=none/\rs[j]≠c/\rs[j]≠A/\rs[j]≠w:=λj hj=>by simp_all
 apply rn;simp[H,e8]
 have o:∀(j:Nat) (hj:j<rs.length),σ' rs[j]=some (.cells (((List.replicate sp (List.replicate sp (0:Int))).getD j []).map int)):=λj hj=>by
  rw[(b0 _ (ys hj)).2.2.2.2]
  simp_all
 clear b0
 refine aa.loop sp (λi s=>∃env σ' M,s=⟨env,σ',[],.no⟩/\env 0=.ref c 0/\env 1=int cnt/\env 4=.ref A 0/\env 5=.ref w 0/\env 6=int sp/\env 7=int lo/\env 9=int i/\bg c nums (k+4+3*i) σ'/\σ' A=some (.cells iw)/\σ' w=some (.cells [.lit (.slice none 0 0),.sl 1 (rs.map λb:Nat=>AV.gK b 0 sp sp) spr,int 0,int 0,int cJ,int aX])/\
  (σ.del c).Le σ'/\Kt sp lo i 0 M/\∀(j:Nat) (hj:j<rs.length),σ' rs[j]=some (.cells ((M.getD j []).map int))) ⟨_,σ',_,rfl,by simp[J],by simp[e1],by simp[T],by simp[D],by simp[H],by simp[e7],by simp,I,q4,V,N,Kt.start sp lo,o⟩ ?_
 clear J e1 T D H e7 e8 I q4 V N o
 rintro c1 i _ gI ⟨env,σ',M,rfl,J,e1,T,D,H,e7,e9,I,q4,V,N,hM,o⟩ ih
 rcases aaA i sp with g2|g2
 . have BH:(i:Int)<sp:=by omega
   apply rn;simp[H,e9,BH]
   refine aa.loop i (λj s=>∃env σ' M,s=⟨env,σ',[],.no⟩/\env 0=.ref c 0/\env 1=int cnt/\env 4=.ref A 0/\env 5=.ref w 0/\env 6=int sp/\env 7=int lo/\env 9=int i/\env 10=int j/\bg c nums (k+4+3*i+j) σ'/\σ' A=some (.cells iw)/\σ' w=some (.cells [.lit (.slice none 0 0),.sl 1 (rs.map λb:Nat=>AV.gK b 0 sp sp) spr,int 0,int 0,int cJ,int aX])/\
    (σ.del c).Le σ'/\Kt sp lo i j M/\∀(j:Nat) (hj:j<rs.length),σ' rs[j]=some (.cells ((M.getD j []).map int))) ⟨_,σ',M,rfl,by simp[J],by simp[e1],by simp[T],by simp[D],by simp[H],by simp[e7],by simp[e9],by simp,I,q4,V,N,hM,o⟩ ?_
   clear J e1 T D H e7 e9 I q4 V N hM o
   rintro c2 j _ hj ⟨env,σ',M,rfl,J,e1,T,D,H,e7,e9,cu,I,q4,V,N,hM,o⟩ ej
   rcases aaA j i with g3|g3
   . have J7:(j:Int)<i:=by omega
     have f1:-9223372036854775808<=(j:Int)+1/\(j:Int)+1<=9223372036854775807:=by omega
     have f2:-9223372036854775808<=2*lo/\2*lo<=9223372036854775807:=by omega
     apply rn;simp[J,e7,e9,cu,J7,f2.1,f2.2];refine cf Tryz.func13 rfl (fY (by omega) hn ⟨by omega,by omega⟩ ⟨by omega,by omega⟩ I λv r hv hd=>?_)
     have s5:r w=some (.cells [.lit (.slice none 0 0),.sl 1 (rs.map λb:Nat=>AV.gK b 0 sp sp) spr,int 0,int 0,int cJ,int aX]):=by rw[hd.2 w K];exact V
     have s4:r A=some (.cells iw):=by rw[hd.2 A Z];exact q4
     have ca:i<rs.length:=by omega
     have cb:j<rs.length:=by omega
     obtain⟨z1,z2,z3,z4⟩:=bA i ca;obtain⟨y1,y2,y3,y4⟩:=bA j cb;have si:r rs[i]=some (.cells ((M.getD i []).map int)):=by rw[hd.2 _ z2];exact o i ca
     have sj:r rs[j]=some (.cells ((M.getD j []).map int)):=by rw[hd.2 _ y2];exact o j cb
     have fx:rs[i]≠rs[j]:=vZ a7 (by omega)
     have ep:=zs fx;obtain⟨Ri,et⟩:∃R,R=M.getD i []:=⟨_,rfl⟩;obtain⟨Rj,ev⟩:∃R,R=M.getD j []:=⟨_,rfl⟩;have li:=hM.row i (by omega)
     have lj:=hM.row j (by omega)
     rw[<-et]at si li;rw[<-ev]at sj lj;have fO:j+1<=sp:=by omega
     have gd:i+1<=sp:=by omega
     have g4:j<sp:=by omega
     have gf:(j:Int)<sp:=by omega
     have ey:(i:Int)<sp:=by omega
     have hF:∀g,g=(r.set rs[i] (.cells ((Ri.map int).set j (int v)))).set rs[j] (.cells ((Rj.map int).set i (int v)))->bg c nums (k+4+3*i+(j+1)) g/\g A=some (.cells iw)/\g w=some (.cells [.lit (.slice none 0 0),.sl 1 (rs.map λb:Nat=>AV.gK b 0 sp sp) spr,int 0,int 0,int cJ,int aX])/\(σ.del c).Le g/\∀(l:Nat) (hl:l<rs.length),g rs[l]=some (.cells (((B1 M i j v).getD l []).map int)):=λg e3=>by
      subst e3;refine⟨?_,?_,?_,λy x p=>?_,λl hl=>?_⟩
      . obtain⟨X,Y,G,E⟩:=hd.1
        exact⟨X,Y,by omega,by rw[ab.ah _ _ (zs y2),ab.ah _ _ (zs z2)];exact E⟩
      . rw[ab.ah _ _ (zs y3),ab.ah _ _ (zs z3)];exact s4
      . rw[ab.ah _ _ (zs y4),ab.ah _ _ (zs z4)];exact s5
      . have w1:y≠c:=λe=>by subst e;simp[ab.del]at p
        have w0:σ y=some x:=by simpa[ab.del,w1]using p
        have w2:y≠rs[i]:=λe=>by rw[e,z1]at w0;cases w0
        have w3:y≠rs[j]:=λe=>by rw[e,y1]at w0;cases w0
        rw[ab.ah _ _ w3,ab.ah _ _ w2,hd.2 y w1];exact N y x p
      rw[C7 (by rw[hM.len];omega) (by rw[hM.len];omega) (by omega),<-et,<-ev]
      by_cases q1:l=j
      . subst q1
        rw[Rp rfl,ab.ai,adF]
      rw[KD q1,ab.ah _ _ (vZ a7 q1)]
      by_cases q2:l=i
      . subst q2
        rw[Rp rfl,ab.ai,adF]
      rw[KD q2,ab.ah _ _ (vZ a7 q2),hd.2 _ (bA l hl).2.1];exact o l hl
     have O:=hF _ rfl;clear hF;apply rn;simp[D,e9,cu,s5,b3,g2,g4,gf,ey,fO,gd,li,lj,si,sj,ab.ah,ep];refine⟨?_,?_⟩
     . apply rn
       simp[cu,f1.1,f1.2];refine ej _ g3 ⟨_,_,B1 M i j v,rfl,?_,?_,?_,?_,?_,?_,?_,?_,O.1,O.2.1,O.2.2.1,O.2.2.2.1,hM.next (by omega) g3 ⟨hv.1,by omega⟩,O.2.2.2.2⟩<;>simp[J,e1,T,D,H,e7,e9]
     apply rn;simp[cu,f1.1,f1.2];refine ej _ g3 ⟨_,_,B1 M i j v,rfl,?_,?_,?_,?_,?_,?_,?_,?_,O.1,O.2.1,O.2.2.1,O.2.2.2.1,hM.next (by omega) g3 ⟨hv.1,by omega⟩,O.2.2.2.2⟩<;>simp[J,e1,T,D,H,e7,e9]
   have gj:i=j:=by omega
   subst gj;have f1:-9223372036854775808<=(i:Int)+1/\(i:Int)+1<=9223372036854775807:=by omega
   apply rn;simp[e9,cu,f1.1,f1.2];refine ih _ g2 ⟨_,_,M,rfl,?_,?_,?_,?_,?_,?_,?_,I.mono (by omega),q4,V,N,hM.line,o⟩<;>simp[J,e1,T,D,H,e7]
 have gl:sp=i:=by omega
 subst gl;clear ih;have ez:∀l,l<rs.length->(M.getD l []).length=sp:=λl hl=>hM.row l (by omega)
 have eA:w∉rs:=λe=>by
  obtain⟨l,hl,e'⟩:=aaV.1 e
  grind
 have aC:rs.map (λb:Nat=>AV.gK b 0 sp sp)=j9 rs M sp 0:=by
  apply List.ext_getElem?;intro l
  by_cases hl:l<rs.length
  . rw[rK hl,KD (by omega),aaM,zA hl]
    grind
  rw[adl (by simp_all),adl (by rw[rJ];omega)]
 have aE:j9 rs M sp rs.length=M.map ints:=by
  have gp:=hM.len;apply List.ext_getElem?;intro l
  by_cases hl:l<rs.length
  . have gw:l<M.length:=by omega
    rw[rK hl,Rp hl,aaM,zA gw]
    simp_all
  rw[adl (by rw[rJ];omega),adl (by simp_all)]
 rw[aC]at V;refine G5 (d:=w) (n:=sp) (at_:=1) (rs:=rs) (M:=M) (cs:=[.lit (.slice none 0 0),.cX,int 0,int 0,int cJ,int aX]) (spr:=spr) σ' a7 ez (by simp) eA (λg eB eK=>?_) rs.length 0 (by omega) σ' (by simp_all) (λl hl _=>o l hl) (λ_ _ _=>rfl)
 rw[aE]at eB;have gD:=hM.fin;have gp:=hM.len
 have F:∀(j:Nat),j≠w->(∀(l:Nat) (hl:l<rs.length),rs[l]≠j)->g j=σ' j:=λj h1 h2=>eK j h1 λe=>by
  obtain⟨l,hl,e'⟩:=aaV.1 e
  grind
 have eN:bg c nums (k+4+3*sp) g:=by obtain⟨X,Y,G,E⟩:=I;exact⟨X,Y,G,by grind⟩
 have eR:g A=some (.cells iw):=by grind
 have eW:g w=some (.cells [.lit (.slice none 0 0),.sl 1 (M.map ints) spr,int 0,int 0,int cJ,int aX]):=by grind
 have cg:(σ.del c).Le g:=λy x p=>by
  have w1:y≠c:=λe=>by subst e;simp[ab.del]at p
  have w0:σ y=some x:=by simpa[ab.del,w1]using p
  rw[F y (λe=>by grind) (λl hl e=>by grind)]
  exact N y x p
 clear eB eK o aC aE I q4 V N hM ez eA F bA a7 b3;apply rn;simp[J,H,e9];refine cf Tryz.func16 rfl (fE (by omega) hn ⟨by omega,by omega⟩ eN λfr aO gP b6=>?_)
 apply rn;simp[J];refine cf Tryz.func13 rfl (fY (by omega) hn ⟨by omega,by omega⟩ ⟨by omega,by omega⟩ b6.1 λto bB gR b7=>?_)
 have Q:bB w=some (.cells [.lit (.slice none 0 0),.sl 1 (M.map ints) spr,int 0,int 0,int cJ,int aX]):=by rw[b7.2 w K,b6.2 w K];exact eW
 apply rn;simp[J,e1,D,Q,aI];have t4:bB A=some (.cells iw):=by rw[b7.2 A Z,b6.2 A Z];exact eR
 have cm:(σ.del c).Le bB:=λy x p=>by
  have w1:y≠c:=λe=>by subst e;simp[ab.del]at p
  rw[b7.2 y w1,b6.2 y w1];exact cg y x p
 have eX:∀x,bg c nums (k+6+3*sp) (bB.set w x):=λx=>by obtain⟨n,z,h1,h2⟩:=b7.1;exact⟨n,z,by omega,by rw[ab.ah _ _ (zs K)];exact h2⟩
 refine cf Tryz.func16 rfl (fE (by omega) hn ⟨by omega,by omega⟩ (eX _) λq c6 gU b8=>?_)
 apply rn;simp;have u5:c6 w=some (.cells [.lit (.slice none 0 0),.sl 1 (M.map ints) spr,int fr,int to,int cJ,int aX]):=by rw[b8.2 w K,ab.ai]
 have u4:c6 A=some (.cells iw):=by rw[b8.2 A Z,ab.ah _ _ (zs S)];exact t4
 have cr:(σ.del c).Le c6:=λy x p=>by
  have w1:y≠c:=λe=>by subst e;simp[ab.del]at p
  have w0:σ y=some x:=by simpa[ab.del,w1]using p
  rw[b8.2 y w1,ab.ah _ _ (λe=>by simp_all)];exact cm y x p
 obtain⟨qn,rfl⟩:∃qn:Nat,q=(qn:Int):=⟨q.toNat,by omega⟩
 have h3:(qn:Int)<=cnt:=by omega
 have cv:=b8.1;clear b6 b7 b8 eX eN eR eW cg cm Q t4
 refine aa.loop qn (λi s=>∃env σ' a es,s=⟨env,σ',[],.no⟩/\env 0=.ref c 0/\env 4=.ref A 0/\env 5=.ref w 0/\env 6=int sp/\env 13=int ((qn:Int)-i)/\bg c nums (k+7+3*sp+11*i) σ'/\σ' A=some (.cells iw)/\σ' w=some (.cells [a,.sl 1 (M.map ints) spr,int fr,int to,int cJ,int aX])/\
  Tok (σ.del c) σ' a 6 (es.map bj)/\es.length=i/\(∀e∈es,Bh sp e)/\(es=[]->a=.lit (.slice none 0 0))) ⟨_,c6,.lit (.slice none 0 0),[],rfl,by simp[J],by simp[T],by simp[D],by simp[H],by simp,cv.mono (by omega),u4,u5,⟨cr,.inl ⟨rfl,rfl⟩⟩,rfl,by simp,λ_=>rfl⟩ ?_
 clear J e1 T D H e7 e9 cv u4 u5 cr
 rintro c3 i _ h6 ⟨env,σ',a,es,rfl,J,T,D,H,b9,c7,q4,V,u,ea,eb,fc⟩ ih
 have L:=u.cells;have bm:∀a8:ab,Tok (σ.del c) a8 a 6 (es.map bj)->∀y l,a8 y=some (.cells l)->bt a≠some y:=λa8 hx y l p e=>by obtain⟨_,_,q⟩:=hx.aV e;grind
 have fg:∃l,σ' c=some (.cells l):=by obtain⟨_,_,_,q⟩:=c7;grind
 rcases aaA i qn with g1|g1
 . have f1:-9223372036854775808<=(qn:Int)-i-1/\(qn:Int)-i-1<=9223372036854775807:=by omega
   apply rn;simp[J,D,H,b9,V,g1];refine⟨?_,?_⟩
   . ((
       refine cf Tryz.func61 rfl (rH (by omega) hn ⟨by omega,by omega⟩ c7 λe r he hd=>?_)
       have s5:r w=some (.cells [a,.sl 1 (M.map ints) spr,int fr,int to,int cJ,int aX]):=by rw[hd.2 w K];exact V
       have s4:r A=some (.cells iw):=by rw[hd.2 A Z];exact q4
       have P:Tok (σ.del c) r a 6 (es.map bj):=tF u (by simp[ab.del]) fg hd.2
       apply pg;simp[D,s5,L.1,L.2]))
     ((
       refine aN lay rfl rfl rfl nX rfl nX rfl Ap (by decide) (by simp;omega) (σ0:=r.off a) (es:=es.map bj) (xs:=[bj e]) (by simpa using P.here.1) (.inr ⟨_,by simp;rfl⟩) λa' g t=>?_
       have B:=t.cells;have F:∀y l,r y=some (.cells l)->g y=some (.cells l):=λy l p=>t.1 _ _ (by rw[ab.dF (bm _ P y l p)];exact p)
       have Q:=F _ _ s5;have t4:=F _ _ s4;apply pg;simp[D,Q,B.1,B.2,aI];apply rn;simp[b9,f1.1,f1.2];obtain⟨X,Y,G,E⟩:=hd.1
       have C:Tok (σ.del c) g a' 6 ((es++[e]).map bj):=by have:=t.base P.here.2;simpa using this
       refine ih _ g1 ⟨_,_,a',es++[e],rfl,by simp[J],by simp[T],by simp[D],by simp[H],by simp;omega,⟨X,Y,by omega,?_⟩,?_,ab.ai _ _ _,C.beside (by simp[ab.del,K,aL]) (λe=>by obtain⟨_,_,q⟩:=C.aV e;rw[Q]at q;cases q),by simp[ea],?_,λe=>by simp at e⟩
       . rw[ab.ah _ _ (zs K)];exact F _ _ E
       . rw[ab.ah _ _ (zs S)];exact t4
       . intro x hx
         rcases aan.1 hx with hx|hx
         . exact eb x hx
         . simp at hx;subst hx;exact he))
   ((
     refine cf Tryz.func61 rfl (rH (by omega) hn ⟨by omega,by omega⟩ c7 λe r he hd=>?_)
     have s5:r w=some (.cells [a,.sl 1 (M.map ints) spr,int fr,int to,int cJ,int aX]):=by rw[hd.2 w K];exact V
     have s4:r A=some (.cells iw):=by rw[hd.2 A Z];exact q4
     have P:Tok (σ.del c) r a 6 (es.map bj):=tF u (by simp[ab.del]) fg hd.2
     apply pg;simp[D,s5,L.1,L.2]))
   refine⟨?_,?_⟩
   . ((
       refine aN lay rfl rfl rfl nX rfl nX rfl Ap (by decide) (by simp;omega) (σ0:=r.off a) (es:=es.map bj) (xs:=[bj e]) (by simpa using P.here.1) (.inr ⟨_,by simp;rfl⟩) λa' g t=>?_
       have B:=t.cells;have F:∀y l,r y=some (.cells l)->g y=some (.cells l):=λy l p=>t.1 _ _ (by rw[ab.dF (bm _ P y l p)];exact p)
       have Q:=F _ _ s5;have t4:=F _ _ s4;apply pg;simp[D,Q,B.1,B.2,aI];apply rn;simp[b9,f1.1,f1.2];obtain⟨X,Y,G,E⟩:=hd.1
       have C:Tok (σ.del c) g a' 6 ((es++[e]).map bj):=by have:=t.base P.here.2;simpa using this
       refine ih _ g1 ⟨_,_,a',es++[e],rfl,by simp[J],by simp[T],by simp[D],by simp[H],by simp;omega,⟨X,Y,by omega,?_⟩,?_,ab.ai _ _ _,C.beside (by simp[ab.del,K,aL]) (λe=>by obtain⟨_,_,q⟩:=C.aV e;rw[Q]at q;cases q),by simp[ea],?_,λe=>by simp at e⟩
       . rw[ab.ah _ _ (zs K)];exact F _ _ E
       . rw[ab.ah _ _ (zs S)];exact t4
       . intro x hx
         rcases aan.1 hx with hx|hx
         . exact eb x hx
         . simp at hx;subst hx;exact he))
   ((
     refine aN lay rfl rfl rfl nX rfl nX rfl Ap (by decide) (by simp;omega) (σ0:=r.off a) (es:=es.map bj) (xs:=[bj e]) (by simpa using P.here.1) (.inr ⟨_,by simp;rfl⟩) λa' g t=>?_
     have B:=t.cells;have F:∀y l,r y=some (.cells l)->g y=some (.cells l):=λy l p=>t.1 _ _ (by rw[ab.dF (bm _ P y l p)];exact p)
     have Q:=F _ _ s5;have t4:=F _ _ s4;apply pg;simp[D,Q,B.1,B.2,aI];apply rn;simp[b9,f1.1,f1.2];obtain⟨X,Y,G,E⟩:=hd.1
     have C:Tok (σ.del c) g a' 6 ((es++[e]).map bj):=by have:=t.base P.here.2;simpa using this
     refine ih _ g1 ⟨_,_,a',es++[e],rfl,by simp[J],by simp[T],by simp[D],by simp[H],by simp;omega,⟨X,Y,by omega,?_⟩,?_,ab.ai _ _ _,C.beside (by simp[ab.del,K,aL]) (λe=>by obtain⟨_,_,q⟩:=C.aV e;rw[Q]at q;cases q),by simp[ea],?_,λe=>by simp at e⟩
     . rw[ab.ah _ _ (zs K)];exact F _ _ E
     . rw[ab.ah _ _ (zs S)];exact t4
     . intro x hx
       rcases aan.1 hx with hx|hx
       . exact eb x hx
       . simp at hx;subst hx;exact he))
 have gx:i=qn:=by omega
 subst gx;apply rn;simp[T,D,b9,V,L.2,q4,aI];obtain⟨X,Y,G,E⟩:=c7;obtain⟨f,hf⟩:∃f:Fr,f=⟨es,M,fr,to,cJ,aX⟩:=⟨_,rfl⟩
 have gA:xm cnt f:=by
  subst hf;refine⟨ee,dx,by grind,⟨lo,fu,by grind⟩,by grind,by grind,by grind,λe he=>?_⟩
  grind
 obtain⟨a2,gB,h7⟩:∃a2,((f.az=[]->a2=.lit (.slice none 0 0))/\(f.az≠[]->a2=kq f.az))/\a.W a2:=by
  by_cases e:es=[]
  . exact⟨_,⟨λ_=>rfl,λe2=>absurd (by grind) e2⟩,by rw[fc e];exact .refl _⟩
  exact⟨_,⟨λe2=>absurd (by grind) e,λ_=>rfl⟩,by subst hf;exact u.W⟩
 refine .px (a':=.agg [a2,rows f.roads,int f.aU,int f.dD,int f.cJ,int f.aX]) (nY (by grind) λi x y x1 x2=>?_) (.less (σ':=σ.set c (.cells [ints nums,int X,.lit (.int .u64 Y)])) (λy x p=>?_) (.done (h f a2 _ gA ⟨⟨X,Y,by omega,ab.ai _ _ _⟩,λy p=>ab.ah _ _ p⟩ gB)))
 . subst hf
   match i with
   |0=>grind
   |1=>simp at x1 x2;subst x1;subst x2;exact eZ 1 _ spr
   |2=>simp at x1 x2;subst x1;subst x2;exact .refl _
   |3=>simp at x1 x2;subst x1;subst x2;exact .refl _
   |4=>simp at x1 x2;subst x1;subst x2;exact .refl _
   |5=>simp at x1 x2;subst x1;subst x2;exact .refl _
   |i+6=>simp at x1
 by_cases y1:y=c
 . subst y1
   rw[ab.ai]at p;rw[ab.ah _ _ n4,E];exact p
 rw[ab.ah _ _ y1]at p;have y4:y≠A:=λe=>by grind
 rw[ab.ah _ _ y4];exact u.1 y x (by simpa[ab.del,y1]using p)
end
end
section
open Go.bN Go.Conc
theorem QH{f}(b:f.Good)  e :bU f e≠[]:=by
 unfold bU iQ;have:=b.le;by_cases a:e.im=0
 . simp[a]
 . have c:(f.dD-f.aU+1).toNat=(f.dD-f.aU).toNat+1:=by omega
   rw[Rp a,c,List.range_succ_eq_map];split<;>simp
def QI(f:Fr)(l:afe):afe:=(bU f (aP f (l.getD 0 0))).filter λh=>l.all λj=>decide (h∈bU f (aP f j))
theorem G6{f l}(b:l≠[]):gy f l=QI f l:=by
 match l,b with
 | a::r,_=>
   simp only[gy,QI,jN,aep,List.getD_cons_zero];refine ads λx c=>?_
   simp[c,aau]
section
variable{k:Int->Int}
abbrev Fe(k:Int->Int):Int->Int->Bool:=λa b=>decide (k a<k b)
def Dn(k:Int->Int)(r:afe):Prop:=r.Pairwise λy z=>k z<=k y
theorem G8  x :∀{r},(∀z∈r,k z<=k x)->eF (Fe k) x r=x::r
 |[],_=>rfl
 | y::r,h=>by
   unfold eF
   grind
theorem C8  x :∀{r z},z∈eF (Fe k) x r->z=x\/z∈r
 |[],z,h=>by simp[eF]at h;exact .inl h
 | y ::r,z,h=>by
   unfold eF at h;split at h
   . rcases aaw.1 h with rfl|h
     . simp_all
     rcases C8 x h with h|h
     . exact .inl h
     simp_all
   simp_all
theorem yU  x :∀{r},Dn k r->Dn k (eF (Fe k) x r)
 |[],_=>by simp[eF,Dn]
 | y ::r,h=>by
   obtain⟨d,b⟩:=aaK.1 h;unfold eF;split
   . next q=>
     have c:k x<k y:=by simp_all
     refine aaK.2 ⟨λz a=>?_,yU x b⟩;rcases C8 x a with rfl|a
     . omega
     simp_all
   next q=>
   have c:¬k x<k y:=by simp_all
   refine aaK.2 ⟨λz a=>?_,h⟩
   grind
theorem yA{x y r}(h:k x<k y):eF (Fe k) x (y::r)=y::eF (Fe k) x r:=by simp[eF,Fe,h]
theorem yB{x y r}(h:¬k x<k y):eF (Fe k) x (y::r)=x::y::r:=by simp[eF,Fe,h]
theorem Ha  x :∀r:afe,r.Sublist (eF (Fe k) x r)
 |[]=>List.nil_sublist _
 | y::r=>by
   unfold eF;split
   . exact(Ha x r).cons_cons y
   simp_all
theorem QJ  x  {d r}(a:d.Sublist r) (hd:Dn k r):(eF (Fe k) x d).Sublist (eF (Fe k) x r):=by
 induction a with
 |slnil=>simp_all
 | cons y a b=>
   obtain⟨e,c⟩:=aaK.1 hd;by_cases q:k x<k y
   . rw[yA q]
     exact(b c).cons y
   rw[yB q,G8 x (λz f=>by grind)]
   simp_all
 | cons_cons y a b=>
   obtain⟨e,c⟩:=aaK.1 hd;by_cases q:k x<k y
   . rw[yA q,yA q]
     exact(b c).cons_cons y
   rw[yB q,yB q]
   simp_all
theorem MX{l' l:afe}(b:l'.Sublist l):∀{a r},a.Sublist r->Dn k r->(l'.foldl (λr x=>eF (Fe k) x r) a).Sublist (l.foldl (λr x=>eF (Fe k) x r) r):=by
 induction b with
 |slnil=>simp_all
 |cons x b c=>intro a r h hd;exact c (h.trans (Ha x r)) (yU x hd)
 |cons_cons x b c=>intro a r h hd;exact c (QJ x h hd) (yU x hd)
end
theorem lQ  f   l :aM f l=(dJ (Fe λn=>(aP f n).hour) l).reverse:=by
 unfold aM;congr 2;funext a b;unfold xl EP Fe
 grind
theorem EW{f l' l}(a:l'.Sublist l):(aM f l').Sublist (aM f l):=by rw[lQ,lQ];exact(MX a (adJ _) List.Pairwise.nil).reverse
theorem qK{f l n}:n∈aM f l↔n∈l:=by unfold aM;rw[List.mem_reverse,te]
theorem Vo:∀a:Fin 32,∀b:Fin 32,∀c:Fin 32,bM (a.val:Int) (c.val:Int)<=bM (a.val:Int) (b.val:Int)+bM (b.val:Int) (c.val:Int):=by decide +kernel
theorem nD{l}(h:oy none l=0):∃a:Fin 32,aR l=(a.val:Int):=by have:=iR (mV h);exact⟨⟨(aR l).toNat,by omega⟩,by grind⟩
def Fit(f:Fr)(a b:Int):Prop:=eU f a b=false
theorem Fr.Good.tri{f:Fr}(a:f.Good){i j k}(hi:i<f.roads.length)(hj:j<f.roads.length)(b:k<f.roads.length):rd f.roads i k<=rd f.roads i j+rd f.roads j k:=by
 have h:=a.Js;unfold fT at h;split at h
 . cases h
 split at h
 . cases h
 split at h
 . omega
 split at h
 . cases h
 next q=>
 simp only[aaO,zH,not_exists,not_and]at q;have c:=q i hi k b;unfold cD at c
 grind
theorem fS{f n}(h:0<=n/\n<f.az.length):aP f n∈f.az:=by
 have:n.toNat<f.az.length:=by omega
 rw[jO this]
 simp_all
theorem C9{f}(d:f.Good){a b c}(q:0<=a/\a<f.az.length)(hb:0<=b/\b<f.az.length)(r:0<=c/\c<f.az.length)(e:Fit f a b)(g:Fit f b c):Fit f a c:=by
 have h:=lP (d.r7 _ (fS q));have l:=lP (d.r7 _ (fS hb));have m:=lP (d.r7 _ (fS r));have hd:=d.cJ;obtain⟨A,n⟩:=nD h.2.2.2.2.2;obtain⟨B,o⟩:=nD l.2.2.2.2.2;obtain⟨C,p⟩:=nD m.2.2.2.2.2;have s:=Vo A B C;have t:=h.2.1;have u:=l.2.1;have pc:=m.2.1;have v:=d.tri (i:=(aP f a).place.toNat) (j:=(aP f b).place.toNat) (k:=(aP f c).place.toNat) (by omega) (by omega) (by omega);unfold Fit eU at e g ⊢;rw[n,o]at e;rw[o,p]at g;rw[n,p];simp only[aaU]at e g ⊢;have w:f.cJ*bM (A.val:Int) (C.val:Int)<=f.cJ*(bM (A.val:Int) (B.val:Int)+bM (B.val:Int) (C.val:Int)):=Int.mul_le_mul_of_nonneg_left s (by omega)
 grind
theorem Bi  f   a b   r :bG f (a::b::r)=(eU f a b||bG f (b::r)):=by
 unfold bG;rw[show(a::b::r).length-1=r.length+1 from rfl,List.range_succ_eq_map,List.any_cons,List.any_map];rfl
theorem xn{f}(e:f.Good):∀{l},(∀n∈l,0<=n/\n<f.az.length)->bG f l=false->l.Pairwise (Fit f)
 |[],_,_=>List.Pairwise.nil
 |[a],_,_=>List.pairwise_singleton _ _
 | a::b::r,d,h=>by
   rw[Bi,aea]at h;have g:=xn e (λn i=>d n (by simp[i])) h.2;refine aaK.2 ⟨λz j=>?_,g⟩;rcases aaw.1 j with rfl|c
   . exact h.1
   exact C9 e (d a (by simp)) (d b (by simp)) (d z (by simp[c])) h.1 ((aaK.1 g).1 z c)
theorem pR{f}:∀{l},l.Pairwise (Fit f)->bG f l=false
 |[],_=>rfl
 |[a],_=>rfl
 |a::b::r,h=>by obtain⟨c,d⟩:=aaK.1 h;rw[Bi,pR d,Bool.or_false];exact c b (by simp)
theorem qJ{f l}(b:l≠[]){h}:h∈gy f l↔∀j∈l,h∈bU f (aP f j):=by
 rw[G6 b]
 match l,b with
 | a::r,_=>
   simp only[QI,aaC,aau,zR]
   simp_all
theorem sX{f l}:jT f l=0↔dK f (aM f l)=false/\cO f (aM f l)=false/\bG f (aM f l)=false:=by
 unfold jT
 grind
theorem Tb{f}(k:f.Good){l' l}(m:l'.Sublist l)(o:l'≠[])(p:∀n∈l,0<=n/\n<f.az.length)(h:jT f l=0):jT f l'=0:=by
 obtain⟨q,d,s⟩:=sX.1 h;have g:=EW (f:=f) m
 have b:aM f l'≠[]:=λe=>by
  cases l' with
  |nil=>grind
  |cons a r=>have:a∈aM f (a::r):=qK.2 (by simp);simp_all
 have c:aM f l≠[]:=λe=>b (by simp_all)
 have t:∀n∈aM f l,0<=n/\n<f.az.length:=λn u=>p n (qK.1 u)
 generalize aM f l=S at *;refine sX.2 ⟨?_,?_,pR ((xn k t s).sublist g)⟩
 . generalize aM f l'=i at *
   unfold dK at q ⊢
   grind
 generalize aM f l'=i at *;unfold cO at d ⊢;simp only[aaU]at d ⊢;obtain⟨x,v⟩:=acf _ d;have:x∈gy f i:=(qJ b).2 λj w=>(qJ c).1 v j (g.subset w)
 grind
theorem Nl{f}(b:f.Good)  n :jT f [n]=0:=by
 have e:aM f [n]=[n]:=by simp[aM,dJ,eF]
 refine sX.2 ?_;rw[e];refine⟨by simp[dK],?_,rfl⟩;unfold cO;simp only[aaU];obtain⟨x,c⟩:=acf _ (QH b (aP f n));exact adt ((qJ (by simp)).2 (λj a=>by simp at a;subst a;exact c))
theorem Ku{α β:Type}{B}{g:α->List β}:∀(l:List α),(∀x∈l,(g x).length<=B)->(l.flatMap g).length<=l.length*B
 |[],_=>by simp
 | a::l,h=>by
   rw[acg,aam,aaI,adK,Nat.one_mul];have c:=h a (by simp);have d:=Ku l λx b=>h x (by simp[b])
   omega
theorem Hb{f}(a:f.Good)  begun :∀  fuel   cN   many   b ,(iv f begun fuel cN many b).length<=6 ^ fuel
 |0,_,_,_=>by simp[iv]
 | fuel+1,cN,many,b=>by
   unfold iv;refine aap (Ku (B:=6 ^ fuel) _ λk _=>?_) ?_
   . split
     . simp
     split
     . exact Hb a begun fuel _ _ _
     simp
   rw[adf,aez,Nat.mul_comm];have:=a.aX;exact Nat.mul_le_mul_left _ (by omega)
theorem EX{f}(a:f.Good)  begun :(aJ f begun).length<=46656:=by refine aap (Hb a begun _ _ _ _) ?_;exact adp (by omega) a.mT
theorem pq  f   begun :∀  fuel   cN   many   a ,begun.length<=cN.length->iv f begun fuel cN many a=iv f [] fuel cN many a
 |0,_,_,_,_=>rfl
 | fuel+1,cN,many,a,h=>by
   unfold iv;congr 1;funext k;have b:¬(cN.length<begun.length/\begun.getD cN.length 0≠(k:Int)):=by omega
   have c:¬(cN.length<([]:afe).length/\([]:afe).getD cN.length 0≠(k:Int)):=by simp
   rw[KD b,KD c];split
   . exact pq f begun fuel _ _ _ (by simp;omega)
   rfl
theorem Jb{f}(b:f.Good)(e:2<=f.az.length):aJ f []=aJ f [0,0]++aJ f [0,1]:=by
 obtain⟨n,c⟩:∃n,f.az.length=n+2:=⟨f.az.length-2,by omega⟩;have g:=b.aX;have d:(min ((0:Int)+1) f.aX).toNat=1:=by omega
 unfold aJ;rw[c];unfold iv;rw[d];simp only[aaB,aeA,adC,acg,List.flatMap_nil,aaE];simp;by_cases a:lq f (cB 0 0)=true
 . simp only[a,aay]
   unfold iv;have e2:(min (max (0:Int) 1+1) f.aX).toNat=1\/(min (max (0:Int) 1+1) f.aX).toNat=2:=by omega
   rcases e2 with e2|e2
   . rw[e2]
     simp only[aaB,aeA,adC,acg,List.flatMap_nil,aaE];simp;rw[pq f [0,0] n [0,0] _ _ (by simp)]
   rw[e2];simp only[aaB,aeA,adC];simp;rw[pq f [0,0] n [0,0] _ _ (by simp),pq f [0,1] n [0,1] _ _ (by simp)]
 simp[a]
theorem QK{f}(a:f.Good)(d:f.az.length<2):aJ f []≠[]:=by
 have e:=a.aX;have b:(min ((0:Int)+1) f.aX).toNat=1:=by omega
 have c:lq f (cB 0 0)=true:=by
  have:aD (cB 0 0)=[0]:=by decide +kernel
  unfold lq;rw[this,zR];exact Nl a 0
 rcases(show f.az.length=0\/f.az.length=1 by omega)with hn|hn
 . unfold aJ;rw[hn];simp[iv]
 unfold aJ;rw[hn];unfold iv;rw[b];simp only[aaB,aeA,adC,acg,List.flatMap_nil,aaE];simp[c,iv]
theorem Jc{f}(a:f.Good)(b:2<=f.az.length):gX f=((aJ f []).length:Int):=by
 unfold gX;rw[KD (by omega),Jb a b,aam];omega
theorem wu{f}(a:f.Good):0<gX f↔aJ f []≠[]:=by
 by_cases b:2<=f.az.length
 . rw[Jc a b]
   cases aJ f []<;>simp
 have:=QK a (by omega);have e:gX f=1:=by unfold gX;omega
 simp_all
theorem Bj{β:Type}{G:Nat->List β}{c}:∀d ,(∀j,c<=j->j<c+d->G j=[])->(List.range (c+d)).flatMap G=(List.range c).flatMap G
 |0,_=>rfl
 | d+1,h=>by
   rw[<-Nat.add_assoc,aaB,adi,Bj d λj a b=>h j a (by omega)]
   simp_all
theorem C'{α β:Type}{f g:α->List β}{l:List α}(h:∀x∈l,f x=g x):l.flatMap f=l.flatMap g:=by rw[List.flatMap_def,List.flatMap_def,adx h]
def bh(w:afe)(k:Int):afe:=(w.zipIdx.filter λp=>decide (p.1=k)).map λp=>(p.2:Int)
def Kv(l:afe):aeJ:=(List.range (bR l+1).toNat).map λk:Nat=>l++[(k:Int)]
def kD:Nat->aeJ
 |0=>[[]]
 |i+1=>(kD i).flatMap Kv
def Bl:Nat->afe->aeJ
 |0,l=>[l]
 |n+1,l=>(List.range (bR l+1).toNat).flatMap λk:Nat=>Bl n (l++[(k:Int)])
def rQ(f:Fr)(l:afe):Bool:=decide (bR l<=f.aX) && (List.range (bR l).toNat).all λk:Nat=>decide (jT f (bh l k)=0)
theorem fZ  w   x k :bh (w++[x]) k=bh w k++if x=k then[(w.length:Int)]else[]:=by
 unfold bh
 grind
theorem Hc  w t   k :(bh w k).Sublist (bh (w++t) k):=by
 unfold bh
 grind
theorem cE{w k n}(h:n∈bh w k):0<=n/\n<w.length/\w.getD n.toNat 0=k:=by
 unfold bh at h
 grind
theorem c8  w   x :bR (w++[x])=max (bR w) (x+1):=by
 unfold bR
 simp_all
theorem uh(t:afe):∀n ,n<=t.foldl (λn k=>max n (k+1)) n:=by
 induction t with
 |nil=>simp_all
 |cons a t b=>grind
theorem kY  w t :bR w<=bR (w++t):=by unfold bR;rw[aaG];exact uh t _
theorem sY  w :0<=bR w:=uh w 0
theorem Bm:∀  n   w l ,l∈Bl n w->∃t,l=w++t/\t.length=n
 |0,w,l,h=>by simp[Bl]at h;simp_all
 | n+1,w,l,h=>by
   unfold Bl at h;obtain⟨k,_,a⟩:=aaR.1 h;obtain⟨t,b,c⟩:=Bm n _ l a
   simp_all
theorem Da:∀n m ,(kD m).flatMap (Bl n)=kD (m+n)
 | 0,m=>by
   have:Bl 0=λl=>[l]:=by funext l;rfl
   simp_all
 | n+1,m=>by
   have e:∀l,Bl (n+1) l=(Kv l).flatMap (Bl n):=λl=>by unfold Kv;rw[List.flatMap_map];rfl
   rw[show m+(n+1)=m+1+n by omega,<-Da n (m+1),kD,List.flatMap_assoc]
   exact C' λl _=>e l
theorem QL:∀x:Fin 64,∀n:Fin 6,(∀e∈aD (x.val:Int),e<(n.val:Int))->aD (cB (x.val:Int) (n.val:Int))=aD (x.val:Int)++[(n.val:Int)]:=by decide +kernel
theorem wq{x}{n:Nat}(b:0<=x/\x<64)(a:n<6)(h:∀e∈aD x,e<n):aD (cB x n)=aD x++[(n:Int)]:=by
 have c:(x.toNat:Int)=x:=by omega
 have:=QL ⟨x.toNat,by omega⟩ ⟨n,a⟩
 simp_all
theorem QM{f}(b:f.Good){w t}{k:Nat}(hlen:(w++t).length=f.az.length)(e:(k:Int)<bR w)(a:bh w k≠[])(h:rQ f (w++t)=true):jT f (bh w k)=0:=by
 unfold rQ at h;rw[zj,aau]at h;have g:=kY w t;have c:=h.2 k (zH.2 (by omega));refine Tb b (Hc w t k) a (λn d=>?_) (adk c);have:=cE d;omega
theorem Bn{f}(p:f.Good):∀  fuel   cN b ,cN.length+fuel=f.az.length->Hs f cN.length b->(∀k ,k<6->aD (b.getD k 0)=bh cN k)->bR cN<=f.aX->(∀k:Nat,(k:Int)<bR cN->jT f (bh cN k)=0) ->
 iv f [] fuel cN (bR cN) b=(Bl fuel cN).filter (rQ f)
 | 0,cN,b,_,_,_,v,w=>by
   have:rQ f cN=true:=by
    unfold rQ
    grind
   simp[iv,Bl,this]
 | fuel+1,cN,b,B,q,hb,v,w=>by
   have r:=p.aX;have C:=p.mT;have x:=sY cN;rw[uI];unfold Bl;rw[List.filter_flatMap];obtain⟨d,hd⟩:∃d,(bR cN+1).toNat=(min (bR cN+1) f.aX).toNat+d:=⟨(bR cN+1).toNat-(min (bR cN+1) f.aX).toNat,by omega⟩
   rw[hd,Bj d λj D E=>?_]
   . refine C' λk u=>?_
     have u:=zH.1 u;have h:k<6:=by omega
     have c:k<b.length:=by rw[q.mT];exact h
     have i:b.getD k 0=b[k]:=by simp_all
     have m:cN.length<6:=by omega
     have n:aD (cB b[k] cN.length)=bh (cN++[(k:Int)]) k:=by rw[wq (q.small _ (ys c)) m (q.bits _ (ys c)),<-i,hb k h,fZ,Rp rfl]
     unfold rZ;rw[KD (by simp),i]
     by_cases o:lq f (cB b[k] cN.length)=true
     . rw[Rp o,<-c8]
       unfold lq at o;rw[zR,n]at o;have y:=q.set m c;refine Bn p fuel _ _ (by simp;omega) (by simp_all) (λj s=>?_) (by rw[c8];omega) λj s=>?_
       . by_cases e:j=k
         . simp_all
         rw[zD,ach (zs e),<-List.getD_eq_getElem?_getD,hb j s,fZ,KD (by omega),aaE]
       by_cases e:j=k
       . simp_all
       rw[c8]at s;rw[fZ,KD (by omega),aaE]
       grind
     rw[KD o];symm;rw[adV];intro l g a;obtain⟨t,rfl,z⟩:=Bm _ _ _ g;refine o ?_;unfold lq;rw[zR,n];refine QM p (by simp;omega) (by rw[c8];omega) ?_ a
     rw[fZ,Rp rfl];simp
   rw[adV];intro l g a;obtain⟨t,rfl,z⟩:=Bm _ _ _ g;unfold rQ at a;rw[zj,zR]at a;have A:=kY (cN++[(j:Int)]) t;rw[c8]at A;omega
theorem lr{f}(d:f.Good):(kD f.az.length).filter (rQ f)=aJ f []:=by
 have n:=d.aX;have i:bR []=0:=rfl;have j:aD 0=[]:=by decide +kernel
 have l:∀x∈([0,0,0,0,0,0]:afe),x=0:=λx g=>by simp_all
 have m:Hs f ([]:afe).length [0,0,0,0,0,0]:=⟨rfl,λx g e o=>by simp_all,λx g=>by simp_all⟩
 have c:∀k:Nat,k<6->aD (([0,0,0,0,0,0]:afe).getD k 0)=bh [] k:=λk h=>by
  have:([0,0,0,0,0,0]:afe).getD k 0=0:=by
   match k,h with
   |0,_=>rfl
   |1,_=>rfl
   |2,_=>rfl
   |3,_=>rfl
   |4,_=>rfl
   |5,_=>rfl
  rw[this,j];rfl
 have a:=Bn d f.az.length [] [0,0,0,0,0,0] (by simp) m c (by omega) (λk h=>by omega);rw[i]at a;have b:=Da f.az.length 0;rw[adn]at b;unfold aJ;rw[a,<-b];simp[kD]
theorem nf:∀  i ,∀l∈kD i,l.length=i/\(∀x∈l,0<=x/\x<i)/\bR l<=i
 |0,l,h=>by simp[kD]at h;subst h;exact⟨rfl,by simp,by decide⟩
 | i+1,l,h=>by
   unfold kD at h;obtain⟨p,c,a⟩:=aaR.1 h;obtain⟨d,e,f⟩:=nf i p c;unfold Kv at a;obtain⟨k,b,rfl⟩:=aab.1 a;have b:=zH.1 b;have:=sY p;refine⟨by simp[d],λx g=>?_,by rw[c8];omega⟩
   grind
theorem Hd{k}:∀(l r:afe),(∀z∈r,∀x∈l,k z<=k x)->l.Pairwise (λa b=>k a<=k b)->l.foldl (λr x=>eF (Fe k) x r) r=l.reverse++r
 |[],r,_,_=>rfl
 | a::l,r,d,e=>by
   obtain⟨g,f⟩:=aaK.1 e;rw[aaS,G8 a (λz c=>d z c a (by simp)),Hd l (a::r) (λz c x h=>?_) f,List.reverse_cons,adr]
   . rfl
   grind
theorem He{f l}(h:l.Pairwise λa b=>(aP f a).hour<=(aP f b).hour):aM f l=l:=by
 rw[lQ];unfold dJ;rw[Hd l [] (by simp) h];simp
theorem sZ  k :∀(w:afe)  n ,(((w.zipIdx n).filter λp=>decide (p.1=k)).map λp=>(p.2:Int)).Pairwise (·<·)/\∀x∈(((w.zipIdx n).filter λp=>decide (p.1=k)).map λp=>(p.2:Int)),(n:Int)<=x
 |[],n=>by simp
 | a ::w,n=>by
   have b:=sZ k w (n+1);rw[List.zipIdx_cons,aer];split
   . rw[aep]
     refine⟨aaK.2 ⟨λx c=>?_,b.1⟩,λx c=>?_⟩
     . grind
     grind
   grind
theorem eE{w k}{i:Nat}(hi:i<w.length)(h:w.getD i 0=k):(i:Int)∈bh w k:=by
 unfold bh;refine aab.2 ⟨(w[i],i),aaC.2 ⟨?_,?_⟩,rfl⟩
 . grind
 simp_all
def xp:afe->afe->afe->afe × List Int
 |[],w,s=>(w,s)
 |h::l,w,s=>if h∈s then xp l (w++[(s.idxOf h:Int)]) s else xp l (w++[(s.length:Int)]) (s++[h])
structure Canon(p w s:afe):Prop where
 len:w.length=p.length
 many:bR w=s.length
 nd:s.Nodup
 sub:∀x∈s,x∈p
 xx:∀k ,(hk:k<s.length)->bh w k=bh p s[k]
 part:w∈kD p.length
theorem Canon.all{p w s}(h:Canon p w s):∀x∈p,x∈s:=λx c=>by
 obtain⟨i,d,rfl⟩:=aaV.1 c;have f:=(nf _ _ h.part).2.1;have a:i<w.length:=by rw[h.len];exact d
 have g:w[i]<bR w:=by
  have e:w=w.take i++(w[i]::w.drop (i+1)):=by simp_all
  have:bR (w.take i++[w[i]])<=bR w:=by
   have:=kY (w.take i++[w[i]]) (w.drop (i+1))
   grind
  rw[c8]at this;omega
 have k:=f _ (ys a);rw[h.many]at g;have j:w[i].toNat<s.length:=by omega
 have b:(i:Int)∈bh w (w[i].toNat:Int):=eE a (by grind);rw[h.xx _ j]at b;have:=(cE b).2.2
 simp_all
theorem uQ{s:afe}{h}(a:h∈s):∃b ,s[s.idxOf h]=h:=⟨List.idxOf_lt_length_iff.2 a,List.getElem_idxOf (List.idxOf_lt_length_iff.2 a)⟩
theorem yZ{s:afe}(a:s.Nodup){i j hi}{hj:j<s.length}(e:s[i]=s[j]):i=j:=by
 rw[List.Nodup,List.pairwise_iff_getElem]at a
 grind
theorem xq:∀  l p w s ,Canon p w s->Canon (p++l) (xp l w s).1 (xp l w s).2
 |[],p,w,s,h=>by simpa[xp]using h
 | a :: l,p,w,s,h=>by
   have hlen:=h.len;rw[show p++a::l=(p++[a])++l by simp];unfold xp;split
   . next f=>
     obtain⟨i,t⟩:=uQ f;refine xq l _ _ _ ⟨by simp[hlen],?_,h.nd,λx hx=>by simp[h.sub x hx],λk c=>?_,?_⟩
     . rw[c8,h.many];omega
     . rw[fZ,fZ,h.xx k c,hlen]
       by_cases e:k=s.idxOf a
       . simp_all
       rw[KD (by omega),KD (λj=>e (yZ h.nd (hi:=c) (hj:=i) (by omega)))]
     rw[aam,ade,kD,aaR];exact⟨w,h.part,aab.2 ⟨_,zH.2 (by rw[h.many];omega),rfl⟩⟩
   next f=>
   refine xq l _ _ _ ⟨by simp[hlen],?_,?_,λx hx=>?_,λk c=>?_,?_⟩
   . rw[c8,h.many,aam];simp;omega
   . rw[aem]
     exact⟨h.nd,by simp,λx hx y u=>by grind⟩
   . rcases aan.1 hx with hx|hx
     . simp[h.sub x hx]
     simp_all
   . rw [fZ,fZ,hlen]
     rw[aam,ade]at c;by_cases e:k=s.length
     . subst e
       rw[Rp rfl];have m:(s++[a])[s.length]=a:=by simp
       rw[m,Rp rfl];congr 1
       have n:bh w (s.length:Int)=[]:=by
        rw[List.eq_nil_iff_forall_not_mem];intro x hx;obtain⟨o,q,g⟩:=cE hx;have b:x.toNat<w.length:=by omega
        rw[zD,zA b,acm]at g;have e:w=w.take x.toNat++(w[x.toNat]::w.drop (x.toNat+1)):=by rw[<-List.drop_eq_getElem_cons b,aeD]
        have:=kY (w.take x.toNat++[w[x.toNat]]) (w.drop (x.toNat+1));rw[adr,aeC,<-e,c8,h.many]at this;omega
       have r:bh p a=[]:=by
        rw[List.eq_nil_iff_forall_not_mem];intro x hx;obtain⟨o,q,g⟩:=cE hx;have b:x.toNat<p.length:=by omega
        rw[zD,zA b,acm]at g;exact f (g ▸ h.all _ (ys b))
       rw[n,r]
     have d:k<s.length:=by omega
     rw[KD (by omega),List.getElem_append_left d,KD (λj=>f (by simp_all)),h.xx k d]
   rw[aam,ade,kD,aaR];exact⟨w,h.part,aab.2 ⟨_,zH.2 (by rw[h.many];omega),rfl⟩⟩
theorem y8  p :∃w s,Canon p w s:=⟨_,_,by
 have:=xq p [] [] [] ⟨rfl,rfl,ael,by simp,λk a=>by simp at a,by simp[kD]⟩;simpa using this⟩
theorem lu:∀(m:Nat) (s:afe),s.Nodup->(∀x∈s,0<=x/\x<m)->s.length<=m
 | 0,s,_,h=>by
   cases s with
   |nil=>simp_all
   |cons a s=>have:=h a (by simp);omega
 | m+1,s,b,h=>by
   have c:=lu m (s.erase (m:Int)) (b.erase _) λx d=>by grind
   grind
abbrev uJ:yz:=⟨0,0,0,[],0,0⟩
def QN(f:Fr)(a b:yz):Prop:=rd f.roads a.place.toNat b.place.toNat+f.cJ*bM (aR a.marks) (aR b.marks)<=b.hour-a.hour
structure Seen(f0:Fr)(aX:Nat)(C H:afe)(ks:afe)(es last:List yz):Prop where
 len:ks.length=es.length
 Ts:∀x∈ks,0<=x/\x<aX
 r7:∀e∈es,bX f0.roads.length e=0
 cy:∀i,i<es.length->(es.getD i uJ).cy=C.getD (ks.getD i 0).toNat 0
 Rl:∀i,i<es.length->H.getD (ks.getD i 0).toNat 0∈bU f0 (es.getD i uJ)
 fit:∀i j,i<j->j<es.length->ks.getD i 0=ks.getD j 0->(∀m,i<m->m<j->ks.getD m 0≠ks.getD i 0)->QN f0 (es.getD i uJ) (es.getD j uJ)
 lst:∀i,i<es.length->(∀m,i<m->m<es.length->ks.getD m 0≠ks.getD i 0)->last.getD (ks.getD i 0).toNat uJ=es.getD i uJ
 Kw:∀k,k<aX->(last.getD k uJ).cy=C.getD k 0
 Vp:last.length=aX
theorem Wo{α:Type}  l  (x d:α)  i :(l++[x]).getD i d=if i<l.length then l.getD i d else if i=l.length then x else d:=by grind
theorem Seen.push{f0 aX C H ks es last}(h:Seen f0 aX C H ks es last){k n}(v:k<aX)(A:bX f0.roads.length n=0)(s:n.cy=(last.getD k uJ).cy)(B:H.getD k 0∈bU f0 n)(D:(k:Int)∈ks->QN f0 (last.getD k uJ) n):
 Seen f0 aX C H (ks++[(k:Int)]) (es++[n]) (last.set k n):=by
 have hlen:=h.len;have w:=h.Vp;have d:∀i,i<es.length->(es++[n]).getD i uJ=es.getD i uJ:=λi a=>by grind
 have y:(es++[n]).getD es.length uJ=n:=by simp_all
 have c:∀i,i<es.length->(ks++[(k:Int)]).getD i 0=ks.getD i 0:=λi a=>by grind
 have l:(ks++[(k:Int)]).getD es.length 0=(k:Int):=by simp_all
 have o:∀i,i<es.length->0<=ks.getD i 0/\ks.getD i 0<aX:=λi a=>by
  have f:i<ks.length:=by omega
  rw[zD,zA f];exact h.Ts _ (ys f)
 refine⟨by simp[hlen],λx hx=>?_,λe he=>?_,λi a=>?_,λi a=>?_,λi j p g he q=>?_,λi a q=>?_,λj g=>?_,by simp_all⟩
 . rcases aan.1 hx with hx|hx
   . exact h.Ts x hx
   simp_all
 . rcases aan.1 he with he|he
   . exact h.r7 e he
   simp_all
 . rw[aam,ade]at a
   by_cases e:i=es.length
   . subst e;rw[y,l,s,adq];exact h.Kw k v
   rw[d i (by omega),c i (by omega)];exact h.cy i (by omega)
 . rw[aam,ade]at a
   by_cases e:i=es.length
   . simp_all
   rw[d i (by omega),c i (by omega)];exact h.Rl i (by omega)
 . rw [aam,ade]at g
   have a:i<es.length:=by omega
   by_cases e:j=es.length
   . subst e
     rw[c i a,l]at he;have z:=h.lst i a λm t u=>by simp_all
     rw[he,adq]at z
     grind
   rw[c i a,c j (by omega)]at he;rw[d i a,d j (by omega)];refine h.fit i j p (by omega) he λm t u=>?_
   grind
 . rw[aam,ade]at a q
   by_cases e:i=es.length
   . simp_all
   have b:i<es.length:=by omega
   have r:=q es.length b (by omega);rw[l,c i b]at r;have E:=o i b;rw[d i b,c i b,zD,ach (by omega),<-List.getD_eq_getElem?_getD];refine h.lst i b λm t u=>?_
   grind
 by_cases e:j=k
 . subst e
   rw[zD,acn (by omega),acm,s];exact h.Kw j g
 rw[zD,ach (zs e),<-List.getD_eq_getElem?_getD];exact h.Kw j g
section
variable{f:Fr}{aX:Nat}{C H ks:afe}{last:List yz}
theorem YH(a:f.Good){i j}(hi:i<f.roads.length)(hj:j<f.roads.length):0<=rd f.roads i j:=by
 obtain⟨c,d⟩:=a.row hi;have b:j<f.roads[i].length:=by omega
 unfold rd
 simp_all
theorem QO(c:f.Good){a b:Int}(d:0<=a/\a<f.az.length)(hb:0<=b/\b<f.az.length)(h:Fit f a b):(aP f a).hour<=(aP f b).hour:=by
 have e:=lP (c.r7 _ (fS d));have g:=lP (c.r7 _ (fS hb));have hd:=c.cJ;have l:=YH c (i:=(aP f a).place.toNat) (j:=(aP f b).place.toNat) (by omega) (by omega);have k:=(Dw (iR (mV e.2.2.2.2.2)) (iR (mV g.2.2.2.2.2))).2.1;have m:=Int.mul_nonneg (show 0<=f.cJ by omega) k;unfold Fit eU at h
 grind
theorem Seen.pair(h:Seen f aX C H ks f.az last)(b:f.Good):∀  d i j ,j-i<=d->i<j->j<f.az.length->ks.getD i 0=ks.getD j 0->Fit f i j
 |0,i,j,hd,a,_,_=>by omega
 | d + 1,i,j,hd,a,k,l=>by
   by_cases q:∃m,i<m/\m<j/\ks.getD m 0=ks.getD i 0
   . obtain⟨m,c,e,g⟩:=q
     have n:=h.pair b d i m (by omega) c (by omega) g.symm;have o:=h.pair b d m j (by omega) e k (by omega);exact C9 b (by omega) (by omega) (by omega) n o
   have:=h.fit i j a k l λm c e g=>q ⟨m,c,e,g⟩
   unfold QN at this;unfold Fit eU;rw[show aP f (i:Int)=f.az.getD i uJ from rfl,show aP f (j:Int)=f.az.getD j uJ from rfl]
   simp_all
theorem Seen.one(h:Seen f aX C H ks f.az last)(m:f.Good){k}(l:bh ks k≠[]):jT f (bh ks k)=0:=by
 have c:∀n∈bh ks k,0<=n/\n<f.az.length/\ks.getD n.toNat 0=k:=λn e=>by have:=cE e;rw[h.len]at this;exact this
 have d:(bh ks k).Pairwise (Fit f):=by
  refine((sZ k ks 0).1).imp_of_mem λ{a b} i hb g=>?_
  have j:=c a i;have p:=c b hb;have:=h.pair m (b.toNat-a.toNat) a.toNat b.toNat (aav _) (by omega) (by omega) (by omega)
  grind
 have o:aM f (bh ks k)=bh ks k:=He (d.imp_of_mem λ{a b} i hb g=>QO m ⟨(c a i).1,(c a i).2.1⟩ ⟨(c b hb).1,(c b hb).2.1⟩ g);refine sX.2 ?_;rw[o];refine⟨?_,?_,pR d⟩
 . have q:∀n∈bh ks k,(aP f n).cy=C.getD k.toNat 0:=λn e=>by
    have j:=c n e;have:=h.cy n.toNat (by omega);rw[j.2.2]at this;exact this
   unfold dK
   grind
 unfold cO;simp only[aaU]
 have:H.getD k.toNat 0∈gy f (bh ks k):=(qJ l).2 λn e=>by
  have j:=c n e;have:=h.Rl n.toNat (by omega);rw[j.2.2]at this;exact this
 grind
theorem Seen.cN(h:Seen f aX C H ks f.az last)(c:f.Good)(l:(aX:Int)<=f.aX):∃w s,Canon ks w s/\w∈aJ f []:=by
 obtain⟨w,s,a⟩:=y8 ks;refine⟨w,s,a,?_⟩;rw[<-lr c,aaC,<-h.len];refine⟨a.part,?_⟩;unfold rQ;rw[zj,aau,a.many];have m:=lu aX s a.nd λx g=>h.Ts x (a.sub x g)
 refine⟨decide_eq_true (by omega),λk d=>?_⟩;have d:=zH.1 d;have b:k<s.length:=by omega
 rw[zR,a.xx k b];refine h.one c ?_;obtain⟨i,j,e⟩:=aaV.1 (a.sub _ (ys b));exact adt (eE j (by simp_all))
end
theorem Fr.Good.yl{f}(h:f.Good):check f=0:=by
 have c:=h.fr;have d:=h.to;have e:=h.le;have g:=h.cJ;have i:=h.aX;have j:=h.mT;have a:(bz f.aU 0 3 && bz f.dD 0 3)=true:=by simp[bz];omega
 have b:(bz f.cJ 1 6 && bz f.aX 1 6)=true:=by simp[bz];omega
 unfold Go.Proofs.YtebcbkhnlnkolaaGreatDoor.check;rw[KD (by simp[h.Js]),a,KD (by simp),KD (by omega),b,KD (by simp),KD (by omega)]
 exact rI h.r7
section
variable{L:aeJ}{n:Nat}
theorem um{p w s}(h:Canon p w s){i j}(hi:i<p.length)(hj:j<p.length)(e:p.getD i 0=p.getD j 0):jl i j w=true:=by
 have d:i<w.length:=by rw[h.len];exact hi
 have f:j<w.length:=by rw[h.len];exact hj
 have g:p.getD i 0=p[i]:=by simp_all
 have k:p.getD i 0∈s:=h.all _ (by simp_all)
 obtain⟨l,m⟩:=uQ k;have a:=h.xx _ l;rw[m]at a;have n:(i:Int)∈bh w ((s.idxOf (p.getD i 0):Nat):Int):=by rw[a];exact eE hi rfl
 have o:(j:Int)∈bh w ((s.idxOf (p.getD i 0):Nat):Int):=by rw[a];exact eE hj e.symm
 have b:=(cE n).2.2;have c:=(cE o).2.2;rw[adq]at b c;simp only[jl,zR,adq,b,c]
end
theorem Db  lt   x :∀r ,(eF lt x r).Perm (x::r)
 |[]=>List.Perm.refl _
 | y::r=>by
   unfold eF;split
   . exact((Db lt x r).cons y).trans (List.Perm.swap x y r)
   simp_all
theorem Jd  lt   l :(dJ lt l).Perm l:=by
 have key:∀(l r:afe),(l.foldl (λr x=>eF lt x r) r).Perm (l++r):=by
  intro l;induction l with
  |nil=>simp_all
  | cons a l b=>
    intro r;rw[aaS];refine(b _).trans (((Db lt a r).append_left l).trans ?_)
    simp_all
 simpa[dJ]using key l []
theorem jB  f   l :(aM f l).Perm l:=(List.reverse_perm _).trans (Jd _ _)
theorem Hf  f   l :(aM f l).Pairwise λa b=>(aP f a).hour<=(aP f b).hour:=by
 rw[lQ,List.pairwise_reverse]
 have key:∀(l r:afe),Dn (λn=>(aP f n).hour) r->Dn (λn=>(aP f n).hour) (l.foldl (λr x=>eF (Fe λn=>(aP f n).hour) x r) r):=by
  intro l;induction l with
  |nil=>simp_all
  |cons a l c=>intro r h;exact c _ (yU a h)
 exact key l [] List.Pairwise.nil
theorem yg{R}:∀{l:afe},l.Pairwise R->∀a∈l,∀b∈l,a≠b->R a b\/R b a
 |[],_,a,d,_,_,_=>by cases d
 | c::l,h,a,d,b,hb,e=>by
   obtain⟨j,i⟩:=aaK.1 h;rcases aaw.1 d with rfl|f
   . grind
   rcases aaw.1 hb with rfl|g
   . simp_all
   exact yg i a f b g e
theorem Tc:∀a:Fin 32,∀b:Fin 32,bM (a.val:Int) (b.val:Int)=bM (b.val:Int) (a.val:Int):=by decide +kernel
theorem Fr.Good.symm{f:Fr}(a:f.Good){i j}(hi:i<f.roads.length)(hj:j<f.roads.length):rd f.roads i j=rd f.roads j i:=by
 have h:=a.Js;unfold fT at h;split at h
 . cases h
 split at h
 . cases h
 split at h
 . omega
 split at h
 . cases h
 next q=>
 simp only[aaO,zH,not_exists,not_and]at q;have b:=q i hi j hj;unfold cD at b
 simp_all
theorem Td:∀a:Fin 32,bM (a.val:Int) (a.val:Int)=0:=by decide +kernel
theorem Fs{f}(a:f.Good){x}(b:0<=x/\x<f.az.length):eU f x x=false:=by
 have e:=lP (a.r7 _ (fS b));obtain⟨A,c⟩:=nD e.2.2.2.2.2;have p:=e.2.1
 have d:rd f.roads (aP f x).place.toNat (aP f x).place.toNat=0:=by
  have h:=a.Js;unfold fT at h;split at h
  . cases h
  split at h
  . cases h
  split at h
  . omega
  split at h
  . cases h
  next q=>
  simp only[aaO,zH,not_exists,not_and]at q;have g:=q (aP f x).place.toNat (by omega) (aP f x).place.toNat (by omega);unfold cD at g
  simp_all
 unfold eU;rw[c,Td,d];simp
theorem QP{f}(c:f.Good){a b}(g:0<=a/\a<f.az.length)(hb:0<=b/\b<f.az.length)(k:(aP f a).hour<=(aP f b).hour)(h:Fit f b a):Fit f a b:=by
 have d:=lP (c.r7 _ (fS g));have e:=lP (c.r7 _ (fS hb));have hd:=c.cJ;obtain⟨A,l⟩:=nD d.2.2.2.2.2;obtain⟨B,m⟩:=nD e.2.2.2.2.2;have n:=d.2.1;have o:=e.2.1;have p:=Tc A B;have q:=c.symm (i:=(aP f a).place.toNat) (j:=(aP f b).place.toNat) (by omega) (by omega);unfold Fit eU at h ⊢
 grind
structure y7  f  (l:afe):Prop where
 cy:∀a∈l,∀b∈l,(aP f a).cy=(aP f b).cy
 Rl:∃h,∀j∈l,h∈bU f (aP f j)
 fit:∀a∈l,∀b∈l,a≠b->Fit f a b\/Fit f b a
theorem qI{f}(u:f.Good){l}(y:l≠[])(o:l.Nodup)(p:∀n∈l,0<=n/\n<f.az.length):jT f l=0↔y7 f l:=by
 have v:=jB f l;have c:∀n,n∈aM f l↔n∈l:=λn=>v.mem_iff
 have r:=Hf f l;have m:(aM f l).Nodup:=v.nodup_iff.2 o;have g:aM f l≠[]:=λe=>by simp_all
 rw[sX];generalize aM f l=S at *;have z:S.getD 0 0∈S:=by grind
 constructor
 . rintro⟨w,s,A⟩
   unfold dK at w;rw[adj]at w;have B:∀x∈S,(aP f x).cy=(aP f (S.getD 0 0)).cy:=λx k=>by simp_all
   refine⟨λa i b hb=>by simp_all,?_,λa i b hb d=>yg (xn u (λn C=>p n ((c n).1 C)) A) a ((c a).2 i) b ((c b).2 hb) d⟩;unfold cO at s;simp only[aaU]at s;obtain⟨x,k⟩:=acf _ s;exact⟨x,λj t=>(qJ g).1 k j ((c j).2 t)⟩
 intro h;refine⟨?_,?_,pR ?_⟩
 . unfold dK
   rw[adj];intro x k;rw[h.cy x ((c x).1 k) _ ((c _).1 z)];simp
 . unfold cO
   simp only[aaU];obtain⟨x,k⟩:=h.Rl;have:x∈gy f S:=(qJ g).2 λj t=>k j ((c j).1 t)
   grind
 refine(r.and m).imp_of_mem λ{a b} i hb d=>?_
 have i:=(c a).1 i;have hb:=(c b).1 hb;rcases h.fit a i b hb d.2 with q|q
 . exact q
 exact QP u (p a i) (p b hb) d.1 q
theorem lJ  w   k :(bh w k).Nodup:=(sZ k w 0).1.imp λh=>by omega
theorem qH{w x}(h:x∈w):x<bR w:=by obtain⟨a,b,rfl⟩:=List.append_of_mem h;have:=kY (a++[x]) b;rw[adr,aeC,c8]at this;omega
section
variable{f x:Fr}{π ρ:afh}
theorem Bo{p w s}(h:Canon p w s){i j}(hi:i<p.length)(hj:j<p.length)(e:jl i j w=true):p.getD i 0=p.getD j 0:=by
 have a:i<w.length:=by rw[h.len];exact hi
 have b:j<w.length:=by rw[h.len];exact hj
 simp only[jl,zR,adq]at e;have f:w.getD i 0=w[i]:=by simp_all
 have m:=((nf _ _ h.part).2.1 _ (ys a)).1;have g:=qH (ys a);rw[h.many]at g;have k:w[i].toNat<s.length:=by omega
 have l:=h.xx _ k;have c:(i:Int)∈bh w ((w[i].toNat:Nat):Int):=eE a (by omega)
 have d:(j:Int)∈bh w ((w[i].toNat:Nat):Int):=eE b (by omega)
 rw[l]at c d;have n:=(cE c).2.2;have o:=(cE d).2.2
 simp_all
end
theorem iO{l:afe}{i}(h:i<l.length):l.getD i 0∈l:=by simp_all
theorem Jw{l:afe}{x}(h:x∈l):∃i,i<l.length/\l.getD i 0=x:=by obtain⟨i,a,e⟩:=aaV.1 h;exact⟨i,a,by simp_all⟩
structure mS(f x:Fr)(L:afe):Prop where
 roads:x.roads=f.roads
 fr:x.aU=f.aU
 to:x.dD=f.dD
 cJ:x.cJ=f.cJ
 aX:f.aX<=x.aX
 Ts:∀i∈L,0<=i/\i<f.az.length
 r7:x.az=L.map (aP f)
section
variable{f x:Fr}{L:afe}
theorem mS.len(h:mS f x L):x.az.length=L.length:=by rw[h.r7,aac]
theorem mS.at(h:mS f x L){j:Int}(b:0<=j/\j<L.length):aP x j=aP f (L.getD j.toNat 0):=by
 have a:j.toNat<L.length:=by omega
 unfold aP;rw[h.r7,zD,aaM,zA a,zD (l:=L),zA a];rfl
theorem mS.bU(h:mS f x L)(e:yz):bU x e=bU f e:=by unfold Go.Proofs.YtebcbkhnlnkolaaGreatDoor.bU iQ;rw[h.fr,h.to]
theorem mS.one(h:mS f x L)(m:x.Good){l l':afe}(e:∀j∈l',(0<=j/\j<L.length)/\L.getD j.toNat 0∈l)(i:y7 f l):y7 x l':=by
 have c:∀j∈l',aP x j=aP f (L.getD j.toNat 0):=λj k=>h.at (e j k).1
 refine⟨λa d b hb=>?_,?_,λa d b hb n=>?_⟩
 . rw[c a d,c b hb];exact i.cy _ (e a d).2 _ (e b hb).2
 . obtain⟨z,p⟩:=i.Rl
   exact⟨z,λj k=>by rw[h.bU,c j k];simp_all⟩
 by_cases g:L.getD a.toNat 0=L.getD b.toNat 0
 . have q:=Fs m (x:=b) (by rw[h.len];simp_all)
   have o:=c a d;rw[g,<-c b hb]at o;refine .inl ?_;unfold Fit eU at *
   simp_all
 have:=i.fit _ (e a d).2 _ (e b hb).2 g;unfold Fit eU at this ⊢;rw[c a d,c b hb,h.roads,h.cJ];exact this
theorem mS.cN(h:mS f x L)(E:f.Good)(u:x.Good){w}(F:w∈aJ f []):∃v∈aJ x [],∀i j ,i<L.length->j<L.length->jl i j v=jl (L.getD i 0) (L.getD j 0) w:=by
 rw[<-lr E,aaC]at F;obtain⟨y,z⟩:=F;obtain⟨wl,G,_⟩:=nf _ _ y;obtain⟨p,R⟩:∃p,p=L.map λj=>w.getD j.toNat 0:=⟨_,rfl⟩
 have g:p.length=L.length:=by simp_all
 have o:∀j,j<L.length->0<=L.getD j 0/\(L.getD j 0).toNat<w.length:=λj l=>by have:=h.Ts _ (iO l);omega
 have m:∀j,j<L.length->p.getD j 0=w.getD (L.getD j 0).toNat 0:=λj l=>by simp_all
 have r:∀c∈p,∃j,j<L.length/\p.getD j 0=c/\c∈w:=λc d=>by
  obtain⟨j,l,H⟩:=Jw d
  grind
 obtain⟨v,s,d⟩:=y8 p;have A:=z;unfold rQ at A;rw[zj,aau,zR]at A;refine⟨v,?_,λi j n l=>?_⟩
 . rw[<-lr u,aaC,h.len,<-g]
   refine⟨d.part,?_⟩;unfold rQ;rw[zj,aau,d.many];have J:=sY w
   have S:=lu (bR w).toNat s d.nd λc B=>by obtain⟨_,_,_,a⟩:=r c (d.sub c B);have:=G c a;have:=qH a;omega
   refine⟨decide_eq_true (by have:=h.aX;omega),λk T=>?_⟩
   have t:k<s.length:=by grind
   rw[zR,d.xx k t];obtain⟨j,l,e,a⟩:=r _ (d.sub _ (ys t));generalize s[k]=c at *;have K:=G c a;have M:=qH a;have b:=adk (A.2 c.toNat (zH.2 (by omega)))
   rw[show(c.toNat:Int)=c by omega]at b
   have C:bh w c≠[]:=adt (eE (i:=(L.getD j 0).toNat) (o j l).2 (by grind))
   have D:bh p c≠[]:=adt (eE (i:=j) (by omega) e)
   rw[qI E C (lJ w c) λi n=>by have:=cE n;omega]at b
   rw[qI u D (lJ p c) λi n=>by have:=cE n;rw[g,<-h.len]at this;omega]
   refine h.one u (λi n=>?_) b
   obtain⟨N,I,O⟩:=cE n;rw[g]at I;have P:=o i.toNat (by omega)
   refine⟨⟨N,I⟩,?_⟩;have:=eE (w:=w) (k:=c) (i:=(L.getD i.toNat 0).toNat) P.2 (by rw[<-m _ (by omega)];exact O)
   rwa [show((L.getD i.toNat 0).toNat:Int)=L.getD i.toNat 0 by omega]at this
 have Q:=m i n;have H:=m j l;rw[adB];constructor
 . intro q
   have:=Bo d (by omega) (by omega) q
   rw[Q,H]at this;simp only[jl,zR];exact this
 intro q;simp only[jl,zR]at q;exact um d (by omega) (by omega) (by omega)
end
end
section
open Go.bN Go.Conc
variable{m:Mo}{σ:ab}{KF:aeQ}
structure Way where
 a:Int
 b:Int
 aQ:Int
 aU:Int
 dD:Int
 deriving DecidableEq
structure BC where
 lost:yz
 town:Int
 hour:Int
 deriving DecidableEq
structure cC where
 fair:Fr
 aF:Int
 ways:List Way
 aj:List BC
 deriving DecidableEq
abbrev eM(x:Way):AV:=.agg [int x.a,int x.b,int x.aQ,int x.aU,int x.dD]
abbrev iC(c:BC):AV:=.agg [int c.lost.hour,int c.lost.place,int c.lost.cy,ints c.lost.marks,int c.lost.bd,int c.lost.im,int c.town,int c.hour]
abbrev xr(l:List Way):AV:=.sl 5 (l.map eM) .any
abbrev gS(l:List BC):AV:=.sl 8 (l.map iC) .any
abbrev Hg(w:cC):afk:=[kq w.fair.az,rows w.fair.roads,int w.fair.aU,int w.fair.dD,int w.fair.cJ,int w.fair.aX,int w.aF,xr w.ways,gS w.aj]
abbrev bS(w:cC):AV:=.agg (Hg w)
abbrev Te(b mb:Nat)(w:cC)(a c d:AV)(hole:aff)(o:Nat):AV:=.kp b [kq w.fair.az,rows w.fair.roads,int w.fair.aU,int w.fair.dD,int w.fair.cJ,int w.fair.aX,int w.aF,xr w.ways,gS w.aj,.lit (.int .i32 0),.lit (.int .u32 0),a,c,d,.map mb] hole o
def rW(aF:Int)(x:Way):Prop:=(0<=x.a/\x.a<aF)/\(0<=x.b/\x.b<aF)/\(1<=x.aQ/\x.aQ<=12)/\(0<=x.aU/\x.aU<=72)/\0<=x.dD/\x.dD<=72
def cY(h:Int)(x:Way):Int:=if h<x.aU then x.aU else h
def qD(h a b:Int)(x:Way)(best:Int):Int:=if(x.a≠a\/x.b≠b)/\(x.a≠b\/x.b≠a)then best else if cY h x<=x.dD then(if cY h x+x.aQ<best then cY h x+x.aQ else best)else best
def br(l:List Way)(h a b:Int):Int:=l.foldl (λc x=>qD h a b x c) 1048576
theorem Vq{h a b best x}(c:1<=x.aQ/\x.aQ<=12)(d:0<=h)(hb:0<=best/\best<=1048576):0<=qD h a b x best/\qD h a b x best<=1048576:=by
 have:0<=cY h x:=by unfold cY;omega
 unfold qD;omega
theorem lY{l h a b}(e:∀x∈l,1<=x.aQ/\x.aQ<=12)(f:0<=h):0<=br l h a b/\br l h a b<=1048576:=by
 have key:∀(l:List Way) (c:Int),(∀x∈l,1<=x.aQ/\x.aQ<=12)->(0<=c/\c<=1048576)->0<=l.foldl (λc x=>qD h a b x c) c/\l.foldl (λc x=>qD h a b x c) c<=1048576:=λl=>by
  induction l with
  |nil=>simp_all
  |cons x l g=>exact λc d i=>g _ (λy j=>d y (by simp[j])) (Vq (d x (by simp)) f i)
 exact key l _ e ⟨by omega,by omega⟩
theorem dH{σ:ab}{d x}(h:σ d=none):(σ.set d x).del d=σ:=by
 funext c;by_cases e:c=d
 . subst e;simp[ab.del,h]
 . simp[ab.set,ab.del,e]
theorem An{fb mb w E F G hole h a b}(R:∀i∈hole,9<=i)(S:w.ways.length<1152921504606846976)(z:∀x∈w.ways,rW w.aF x)(H:0<=h/\h<=1048576)(I:KF (.val (int (br w.ways h a b))) σ):aB prog m 54 [Te fb mb w E F G hole 0,int h,int a,int b] σ KF:=by
 have J:7∉hole:=λq=>by grind
 refine fs [] Tryz.func54 rfl (by kernel_rfl) ?_
 simp[Tryz.f54,J];apply rn;simp;refine aa.loop w.ways.length (λk s=>∃env,s=⟨env,σ,[],.no⟩/\env 1=int h/\env 2=int a/\env 3=int b/\env 9=int (br (w.ways.take k) h a b)/\env 17=xr w.ways/\env 18=int w.ways.length/\env 19=int k) ⟨_,rfl,by simp[br]⟩ ?_
 rintro T k _ U ⟨env,rfl,o,r,t,u,c,f,g⟩ v
 refine aa.runN lay [] 17 ?_;simp[f,g];apply aG.intro<;>intro j<;>simp at j<;>simp[u,c,g,j]
 . refine bO.intro λd hd=>?_
   simp
   change aa _ _ _ _ _ _ _ _ _
   refine aa.bf 11 (b:=d) (eM w.ways[k]) (ab.ai _ _ _) (by simp) rfl ?_
   rw[dH hd];obtain⟨⟨V,W⟩,⟨X,Y⟩,⟨Z,x6⟩,⟨x7,x8⟩,x9,K⟩:=z _ (ys j);have L:=lY (l:=w.ways.take k) (h:=h) (a:=a) (b:=b) (λx M=>(z x (adD M)).2.2.1) H.1
   have y:br (w.ways.take (k+1)) h a b=qD h a b w.ways[k] (br (w.ways.take k) h a b):=by unfold br;rw[za j,aaG];rfl
   obtain⟨N,A⟩:∃p,(w.ways[k].a !=a)=p:=⟨_,rfl⟩;obtain⟨O,B⟩:∃p,(w.ways[k].b !=b)=p:=⟨_,rfl⟩;obtain⟨P,C⟩:∃p,(w.ways[k].a !=b)=p:=⟨_,rfl⟩;obtain⟨Q,D⟩:∃p,(w.ways[k].b !=a)=p:=⟨_,rfl⟩;cases N<;>cases O<;>cases P<;>cases Q
   all_goals
    apply rn;simp[o,r,t,g,A,B,C,D]
   all_goals simp at A B C D
   all_goals try refine⟨by omega,v _ j ⟨_,rfl,?_⟩⟩
   all_goals try
    simp[o,r,t,u,c,f];rw[y,qD,Rp (by omega)]
   all_goals
    rw[show(if h<w.ways[k].aU then w.ways[k].aU else h)=cY h w.ways[k]from rfl]
    have f0:0<=cY h w.ways[k]/\cY h w.ways[k]<=1048576:=by unfold cY;split<;>omega
    refine aG.intro (λn=>?_) (λn=>?_)<;>(try simp[-Int.not_lt,-Int.not_le]at n)<;>(try simp[u,g,n])
    . have f1:-9223372036854775808<=cY h w.ways[k]+w.ways[k].aQ/\cY h w.ways[k]+w.ways[k].aQ<=9223372036854775807:=by omega
      simp[f1.1,f1.2];refine⟨by omega,v _ j ⟨_,rfl,?_⟩⟩
      simp[o,r,t,c,f];rw[y];exact (show qD h a b w.ways[k] (br (w.ways.take k) h a b)=_ by rw[qD,KD (by omega),Rp n]).symm
    . refine⟨by omega,v _ j ⟨_,rfl,?_⟩⟩
      simp[o,r,t,u,c,f];rw[y,qD,KD (by omega)]
      simp[n]
 . have e:k=w.ways.length:=by omega
   subst e;rw[aar];exact .done I
def fM(l:List Way)(a b:Nat)(t:afe):afe:=if t.getD a 0<1048576 then t.set b (if br l (t.getD a 0) a b<t.getD b 0 then br l (t.getD a 0) a b else t.getD b 0)else t
def od(l:List Way)(n a:Nat)(t:afe):afe:=(List.range n).foldl (λt b=>fM l a b t) t
def pass(l:List Way)(n:Nat)(t:afe):afe:=(List.range n).foldl (λt a=>od l n a t) t
def bV(l:List Way)(n:Nat):Nat->afe->afe
 |0,t=>t
 |k+1,t=>if pass l n t=t then t else bV l n k (pass l n t)
def mI(t:afe):Nat:=(t.foldl (·+·) 0).toNat
def begun(town hour:Int):afe:=[1048576,1048576,1048576,1048576].set town.toNat hour
def cQ(l:List Way)(n:Nat)(town hour:Int):afe:=bV l n (mI (begun town hour)+1) (begun town hour)
theorem jY{α:Type}(P:afe->Prop)  f  (a:∀t x,P t->P (f t x)):∀(l:List α)  t ,P t->P (l.foldl f t)
 |[],_,h=>h
 |x::l,t,h=>jY P f a l _ (a t x h)
def xW(t:afe):Prop:=t.length=4/\∀i,0<=t.getD i 0/\t.getD i 0<=1048576
theorem jJ{t:afe}{b i v}:(t.set b v).getD i 0=if i=b/\b<t.length then v else t.getD i 0:=by grind
theorem xW.to{l}(c:∀x∈l,1<=x.aQ/\x.aQ<=12){a b t}(h:xW t):xW (fM l a b t):=by
 unfold fM;split
 . refine⟨by rw[ada];exact h.1,λi=>?_⟩
   rw[jJ];split
   . have:=lY (h:=t.getD a 0) (a:=a) (b:=b) c (h.2 a).1
     split
     . exact this
     exact h.2 b
   exact h.2 i
 exact h
theorem xW.from{l}(b:∀x∈l,1<=x.aQ/\x.aQ<=12){n a t}(h:xW t):xW (od l n a t):=jY xW _ (λ_ _ h=>h.to b) _ _ h
theorem xW.pass{l:List Way}(a:∀x∈l,1<=x.aQ/\x.aQ<=12){n:Nat}{t:afe}(h:xW t):xW (pass l n t):=jY xW _ (λ_ _ h=>h.from a) _ _ h
def ew(a t:afe):Prop:=a.length=t.length/\∀i,a.getD i 0<=t.getD i 0
theorem ew.trans{a b c}(h:ew a b)(d:ew b c):ew a c:=⟨h.1.trans d.1,λi=>adm (h.2 i) (d.2 i)⟩
theorem wU  l   a b   t :ew (fM l a b t) t:=by
 unfold fM;split
 . refine⟨ada,λi=>?_⟩
   grind
 exact⟨rfl,λi=>aat _⟩
theorem sL  l   n a   t :ew (od l n a t) t:=jY (ew · t) _ (λu b h=>(wU l a b u).trans h) _ _ ⟨rfl,λi=>aat _⟩
theorem iY  l   n   t :ew (pass l n t) t:=jY (ew · t) _ (λu a h=>(sL l n a u).trans h) _ _ ⟨rfl,λi=>aat _⟩
theorem vA{a t}(h:ew a t)(d:xW a)(c:xW t)(e:a≠t):mI a<mI t:=by
 obtain⟨f,b⟩:=d;obtain⟨g,q⟩:=c
 match a,t,f,g with
 | [r,s,u,v],[w,x,y,z],_,_=>
   have i:=h.2 0;have j:=h.2 1;have k:=h.2 2;have l:=h.2 3;have m:=b 0;have n:=b 1;have o:=b 2;have p:=b 3;simp at i j k l m n o p;unfold mI
   grind
theorem rL{l}(a:∀x∈l,1<=x.aQ/\x.aQ<=12){n}:∀  k   t ,xW t->mI t<k->bV l n k t=bV l n (mI t+1) t
 |0,t,_,h=>by omega
 | k+1,t,b,h=>by
   show(if pass l n t=t then t else bV l n k (pass l n t))=if pass l n t=t then t else bV l n (mI t) (pass l n t);split
   . rfl
   next c=>
   have d:=vA (iY l n t) (b.pass a) b c;rw[rL a k _ (b.pass a) (by omega),rL a (mI t) _ (b.pass a) d]
 termination_by k=>k
theorem Hh{l}(a:∀x∈l,1<=x.aQ/\x.aQ<=12){n t}(b:xW t):bV l n (mI t+1) t=if pass l n t=t then t else bV l n (mI (pass l n t)+1) (pass l n t):=by
 show(if pass l n t=t then t else bV l n (mI t) (pass l n t))=_;split
 . rfl
 next c=>exact rL a _ _ (b.pass a) (vA (iY l n t) (b.pass a) b c)
theorem nu{town hour}(a:0<=hour/\hour<=72):xW (begun town hour):=by
 refine⟨by simp[begun],λi=>?_⟩;unfold begun;rw[jJ];split
 . omega
 match i with
 |0=>simp
 |1=>simp
 |2=>simp
 |3=>simp
 |i+4=>simp
theorem ko{l}(a:∀x∈l,1<=x.aQ/\x.aQ<=12){n}:∀  k   t ,xW t->xW (bV l n k t)
 |0,_,h=>h
 | k+1,t,h=>by
   unfold bV;split
   . exact h
   exact ko a k _ (h.pass a)
theorem EY{l}(e:∀x∈l,1<=x.aQ/\x.aQ<=12){n town hour}(f:0<=hour/\hour<=72):∃a b c d,cQ l n town hour=[a,b,c,d]:=by
 have:=(ko e (n:=n) (mI (begun town hour)+1) _ (nu (town:=town) f)).1;unfold cQ
 match bV l n (mI (begun town hour)+1) (begun town hour),this with
 |[a,b,c,d],_=>simp_all
theorem YI:T3 prog 188 3:=⟨by kernel_rfl,by kernel_rfl,by kernel_rfl⟩
theorem Je{fb mb w U V W hole town hour}(hh:∀i∈hole,9<=i)(hl:w.ways.length<1152921504606846976)(hw:∀x∈w.ways,rW w.aF x)(hn:1<=w.aF/\w.aF<=4)(ht:0<=town/\town<w.aF)(h0:0<=hour/\hour<=72)
 (hK:∀σ',σ.Le σ'->KF (.val (.agg ((cQ w.ways w.aF.toNat town hour).map int))) σ'):aB prog m 103 [Te fb mb w U V W hole 0,int town,int hour] σ KF:=by
 have n6:6∉hole:=λq=>by grind
 refine aB.start lay [6,7,9] Ym 3 Tryz.func103 rfl rfl (by rfl) (by kernel_rfl) ?_
 simp[Tryz.f103];refine bO.intro λr hr=>?_
 simp;refine bO.intro λd hd=>?_
 obtain⟨n1,n2,hd⟩:=ab.aS hd;simp;have b4:town<4:=by omega
 have b5:town.toNat<4:=by omega
 have b6:town<=3:=by omega
 refine aa.xj ?_;refine aa.run lay [6,7,9] ?_;simp;refine aa.again (by kernel_rfl) ?_
 refine aa.run lay [6,7,9] ?_;simp;refine aa.again (by kernel_rfl) ?_
 refine aa.run lay [6,7,9] ?_;simp;refine aa.again (by kernel_rfl) ?_
 refine aa.run lay [6,7,9] ?_;simp;refine aa.again (by kernel_rfl) ?_
 refine aa.runN lay [6,7,9] 16 ?_;simp[ht.1,b4,b5,b6]
 change aa _ _ _ _ _ _ _ _ _
 obtain⟨X,J⟩:∃T,T=begun town hour:=⟨_,rfl⟩;have hc:([int 1048576,int 1048576,int 1048576,int 1048576]:afk).set town.toNat (int hour)=X.map int:=by rw[J];simp[begun,adF]
 rw[hc];have a7:xW X:=J ▸ nu h0;have N:∀x∈w.ways,1<=x.aQ/\x.aQ<=12:=λx hx=>(hw x hx).2.2.1
 refine aa.lower (λa s=>∃env t,s=⟨env,(σ.set r (.cells [int 0,int 0,int 0,int 0])).set d (.cells (t.map int)),[],.no⟩/\env 0=Te fb mb w U V W hole 0/\env 6=.ref r 0/\env 7=.ref d 0/\xW t/\mI t=a/\bV w.ways w.aF.toNat (mI t+1) t=cQ w.ways w.aF.toNat town hour) (mI X) ⟨_,X,rfl,by simp,by simp,by simp,a7,rfl,by rw[J];rfl⟩ ?_
 rintro a _ ⟨env,t,rfl,E,F,g,Y,rfl,I⟩ ih
 obtain⟨h,l,p,y,rfl⟩:∃h l p y,t=[h,l,p,y]:=by
  match t,Y.1 with
  |[h,l,p,y],_=>grind
 refine aa.runN lay [6,7,9] 5 ?_;simp[g];refine bO.intro λo Z=>?_
 obtain⟨m1,m2,Z⟩:=ab.aS Z;obtain⟨m3,m4,Z⟩:=ab.aS Z;simp
 change aa _ _ _ _ _ _ _ _ _
 refine aa.bf 9 (b:=o) (.agg [int h,int l,int p,int y]) (ab.ai _ _ _) (by simp) rfl ?_
 rw[dH (by omega)]
 refine aa.run lay [6,7,9] ?_;simp[E,n6];refine aa.loop w.aF.toNat (λk s=>∃env u,s=⟨env,(σ.set r (.cells [int 0,int 0,int 0,int 0])).set d (.cells (u.map int)),[],.no⟩/\env 0=Te fb mb w U V W hole 0/\env 6=.ref r 0/\env 7=.ref d 0/\env 9=.cp (.agg [int h,int l,int p,int y]) 0/\env 26=int w.aF/\env 27=int k/\xW u/\u=(List.range k).foldl (λt a=>od w.ways w.aF.toNat a t) [h,l,p,y]) ⟨_,[h,l,p,y],rfl,by simp[E],by simp[F],by simp[g],by simp,by simp,by simp,Y,rfl⟩ ?_
 rintro cc k _ hk ⟨env,u,rfl,E,F,g,M,z,f,hU,hu⟩ a8
 refine aa.runN lay [6,7] 17 ?_;simp[z,f];apply aG.intro<;>intro g1<;>simp at g1<;>simp[E,g,M,f,g1]
 . change aa _ _ _ _ _ _ _ _ _
   refine aa.run lay [6,7,9] ?_;simp[n6];refine aa.loop w.aF.toNat (λj s=>∃env v,s=⟨env,(σ.set r (.cells [int 0,int 0,int 0,int 0])).set d (.cells (v.map int)),[],.no⟩/\env 0=Te fb mb w U V W hole 0/\env 6=.ref r 0/\env 7=.ref d 0/\env 9=.cp (.agg [int h,int l,int p,int y]) 0/\env 10=int k/\env 26=int w.aF/\env 27=int k/\env 34=int w.aF/\env 35=int j/\xW v/\v=(List.range j).foldl (λt b=>fM w.ways k b t) u) ⟨_,u,rfl,by simp[E],by simp[F],by simp[g],by simp[M],by simp,by simp[z],by simp[f],by simp,by simp,hU,rfl⟩ ?_
   rintro cc j _ hj ⟨env,v,rfl,E,F,g,M,cu,z,f,K,G,H,hv⟩ O
   refine aa.runN lay [6,7] 17 ?_;simp[K,G];apply aG.intro<;>intro g2<;>simp at g2<;>simp[cu,f,G,g2]
   . have k4:k<4:=by omega
     have j4:j<4:=by omega
     have k5:k<v.length:=by rw[H.1];exact k4
     have j5:j<v.length:=by rw[H.1];exact j4
     have L:v.getD k 0=v[k]:=by simp[k5]
     have a9:v.getD j 0=v[j]:=by simp[j5]
     have i4:(k:Int)<4:=by omega
     have l4:(j:Int)<4:=by omega
     have j3:j<=3:=by omega
     refine aa.runN lay [6,7] 5 ?_;simp[g,H.1,k4,i4];apply aG.intro<;>intro g3<;>simp at g3<;>(try simp[g3])
     . change aa _ _ _ _ _ _ _ _ _
       refine aa.run lay [6,7] ?_;simp[E,g,cu,H.1,k4,j4,i4,l4];have P:=H.2 k;rw[L]at P;have Q:(v.map int).set j (int (if br w.ways v[k] k j<v[j]then br w.ways v[k] k j else v[j]))=(fM w.ways k j v).map int:=by rw[fM,L,a9,Rp g3,adF]
       refine⟨?_,?_,?_⟩
       all_goals
        refine cf Tryz.func54 rfl (An hh hl hw P ?_);refine aK.go lay [6,7] ?_;simp[H.1,j4,j3];rw[Q];refine aa.run lay [6,7] ?_;simp[G];refine⟨by omega,O _ (by omega) ⟨_,fM w.ways k j v,rfl,?_,?_,?_,?_,?_,?_,?_,?_,?_,H.to N,?_⟩⟩
        rotate_right
        . rw[aaB,aaG,<-hv];rfl
        all_goals simp[E,F,g,M,cu,z,f,K]
     change aa _ _ _ _ _ _ _ _ _
     refine aa.run lay [6,7] ?_;simp[G];refine⟨by omega,O _ (by omega) ⟨_,v,rfl,?_,?_,?_,?_,?_,?_,?_,?_,?_,H,?_⟩⟩
     rotate_right
     . rw[aaB,aaG,<-hv]
       show v=fM w.ways k j v;rw[fM,L,KD (by omega)]
     all_goals simp[E,F,g,M,cu,z,f,K]
   have ej:j=w.aF.toNat:=by omega
   subst ej;refine⟨by omega,a8 _ (by omega) ⟨_,v,rfl,?_,?_,?_,?_,?_,?_,H,?_⟩⟩
   rotate_right
   . rw[aaB,aaG,<-hu]
     exact hv
   all_goals simp[E,F,g,M,z]
 have ek:k=w.aF.toNat:=by omega
 subst ek
 obtain⟨A,B,C,D,rfl⟩:∃A B C D,u=[A,B,C,D]:=by
  match u,hU.1 with
  |[A,B,C,D],_=>exact⟨A,B,C,D,rfl⟩
 have R:=Hh N (n:=w.aF.toNat) Y;rw[show pass w.ways w.aF.toNat [h,l,p,y]=[A,B,C,D]from hu.symm]at R
 refine⟨by simp,?_⟩
 refine IL lay YI pQ rfl rfl (a:=A) (b:=B) (c:=C) (d:=D) (a':=h) (b':=l) (c':=p) (d':=y) rfl (by simp) (by simp) ?_
 cases e:(A==h && (B==l && (C==p && D==y)))
 . have S:¬([A,B,C,D]=[h,l,p,y]):=λq=>by simp at q;simp[q]at e
   rw[KD S,I]at R;refine aa.runN lay [6,7] 2 ?_;simp
   change aa _ _ _ _ _ _ _ _ _
   refine aa.goto rfl (by kernel_rfl) ?_
   refine aa.runN lay [6,7,9] 2 ?_;simp;refine ih (mI [A,B,C,D]) _ (vA (hu.symm ▸ iY w.ways w.aF.toNat [h,l,p,y]) hU Y S) ⟨_,[A,B,C,D],rfl,?_,?_,?_,hU,rfl,R.symm⟩<;>simp[E,F,g]
 simp at e;obtain⟨rfl,rfl,rfl,rfl⟩:=e;rw[Rp rfl,I]at R;refine aa.run lay [6,7,9] ?_;simp[F,g,n2,ab.ah];refine .done ?_;have:=hK _ (ab.fK (b:=r) (x:=.cells [int A,int B,int C,int D]) (ab.fK (b:=d) (x:=.cells [int A,int B,int C,int D]) (ab.fK (b:=r) (x:=.cells [int 0,int 0,int 0,int 0]) (ab.le_refl σ) hr) hd) hr);rw[R]at this;exact this
theorem fD{a lo hi}(h:KF (.val (bool (bz a lo hi))) σ):aB prog m 76 [int a,int lo,int hi] σ KF:=by
 refine fs [] Tryz.func76 rfl (by kernel_rfl) ?_;simp[Tryz.f76];unfold bz at h;by_cases g:lo<=a
 . simp[g]
   refine .done ?_
   simp_all
 simp[g];refine .done ?_
 simp_all
theorem lN{x}(h:KF (.val (ints (aD x))) σ):aB prog m 50 [u8 x] σ KF:=by
 refine fs [] Tryz.func50 rfl (by kernel_rfl) ?_;simp[Tryz.f50];refine aa.loop 6 (λk s=>∃env b,s=⟨env,b,[],.no⟩/\env 0=u8 x/\env 5=int k/\Tok σ b (env 3) 1 ((((List.range k).map λn:Nat=>(n:Int)).filter λn=>ik x n).map int)) ⟨_,_,rfl,by simp,by simp,.nil σ 1⟩ ?_;rintro l k _ o ⟨env,b,rfl,d,c,a⟩ f;rcases aaA k 6 with g1|g1
 . have e:(k:Int)<6:=by omega
   have p:(((List.range k).map λn:Nat=>(n:Int)).filter λn=>ik x n).length<=k:=by grind
   have q:(((List.range (k+1)).map λn:Nat=>(n:Int)).filter λn=>ik x n)=(((List.range k).map λn:Nat=>(n:Int)).filter λn=>ik x n)++if ik x k then[(k:Int)]else[]:=by
    rw[aaB,aaq,aca]
    grind
   apply rn;simp[d,c,e,xk];have g:ik x k=(GU (x.fdiv (2 ^ min k IntKind.u8.bits)) 1==1):=by simp[ik]
   rw[<-g];cases hb:ik x k
   . simp[c]
     refine⟨by omega,f _ g1 ⟨_,_,rfl,by simp[d],by simp,?_⟩⟩
     simp_all
   simp;refine aN lay rfl rfl rfl cK rfl cK rfl pQ (by decide) (by grind) (σ0:=σ) (es:=(((List.range k).map λn:Nat=>(n:Int)).filter λn=>ik x n).map int) (xs:=[int k]) (by simp_all) (.inr ⟨_,rfl⟩) λr i j=>?_
   apply rn;simp[c];refine⟨by omega,f _ g1 ⟨_,_,rfl,by simp[d],by simp,?_⟩⟩
   simp_all
 have:k=6:=by omega
 subst this;apply rn;simp[c];exact .px a.W (.less a.1 (.done h))
abbrev m8(n:Nat):afe:=(List.range n).map λn:Nat=>(n:Int)
theorem xu{n}(j:n<=1000)(h:KF (.val (ints (m8 n))) σ):aB prog m 74 [int n] σ KF:=by
 refine fs [] Tryz.func74 rfl (by kernel_rfl) ?_;simp[Tryz.f74];refine aa.loop n (λk s=>∃env b,s=⟨env,b,[],.no⟩/\env 5=int n/\env 6=int k/\Tok σ b (env 3) 1 ((m8 k).map int)) ⟨_,_,rfl,by simp,by simp,.nil σ 1⟩ ?_;rintro l k _ o ⟨env,b,rfl,c,d,a⟩ g;rcases aaA k n with g1|g1
 . have e:(k:Int)<n:=by omega
   have f1:-9223372036854775808<=(k:Int)+1/\(k:Int)+1<=9223372036854775807:=by omega
   apply rn;simp[c,d,e];refine aN lay rfl rfl rfl cK rfl cK rfl pQ (by decide) (by grind) (σ0:=σ) (es:=(m8 k).map int) (xs:=[int k]) (by simp_all) (.inr ⟨_,rfl⟩) λp i f=>?_
   apply rn;simp[d];refine⟨by omega,g _ g1 ⟨_,_,rfl,by simp[c],by simp,?_⟩⟩;rw[show m8 (k+1)=m8 k++[(k:Int)]by unfold m8;rw[aaB,aaq];rfl,aaq];exact f
 have:k=n:=by omega
 subst this;apply rn;simp[c,d];exact .px a.W (.less a.1 (.done h))
theorem QQ(h:KF (.val (.agg [u8 1,u8 2,u8 4])) σ):aB prog m 87 [] σ KF:=by
 refine aB.II lay [] [] 3 0 Tryz.func87 rfl rfl (by rfl) (by kernel_rfl) ?_;simp[Tryz.f87];refine bO.intro λc a=>?_
 simp;change aa _ _ _ _ _ _ _ _ _;refine aa.runN lay [] 3 ?_;simp;change aa _ _ _ _ _ _ _ _ _;refine aa.op rfl (cH rfl) (by simp) (λc=>by simp) (sV lay rfl Yg rfl Pl (l:=[u8 1,u8 2,u8 4]) (by simp) rfl ?_);apply rn;simp;refine .less ?_ (.done h);exact ab.fK (ab.le_refl _) a
theorem Jf{n}{t:Nat}(a:t=if n=1 then 98 else if n=3 then 241 else 167)(h:KF (.val (.ou t (.agg []))) σ):aB prog m 115 [int n] σ KF:=by
 subst a;refine fs [] Tryz.func115 rfl (by kernel_rfl) ?_;simp[Tryz.f115];by_cases g:n=1
 . subst g
   simp;exact .done h
 by_cases b:n=3
 . subst b
   simp;exact .done h
 have c:(n==1)=false:=by grind
 have d:(n==3)=false:=by simp_all
 simp[c,d];refine .done ?_
 simp_all
abbrev Bp(l:List BC):List yz:=l.map (·.lost)
theorem QR{l}(p:l.length<=1000)(h:KF (.val (kq (Bp l))) σ):aB prog m 112 [gS l] σ KF:=by
 refine fs [] Tryz.func112 rfl (by kernel_rfl) ?_;simp[Tryz.f112];refine aa.loop l.length (λk s=>∃env c,s=⟨env,c,[],.no⟩/\env 6=gS l/\env 7=int l.length/\env 8=int k/\Tok σ c (env 3) 6 ((Bp (l.take k)).map bj)) ⟨_,_,rfl,by simp,by simp,by simp,.nil σ 6⟩ ?_;rintro q k _ r ⟨env,c,rfl,j,e,f,a⟩ n;rcases aaA k l.length with g1|g1
 . have g:(k:Int)<l.length:=by omega
   refine aa.runN lay [] 17 ?_;simp[j,e,f,g1,g];refine bO.intro λd hd=>?_
   simp;change aa _ _ _ _ _ _ _ _ _;refine aa.runN lay [] 1 ?_;simp;change aa _ _ _ _ _ _ _ _ _;refine aa.bf 5 (b:=d) (iC l[k]) (ab.ai _ _ _) (by simp) rfl ?_;rw[dH hd];apply rn;simp;refine aN lay rfl rfl rfl nX rfl nX rfl Ap (by decide) (by grind) (σ0:=σ) (es:=(Bp (l.take k)).map bj) (xs:=[bj l[k].lost]) (by simp_all) (.inr ⟨_,rfl⟩) λt o i=>?_
   apply rn;simp[f];refine⟨by omega,n _ g1 ⟨_,_,rfl,by simp[j],by simp[e],by simp,?_⟩⟩;rw[show(Bp (l.take (k+1))).map bj=(Bp (l.take k)).map bj++[bj l[k].lost]by unfold Bp;rw[za g1,aaq,aaq];rfl];exact i
 have:k=l.length:=by omega
 subst this;apply rn;simp[e,f];rw[aar]at a;exact .px a.W (.less a.1 (.done h))
theorem B2{l}(f:l.length<=1000)(h:∀a σ',Tok σ σ' a 6 (l.map bj)->KF (.val a) σ'):aB prog m 128 [kq l] σ KF:=by
 refine fs [] Tryz.func128 rfl (by kernel_rfl) ?_;simp[Tryz.f128];refine DU (es:=l.map bj) (sp:=.any) (kk:=6) lay rfl nX rfl rfl (by simp) (.inl rfl) (λb=>?_) ?_
 . have:l=[]:=by simp_all
   subst this;have c:(BinOp.eql==BinOp.eql)=true:=rfl;apply rn;simp;exact .done (h _ _ (.nil σ 6))
 have c:(BinOp.eql==BinOp.neq)=false:=rfl;apply rn;simp[c];refine aN lay rfl rfl rfl nX rfl nX rfl Ap (by decide) (by grind) (σ0:=σ) (es:=[]) (xs:=l.map bj) ⟨ab.le_refl _,.inr (.inl (by simp))⟩ (.inr ⟨_,rfl⟩) λg d e=>?_
 apply rn;simp;exact .done (h _ _ (by simp_all))
theorem Hi{f l}(u:f.az.length+l.length<=1000)(h:KF (.val (bF {f with az:=f.az++l})) σ):aB prog m 97 [bF f,kq l] σ KF:=by
 refine aB.start lay [2] [] 2 Tryz.func97 rfl rfl (by rfl) (by kernel_rfl) ?_;simp[Tryz.f97];refine bO.intro λb hb=>?_
 simp;refine bO.intro λd hd=>?_
 obtain⟨o,j,hd⟩:=ab.aS hd;simp[j,ab.ah];refine cf Tryz.func128 rfl (B2 (by omega) λa p q=>?_);refine aa.run lay [2] ?_;simp;refine aN lay rfl rfl rfl nX rfl nX rfl Ap (by decide) (by grind) (es:=f.az.map bj) (xs:=l.map bj) q (.inr ⟨_,rfl⟩) λa' i g=>?_
 rw[<-List.map_append]at g;generalize f.az++l=L at h g;refine aa.Am 9 (a':=kq L) (by simpa using g.W) ?_;have r:i b=some (.cells (Ko f)):=g.1 _ _ (by simp[j,ab.ah]);have s:i d=some (.cells [.lit (.slice none 0 0),.lit (.slice none 0 0),int 0,int 0,int 0,int 0]):=g.1 _ _ (by simp);refine aa.run lay [2] ?_;simp[r,s,o,ab.ah];refine .less (λc x t=>?_) (.done h);have k:c≠b:=λe=>by simp_all
 have n:c≠d:=λe=>by simp_all
 rw[ab.ah _ _ n,ab.ah _ _ k];exact g.1 _ _ (by rw[ab.ah _ _ n,ab.ah _ _ k];exact t)
theorem Bq(h:KF (.val (int 0)) σ):aB prog m 107 [.lit .nilIface] σ KF:=by
 refine fs [] Tryz.func107 rfl (by kernel_rfl) ?_;simp[Tryz.f107];refine bO.intro λb hb=>?_
 simp;refine cf Tryz.func149 rfl (Yz ?_);apply rn;simp;exact .less (by repeat (first|exact ab.le_refl _|assumption|refine ab.fK ?_ (by assumption)|refine ab.nM ?_ (by assumption))) (.done h)
theorem ui{f}(a:f.Fits)(b:check f=0)(h:KF (.val (.lit .nilIface)) σ):aB prog m 108 [bF f] σ KF:=by
 refine fs [] Tryz.func108 rfl (by kernel_rfl) ?_;simp[Tryz.f108];refine cf Tryz.func116 rfl (GW a ?_);apply rn;simp[b];exact .done h
def kF(t:Int)(x:Way):Int:=if bz x.a 0 (t-1)=false then 3 else if bz x.b 0 (t-1)=false then 3 else if x.a=x.b then 8 else if bz x.aQ 1 12=false then 1 else if bz x.aU 0 72=false then 1 else if bz x.dD 0 72=false then 1 else if x.aU>x.dD then 5 else 0
theorem EZ{x t}(i:0<=t/\t<=100)(h:KF (.val (int (kF t x))) σ):aB prog m 109 [eM x,int t] σ KF:=by
 unfold kF at h;refine fs [] Tryz.func109 rfl (by kernel_rfl) ?_;simp[Tryz.f109];refine⟨by omega,?_⟩;refine cf Tryz.func76 rfl (fD ?_);apply rn;simp;refine tL.intro (λa=>?_) (λa=>?_)<;>(try simp at a)<;>(try simp[a]at h)<;>(try simp[a])<;>(try exact .done h);refine⟨by omega,?_⟩;refine cf Tryz.func76 rfl (fD ?_);apply rn;simp;refine aG.intro (λb=>?_) (λb=>?_)<;>(try simp at b)<;>(try simp[b]at h)<;>(try simp[b])<;>(try exact .done h);refine aG.intro (λc=>?_) (λc=>?_)<;>(try simp at c)<;>(try simp[c]at h)<;>(try simp[c])<;>(try exact .done h);refine cf Tryz.func76 rfl (fD ?_);apply rn;simp;refine tL.intro (λd=>?_) (λd=>?_)<;>(try simp at d)<;>(try simp[d]at h)<;>(try simp[d])<;>(try exact .done h)
 refine cf Tryz.func76 rfl (fD ?_);apply rn;simp;refine tL.intro (λe=>?_) (λe=>?_)<;>(try simp at e)<;>(try simp[e]at h)<;>(try simp[e])<;>(try exact .done h);refine cf Tryz.func76 rfl (fD ?_);apply rn;simp;refine aG.intro (λf=>?_) (λf=>?_)<;>(try simp at f)<;>(try simp[f]at h)<;>(try simp[f])<;>(try exact .done h);refine aG.intro (λg=>?_) (λg=>?_)<;>(try simp[-Int.not_lt,-Int.not_le]at g)<;>(try simp[g]at h)<;>(try simp[g])<;>(try exact .done h)
def eh{α:Type}(g:α->Int):List α->Int
 |[]=>0
 |x::l=>if g x=0 then eh g l else g x
theorem Dc{α}  g  (l:List α)  i   h :eh g (l.drop i)=if g l[i]=0 then eh g (l.drop (i+1))else g l[i]:=by rw[ace h,eh]
abbrev lone(f:Fr)(e:yz):Fr:={f with az:=[e]}
abbrev dS(w:cC):Fr:={w.fair with az:=w.fair.az++Bp w.aj}
def uR(w:cC)(c:BC):Int:=if bz c.town 0 (w.aF-1)=false then 3 else if bz c.hour 0 72=false then 1 else if c.hour<c.lost.hour then 5 else 0
def fJ(w:cC):Int:=if bz w.aF 1 4=false then 1 else if(6:Int)<w.ways.length then 6 else if eh (kF w.aF) w.ways≠0 then eh (kF w.aF) w.ways else if(3:Int)<w.aj.length then 6 else if eh (uR w) w.aj≠0 then eh (uR w) w.aj
 else if(6:Int)<(w.fair.az.length:Int)+w.aj.length then 6 else if gX (dS w)=0 then 9 else 0
structure cC.pv(w:cC):Prop where
 fits:w.fair.Fits
 yl:check w.fair=0
 Tt:∀c∈w.aj,(lone w.fair c.lost).Fits/\check (lone w.fair c.lost)=0
 ways:w.ways.length<1152921504606846976
 aj:w.aj.length<1152921504606846976
theorem Vr{es sp l}:(AV.agg (.sl 6 es sp::l)).W (.agg (.sl 6 es .any::l)):=nY rfl λi x y b a=>by
 cases i with
 |zero=>simp at b a;subst b;subst a;exact eZ _ _ _
 |succ i=>simp at b a;rw[b]at a;cases a;exact .refl _
theorem E0{w c}(j:0<=w.aF/\w.aF<=100)(f:(lone w.fair c.lost).Fits)(g:check (lone w.fair c.lost)=0)(h:KF (.val (int (uR w c))) σ):aB prog m 110 [bS w,iC c] σ KF:=by
 unfold uR at h;have i:Wl [AV.agg [.sl 6 [bj c.lost] .exact,rows w.fair.roads,int w.fair.aU,int w.fair.dD,int w.fair.cJ,int w.fair.aX]] [bF (lone w.fair c.lost)]:=.cons Vr .nil;refine aB.thaw ?_;refine fs [] Tryz.func110 rfl (by kernel_rfl) ?_;simp[Tryz.f110];refine bO.intro λb hb=>?_
 simp;refine bp Tryz.func108 rfl rfl i (ui f g ?_);apply rn;simp;refine cf Tryz.func107 rfl (Bq ?_);apply rn;simp
 replace h:=pZ.less (ab.fK (b:=b) (x:=.cells [.sl 6 [bj c.lost] .exact,rows w.fair.roads,int w.fair.aU,int w.fair.dD,int w.fair.cJ,int w.fair.aX]) (ab.le_refl _) hb) (.done h)
 refine⟨by omega,?_⟩;refine cf Tryz.func76 rfl (fD ?_);apply rn;simp;refine aG.intro (λa=>?_) (λa=>?_)<;>(try simp at a)<;>(try simp[a]at h)<;>(try simp[a])<;>(try exact .done h);refine cf Tryz.func76 rfl (fD ?_);apply rn;simp;refine aG.intro (λd=>?_) (λd=>?_)<;>(try simp at d)<;>(try simp[d]at h)<;>(try simp[d])<;>(try exact .done h);refine aG.intro (λe=>?_) (λe=>?_)<;>(try simp[-Int.not_lt,-Int.not_le]at e)<;>(try simp[e]at h)<;>(try simp[e])<;>(try exact .done h)
theorem gW{w}(b:w.pv)(f:w.fair.az.length+w.aj.length<=6):(dS w).Good:=by
 have a:=Fr.pw b.fits b.yl;refine⟨⟨?_,a.fits.roads,a.fits.row,λe he=>?_⟩,a.fr,a.to,a.le,a.cJ,a.aX,?_,λe he=>?_,a.Js⟩
 . grind
 . rcases aan.1 he with he|he
   . exact a.fits.marks e he
   obtain⟨c,d,rfl⟩:=aab.1 he;exact(b.Tt c d).1.marks _ (lb.2 rfl)
 . simp_all
 rcases aan.1 he with he|he
 . exact a.r7 e he
 obtain⟨c,d,rfl⟩:=aab.1 he;exact(Fr.pw (b.Tt c d).1 (b.Tt c d).2).r7 _ (lb.2 rfl)
theorem Jg{w}(D:m.solo=true)(e:w.pv)(h:KF (.val (int (fJ w))) σ):aB prog m 75 [bS w] σ KF:=by
 have E:=e.ways;have F:=e.aj;unfold fJ at h;refine fs Z9 Tryz.func75 rfl (by kernel_rfl) ?_;simp[Tryz.f75];refine cf Tryz.func108 rfl (ui e.fits e.yl ?_);apply rn;simp;refine cf Tryz.func107 rfl (Bq ?_);apply rn;simp;refine cf Tryz.func76 rfl (fD ?_);apply rn;simp;refine aG.intro (λj=>?_) (λj=>?_)<;>(try simp at j)<;>(try simp[j]at h)<;>(try simp[j])<;>(try exact .done h);have I:=dU j;refine aG.intro (λv=>?_) (λv=>?_)<;>(try simp[-Int.not_lt,-Int.not_le]at v)<;>(try simp[v]at h)<;>(try simp[v])<;>(try exact .done h);refine aa.loop w.ways.length (λk s=>∃env,s=⟨env,σ,[],.no⟩/\env 1=.cp (bS w) 0/\env 28=xr w.ways/\env 29=int w.ways.length/\env 30=int k/\eh (kF w.aF) w.ways=eh (kF w.aF) (w.ways.drop k)) ⟨_,rfl,by simp⟩ ?_;rintro G k _ H ⟨env,rfl,c,l,o,g,a⟩ B;refine aa.runN lay [] 17 ?_;simp[o,g];apply aG.intro<;>intro C<;>simp at C<;>simp[c,l,g,C]
 . rw[Dc _ _ k C]at a
   refine bO.intro λd hd=>?_
   simp;change aa _ _ _ _ _ _ _ _ _;refine aa.runN lay [] 1 ?_;simp;change aa _ _ _ _ _ _ _ _ _;refine aa.bf 5 (b:=d) (eM w.ways[k]) (ab.ai _ _ _) (by simp) rfl ?_;rw[dH hd];apply rn;simp[c];refine cf Tryz.func109 rfl (EZ (by omega) ?_);apply rn;simp;apply aG.intro<;>intro p<;>simp at p<;>simp[g,p]
   . rw[KD p]at a
     simp[a,p]at h;exact .done h
   rw[Rp p]at a;refine⟨by omega,B _ (by omega) ⟨_,rfl,?_,?_,?_,?_,a⟩⟩<;>simp[c,l,o]
 have ek:k=w.ways.length:=by omega
 subst ek;rw[adZ]at a;rw[show eh (kF w.aF) []=0 from rfl]at a;simp[a]at h;refine aG.intro (λx=>?_) (λx=>?_)<;>(try simp[-Int.not_lt,-Int.not_le]at x)<;>(try simp[x]at h)<;>(try simp[x])<;>(try exact .done h)
 . apply rn
   simp;exact .done h
 apply rn;simp[c];refine aa.loop w.aj.length (λk s=>∃env,s=⟨env,σ,[],.no⟩/\env 1=.cp (bS w) 0/\env 47=gS w.aj/\env 48=int w.aj.length/\env 49=int k/\eh (uR w) w.aj=eh (uR w) (w.aj.drop k)) ⟨_,rfl,by simp[c]⟩ ?_;rintro G k _ H ⟨env,rfl,c,q,r,i,a⟩ B;refine aa.runN lay [] 17 ?_;simp[r,i];apply aG.intro<;>intro t<;>simp at t<;>simp[c,q,i,t]
 . rw[Dc _ _ k t]at a
   refine bO.intro λd hd=>?_
   simp;change aa _ _ _ _ _ _ _ _ _;refine aa.runN lay [] 1 ?_;simp;change aa _ _ _ _ _ _ _ _ _;refine aa.bf 8 (b:=d) (iC w.aj[k]) (ab.ai _ _ _) (by simp) rfl ?_;rw[dH hd];apply rn;simp[c];refine cf Tryz.func110 rfl (E0 (by omega) (e.Tt _ (ys t)).1 (e.Tt _ (ys t)).2 ?_);apply rn;simp;apply aG.intro<;>intro u<;>simp at u<;>simp[i,u]
   . rw[KD u]at a
     simp[a,u]at h;exact .done h
   rw[Rp u]at a;refine⟨by omega,B _ (by omega) ⟨_,rfl,?_,?_,?_,?_,a⟩⟩<;>simp[c,q,r]
 have ek:k=w.aj.length:=by omega
 subst ek;rw[adZ]at a;rw[show eh (uR w) []=0 from rfl]at a;simp[a]at h;have J:=(Fr.pw e.fits e.yl).mT;have f1:-9223372036854775808<=(w.fair.az.length:Int)+w.aj.length/\(w.fair.az.length:Int)+w.aj.length<=9223372036854775807:=by omega
 apply rn;simp[f1.1,f1.2];refine aG.intro (λy=>?_) (λy=>?_)<;>(try simp[-Int.not_lt,-Int.not_le]at y)<;>(try simp[y]at h)<;>(try simp[c,y])<;>(try exact .done h);have z:=gW e (by omega);refine cf Tryz.func112 rfl (QR (by omega) ?_);apply pg;simp;refine cf Tryz.func97 rfl (Hi (by grind) ?_);apply pg;simp;refine cf Tryz.func111 rfl (QC (f:=dS w) D z.fits z.yl ⟨Nat.lt_of_le_of_lt (EX z _) (by decide),Nat.lt_of_le_of_lt (EX z _) (by decide)⟩ ?_);apply pg;simp;obtain⟨n,a⟩:∃n,n=gX (dS w):=⟨_,rfl⟩;rw[<-a]at h;change aa _ _ _ _ _ _ _ _ _;simp only[<-a];apply rn;simp;refine aG.intro (λA=>?_) (λA=>?_)<;>(try simp at A)<;>(try simp[A]at h)<;>(try simp[A])<;>(try exact .done h)
end
open Go.bN Go.Conc
theorem Br{m fb mb A j w c o p q hole}(B:∀i∈hole,9<=i)(C:A.fb=fb/\A.mb=mb/\A.fo=9/\A.nm=nn/\A.ng=ng/\A.dir=true)(hj:j<3)(r:∀x,A.GI x↔x=.map [])(D:w.ways.length<1152921504606846976)(s:∀x∈w.ways,rW w.aF x)(E:1<=w.aF/\w.aF<=4)(F:0<=c.town/\c.town<w.aF)(t:0<=c.hour/\c.hour<=72)
 (G:A.val j=.int .i64 ((cQ w.ways w.aF.toNat c.town c.hour).getD 0 0)){body}(hb:Tryz.f101.body=some body):
 aa prog (jv prog A j) 101 25 none T6 [.code body] ⟨dW [.ref A.gb 0,.cp (Te fb mb w o p q hole 0) 0,.cp (iC c) 0,.cp (int j) 0],ln A.fb,[],.told .deferred [de prog] m⟩ (Va prog A j Tryz.f101):=by
 obtain⟨rfl,rfl,a,e,H,d⟩:=C;simp only[Tryz.f101,kn]at hb;subst hb;apply rn;simp;refine aa.defer rfl rfl rfl rfl (by simp) rfl ?_
 apply rn;simp;obtain⟨I,L,M,N,y⟩:=EY (l:=w.ways) (n:=w.aF.toNat) (town:=c.town) (λx g=>(s x g).2.2.1) t
 rw[y]at G;refine cf Tryz.func103 rfl (Je B D s E F t λh k=>?_)
 have J:h A.fb=some .jf:=k _ _ (by simp[ln])
 rw[y];apply rn;simp;have cell:A.cell j=11+j:=by unfold cd.cell;rw[a]
 have z:=@IJ prog A j d;rw[a,e]at z;refine cf Tryz.func104 rfl (z (by rw[cell];simp<;>omega) J λx v g O=>?_)
 obtain rfl:=(r x).1 g;apply rn;simp;refine aa.defer rfl rfl rfl rfl (by simp) rfl ?_
 have K:(j:Int)<3:=by omega
 have P:j<=2:=by omega
 refine aa.runN lay [] 1 ?_;simp
 change aa _ _ _ _ _ _ _ _ _
 refine aa.draw lay (.take [0,1,2,3,4,5] false (.one 6 (.done))) rfl ?_;refine aK.take lay [] ?_;simp[DW,K];refine aK.one rfl (by kernel_rfl) rfl (by simp) ?_
 refine LU lay (b:=A.fb) (off:=11+j) (u:=.int .i64 I) (v0:=v) (f:=A.own j v) rfl pQ rfl ?_ (by simp) rfl (by simp) (by simp[cd.own,cell]) ?_
 . simp
   exact tE _ _ _ _
 . refine jV.done ?_
   apply rn;simp;exact⟨rfl,.inl rfl,⟨m,rfl⟩,Te A.fb A.mb w o p q hole 9,_,.map [],by rw[a];exact tE _ _ _ _,by grind,ab.ai _ _ _,by simp_all,(ab.ah _ _ (zs A.d5)).trans (ab.ai _ _ _),(r _).2 rfl,rfl⟩
