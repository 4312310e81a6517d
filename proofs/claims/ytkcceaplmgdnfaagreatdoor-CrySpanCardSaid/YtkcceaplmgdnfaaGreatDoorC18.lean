import Derived.Test.YtkcceaplmgdnfaaGreatDoorC17
set_option linter.all false
set_option maxHeartbeats 2000000
set_option maxRecDepth 4000
namespace Go.Proofs.YtkcceaplmgdnfaaGreatDoor
open Go.Proofs.Tryz (prog)
section
open Go.cz Go.Conc
variable{m:Mo}{σ:ab}{KF:abW}
theorem ta{l:acn}(h:l.Nodup){i j hi}{hj:j<l.length}(a:i≠j):l[i]≠l[j]:=by
 rw[List.Nodup,List.pairwise_iff_getElem]at h
 grind
def iM(rs:acn)(M:abQ)(n j:Nat):acs:=(List.range rs.length).map λl=>if l<j then ints (M.getD l [])else AV.gh (rs.getD l 0) 0 n n
theorem oC  rs   M   n j :(iM rs M n j).length=rs.length:=by rw[iM,ZT,aaJ]
theorem oD{rs M n j l}(a:l<rs.length):(iM rs M n j)[l]?=some (if l<j then ints (M.getD l [])else AV.gh (rs.getD l 0) 0 n n):=by rw[iM,ZY,abp a];rfl
theorem Dr{fid r ro hold K todo env D rc d n at_ rs M}{cs:acs}{spr}(σ0:ab)(k:rs.Nodup)(s:∀l,l<rs.length->(M.getD l []).length=n)(o:at_<cs.length)(hd:d∉rs)
 (w:∀σ',σ' d=some (.cells (cs.set at_ (.sl 1 (iM rs M n rs.length) spr)))->(∀y,y≠d->y∉rs->σ' y=σ0 y)->aa prog m fid r ro hold todo ⟨env,σ',D,rc⟩ K):
 ∀  f j ,j+f=rs.length->∀σ,σ d=some (.cells (cs.set at_ (.sl 1 (iM rs M n j) spr)))->(∀  l   h ,j<=l->σ rs[l]=some (.cells ((M.getD l []).map int)))->(∀y,y≠d->y∉rs->σ y=σ0 y)->aa prog m fid r ro hold todo ⟨env,σ,D,rc⟩ K
 | 0,j,x,σ,t,_,z=>by
   have:j=rs.length:=by omega
   simp_all
 | f + 1,j,x,σ,t,A,z=>by
   have a:j<rs.length:=by omega
   have B:=s j a;have q:d≠rs[j]:=λe=>hd (e ▸ zD a)
   have c:∀e∈iM rs M n j,e.cells=[e]:=λe p=>by unfold iM at p;obtain⟨l,_,rfl⟩:=ZU.1 p;split<;>rfl
   have hlen:(iM rs M n j).length=rs.length:=oC _ _ _ _;have u:∀l,l<rs.length->(iM rs M n j)[l]?=some (if l<j then ints (M.getD l [])else AV.gh (rs.getD l 0) 0 n n):=λl h=>oD h
   have g:(iM rs M n j).set j (.sl 1 ((M.getD j []).map int) .any)=iM rs M n (j+1):=by
    apply List.ext_getElem?;intro l
    by_cases h:l<rs.length
    . have G:(iM rs M n (j+1))[l]?=some (if l<j+1 then ints (M.getD l [])else AV.gh (rs.getD l 0) 0 n n):=oD h
      grind
    . rw[aau (by simp_all),aau (by rw[oC];omega)]
   refine aa.OS (b:=rs[j]) (d:=d) (i:=j) (l:=(M.getD j []).map int) (at_:=at_) q (A j a (ZI _)) (λe p=>by obtain⟨_,_,rfl⟩:=ZU.1 p;rfl) t (by rw[aax o]) c (by simp_all) ?_
   rw[List.set_set,g];refine Dr σ0 k s o hd w f (j+1) (by omega) _ (ab.ai _ _ _) (λl h v=>?_) (λy C E=>?_)
   . have F:rs[l]≠d:=λe=>hd (e ▸ zD h)
     rw[ab.ah _ _ F];simp only[ab.del,ta k (show l≠j by omega),LK]
     grind
   . rw[ab.ah _ _ C]
     have:y≠rs[j]:=λe=>E (e ▸ zD a)
     simp only[ab.del,this,LK]
     simp_all
section
variable{c k:Nat}{nums:acm}
abbrev fQ:acs:=[.lit (.slice none 0 0),.lit (.slice none 0 0),int 0,int 0,int 0,int 0]
theorem FI{cnt}(hk:k+20+11*cnt.toNat<1000000)(hn:nums.length<1152921504606846976)(gH:0<=cnt/\cnt<=1000)(hb:bj c nums k σ)(h:∀  f   a  σ',uq cnt f->oZ c nums (k+20+11*cnt.toNat) σ σ'->(f.aB=[]->a=.lit (.slice none 0 0))/\(f.aB≠[]->a=jm f.aB)->KF (.val (.agg [a,rows f.roads,int f.aQ,int f.eP,int f.cM,int f.aW])) σ'):az prog m 83 [.ref c 0,int cnt] σ KF:=by
 obtain⟨n0,s0,_,fp⟩:=id hb;refine fs Wb Tryz.func83 rfl (by kernel_rfl) ?_
 simp[Tryz.f83];refine bV.intro λA h4=>?_
 have n4:c≠A:=λe=>by simp_all
 have G:∀x,bj c nums k (σ.set A x):=λx=>⟨n0,s0,by assumption,by rw[ab.ah _ _ n4];exact fp⟩
 simp;refine cf Tryz.func19 rfl (eF (by omega) hn ⟨by omega,by omega⟩ ⟨by omega,by omega⟩ (G _) λcM gP ft dm=>?_)
 apply rn;simp;refine cf Tryz.func54 rfl (mJ (l:=[1,2,2,3,3,6]) (by omega) hn (by simp) dm.1 λaW r fu bm=>?_)
 apply rn;simp;refine bV.intro λw h5=>?_
 have Z:A≠c:=zj n4;have ax:oZ c nums (k+2) (σ.set A (.cells fQ)) r:=dm.trans bm;have ed:r A=some (.cells fQ):=by rw[ax.2 A Z,ab.ai]
 have K:w≠c:=λe=>by subst e;obtain⟨_,_,_,q⟩:=bm.1;simp_all
 have S:w≠A:=λe=>by simp_all
 have aL:σ w=none:=by rw[ax.2 w K,ab.ah _ _ S]at h5;exact h5
 simp[aJ]
 have ee:∀x,bj c nums (k+2) (r.set w x):=λx=>by obtain⟨n,z,h1,h2⟩:=bm.1;exact⟨n,z,by omega,by rw[ab.ah _ _ (zj K)];exact h2⟩
 refine cf Tryz.func19 rfl (eF (by omega) hn ⟨by omega,by omega⟩ ⟨by omega,by omega⟩ (ee _) λdR g fv dr=>?_)
 apply rn;simp;refine cf Tryz.func18 rfl (eV (by omega) hn ⟨by omega,by omega⟩ dr.1 λlo aO fw dx=>?_)
 apply rn;simp;have ay:oZ c nums (k+4) (r.set w (.cells [.lit (.slice none 0 0),.lit (.slice none 0 0),int 0,int 0,int cM,int aW])) aO:=dr.trans dx;obtain⟨sp,rfl⟩:∃sp:Nat,dR=(sp:Int):=⟨dR.toNat,by omega⟩
 have gR:1<=sp/\sp<=3:=by omega
 have fx:0<=lo/\lo<=4:=by omega
 have eg:1<=cM/\cM<=4:=by omega
 have dy:aW=1\/aW=2\/aW=3\/aW=6:=by simp_all
 have ei:aO w=some (.cells [.lit (.slice none 0 0),.lit (.slice none 0 0),int 0,int 0,int cM,int aW]):=by rw[ay.2 w K,ab.ai]
 have ej:aO A=some (.cells fQ):=by rw[ay.2 A Z,ab.ah _ _ (zj S)];exact ed
 have c9:(σ.del c).Le aO:=λy x p=>by
  have y1:y≠c:=λe=>by subst e;simp[ab.del]at p
  have y0:σ y=some x:=by simpa[ab.del,y1]using p
  have y5:y≠w:=λe=>by simp_all
  have y4:y≠A:=λe=>by simp_all
  rw[ay.2 y y1,ab.ah _ _ y5,ax.2 y y1,ab.ah _ _ y4];exact y0
 have b2:=dx.1;clear dm bm dr dx ax ay G ee h5 ed ft fu fv fw
 refine aa.loop sp (λi s=>∃env σ' a rs,s=⟨env,σ',[],.no⟩/\env 0=.ref c 0/\env 1=int cnt/\env 4=.ref A 0/\env 5=.ref w 0/\env 6=int sp/\env 7=int lo/\env 8=int i/\bj c nums (k+4) σ'/\σ' A=some (.cells fQ)/\σ' w=some (.cells [.lit (.slice none 0 0),a,int 0,int 0,int cM,int aW])/\
  Tok (σ.del c) σ' a 1 (rs.map λb:Nat=>AV.gh b 0 sp sp)/\rs.length=i/\rs.Nodup/\(∀b∈rs,σ b=none/\b≠c/\b≠A/\b≠w/\σ' b=some (.cells (List.replicate sp (int 0))))) ⟨_,aO,.lit (.slice none 0 0),[],rfl,by simp,by simp,by simp,by simp,by simp,by simp,by simp,b2,ej,ei,⟨c9,.inl ⟨rfl,rfl⟩⟩,rfl,abx,by simp⟩ ?_
 rintro c0 i _ hi ⟨env,σ',a,rs,rfl,J,e1,T,D,H,e7,e8,I,q4,V,u,b3,a7,b0⟩ ih
 have L:=u.cells
 rcases aag i sp with g1|g1
 . have fO:(i:Int)<sp:=by omega
   have f1:-9223372036854775808<=(i:Int)+1/\(i:Int)+1<=9223372036854775807:=by omega
   have ea:∀a8:ab,Tok (σ.del c) a8 a 1 (rs.map λb:Nat=>AV.gh b 0 sp sp)->∀y l,a8 y=some (.cells l)->br a≠some y:=λa8 hx y l p e=>by obtain⟨_,_,q⟩:=hx.aV e;rw[p]at q;cases q
   have fresh:∀b,σ' b=none->σ b=none/\b≠c/\b≠A/\b≠w/\w≠b/\b∉rs:=λb U=>by
    have n1:b≠c:=λe=>by subst e;obtain⟨_,_,_,q⟩:=I;simp_all
    refine⟨?_,n1,λe=>(by subst e;simp_all),λe=>(by subst e;simp_all),λe=>(by simp_all),λe=>(by rw[(b0 b e).2.2.2.2]at U;cases U)⟩
    cases e:σ b with
    |none=>rfl
    |some x=>have:=u.1 b x (by simp[ab.del,n1,e]);rw[U]at this;cases this
   apply rn;simp[D,H,e8,V,fO];refine⟨?_,?_⟩
   . ((
       refine ou lay rfl dM rfl rS rfl (by decide) rfl rfl (n:=sp) (by simp[H]) (by simp[H]) ⟨by omega,by omega⟩ λb U=>?_
       obtain⟨bw,a9,ad,al,b4,av⟩:=fresh b U;have up:=u.up (ab.rz (x:=.cells (List.replicate sp (int 0))) (ab.le_refl _) U);have b1:(σ'.set b (.cells (List.replicate sp (int 0)))) w=some (.cells [.lit (.slice none 0 0),a,int 0,int 0,int cM,int aW]):=(ab.ah _ _ b4).trans V;apply pg;simp[D,H,b1,L.1,L.2]))
     ((
       refine aK lay rfl rfl rfl oy rfl oy rfl dM (by decide) (by simp;omega) (σ0:=(σ'.set b (.cells (List.replicate sp (int 0)))).off a) (es:=rs.map λb:Nat=>AV.gh b 0 sp sp) (xs:=[AV.gh b 0 sp sp]) (by simpa using up.here.1) (.inr ⟨_,by simp;rfl⟩) λa' g t=>?_
       have B:=t.cells;have F:∀y l,(σ'.set b (.cells (List.replicate sp (int 0)))) y=some (.cells l)->g y=some (.cells l):=λy l p=>t.1 _ _ (by rw[ab.dL (ea _ up y l p)];exact p)
       have Q:=F _ _ b1;apply pg;simp[D,Q,B.1,B.2,aJ];apply rn;simp[e8,f1.1,f1.2];obtain⟨X,Y,G,E⟩:=I
       have C:Tok (σ.del c) g a' 1 ((rs++[b]).map λb:Nat=>AV.gh b 0 sp sp):=by have:=t.base up.here.2;simpa using this
       refine ih _ g1 ⟨_,_,a',rs++[b],rfl,by simp[J],by simp[e1],by simp[T],by simp[D],by simp[H],by simp[e7],by simp,⟨X,Y,G,?_⟩,?_,ab.ai _ _ _,C.beside (by simp[ab.del,K,aL]) (λe=>by obtain⟨_,_,q⟩:=C.aV e;rw[Q]at q;cases q),by simp[b3],?_,?_⟩
       . rw[ab.ah _ _ (zj K)];exact F _ _ ((ab.ah _ _ (zj a9)).trans E)
       . rw[ab.ah _ _ (zj S)];exact F _ _ ((ab.ah _ _ (zj ad)).trans q4)
       . rw[aby]
         exact⟨a7,by simp,λx hx y p=>by simp at p;subst p;exact λe=>av (e ▸ hx)⟩
       . intro d hd
         rcases ZA.1 hd with hd|hd
         . obtain⟨p1,p2,p3,p4,p5⟩:=b0 d hd
           have b5:d≠b:=λe=>av (e ▸ hd)
           exact⟨p1,p2,p3,p4,by rw[ab.ah _ _ p4];exact F _ _ ((ab.ah _ _ b5).trans p5)⟩
         . simp at hd
           subst hd;exact⟨bw,a9,ad,al,by rw[ab.ah _ _ al];exact F _ _ (ab.ai _ _ _)⟩))
   . ((
       refine ou lay rfl dM rfl rS rfl (by decide) rfl rfl (n:=sp) (by simp[H]) (by simp[H]) ⟨by omega,by omega⟩ λb U=>?_
       obtain⟨bw,a9,ad,al,b4,av⟩:=fresh b U;have up:=u.up (ab.rz (x:=.cells (List.replicate sp (int 0))) (ab.le_refl _) U);have b1:(σ'.set b (.cells (List.replicate sp (int 0)))) w=some (.cells [.lit (.slice none 0 0),a,int 0,int 0,int cM,int aW]):=(ab.ah _ _ b4).trans V;apply pg;simp[D,H,b1,L.1,L.2]))
     refine⟨?_,?_⟩
     . ((
         refine aK lay rfl rfl rfl oy rfl oy rfl dM (by decide) (by simp;omega) (σ0:=(σ'.set b (.cells (List.replicate sp (int 0)))).off a) (es:=rs.map λb:Nat=>AV.gh b 0 sp sp) (xs:=[AV.gh b 0 sp sp]) (by simpa using up.here.1) (.inr ⟨_,by simp;rfl⟩) λa' g t=>?_
         have B:=t.cells;have F:∀y l,(σ'.set b (.cells (List.replicate sp (int 0)))) y=some (.cells l)->g y=some (.cells l):=λy l p=>t.1 _ _ (by rw[ab.dL (ea _ up y l p)];exact p)
         have Q:=F _ _ b1;apply pg;simp[D,Q,B.1,B.2,aJ];apply rn;simp[e8,f1.1,f1.2];obtain⟨X,Y,G,E⟩:=I
         have C:Tok (σ.del c) g a' 1 ((rs++[b]).map λb:Nat=>AV.gh b 0 sp sp):=by have:=t.base up.here.2;simpa using this
         refine ih _ g1 ⟨_,_,a',rs++[b],rfl,by simp[J],by simp[e1],by simp[T],by simp[D],by simp[H],by simp[e7],by simp,⟨X,Y,G,?_⟩,?_,ab.ai _ _ _,C.beside (by simp[ab.del,K,aL]) (λe=>by obtain⟨_,_,q⟩:=C.aV e;rw[Q]at q;cases q),by simp[b3],?_,?_⟩
         . rw[ab.ah _ _ (zj K)];exact F _ _ ((ab.ah _ _ (zj a9)).trans E)
         . rw[ab.ah _ _ (zj S)];exact F _ _ ((ab.ah _ _ (zj ad)).trans q4)
         . rw[aby]
           exact⟨a7,by simp,λx hx y p=>by simp at p;subst p;exact λe=>av (e ▸ hx)⟩
         . intro d hd
           rcases ZA.1 hd with hd|hd
           . obtain⟨p1,p2,p3,p4,p5⟩:=b0 d hd
             have b5:d≠b:=λe=>av (e ▸ hd)
             exact⟨p1,p2,p3,p4,by rw[ab.ah _ _ p4];exact F _ _ ((ab.ah _ _ b5).trans p5)⟩
           . simp at hd
             subst hd;exact⟨bw,a9,ad,al,by rw[ab.ah _ _ al];exact F _ _ (ab.ai _ _ _)⟩))
     . ((
         refine aK lay rfl rfl rfl oy rfl oy rfl dM (by decide) (by simp;omega) (σ0:=(σ'.set b (.cells (List.replicate sp (int 0)))).off a) (es:=rs.map λb:Nat=>AV.gh b 0 sp sp) (xs:=[AV.gh b 0 sp sp]) (by simpa using up.here.1) (.inr ⟨_,by simp;rfl⟩) λa' g t=>?_
         have B:=t.cells;have F:∀y l,(σ'.set b (.cells (List.replicate sp (int 0)))) y=some (.cells l)->g y=some (.cells l):=λy l p=>t.1 _ _ (by rw[ab.dL (ea _ up y l p)];exact p)
         have Q:=F _ _ b1;apply pg;simp[D,Q,B.1,B.2,aJ];apply rn;simp[e8,f1.1,f1.2];obtain⟨X,Y,G,E⟩:=I
         have C:Tok (σ.del c) g a' 1 ((rs++[b]).map λb:Nat=>AV.gh b 0 sp sp):=by have:=t.base up.here.2;simpa using this
         refine ih _ g1 ⟨_,_,a',rs++[b],rfl,by simp[J],by simp[e1],by simp[T],by simp[D],by simp[H],by simp[e7],by simp,⟨X,Y,G,?_⟩,?_,ab.ai _ _ _,C.beside (by simp[ab.del,K,aL]) (λe=>by obtain⟨_,_,q⟩:=C.aV e;rw[Q]at q;cases q),by simp[b3],?_,?_⟩
         . rw[ab.ah _ _ (zj K)];exact F _ _ ((ab.ah _ _ (zj a9)).trans E)
         . rw[ab.ah _ _ (zj S)];exact F _ _ ((ab.ah _ _ (zj ad)).trans q4)
         . rw[aby]
           exact⟨a7,by simp,λx hx y p=>by simp at p;subst p;exact λe=>av (e ▸ hx)⟩
         . intro d hd
           rcases ZA.1 hd with hd|hd
           . obtain⟨p1,p2,p3,p4,p5⟩:=b0 d hd
             have b5:d≠b:=λe=>av (e ▸ hd)
             exact⟨p1,p2,p3,p4,by rw[ab.ah _ _ p4];exact F _ _ ((ab.ah _ _ b5).trans p5)⟩
           . simp at hd
             subst hd;exact⟨bw,a9,ad,al,by rw[ab.ah _ _ al];exact F _ _ (ab.ai _ _ _)⟩))
 . have gd:sp=i:=by omega
   subst gd;clear ih b2 ei ej c9
   obtain⟨spr,rfl⟩:∃spr,a=.sl 1 (rs.map λb:Nat=>AV.gh b 0 sp sp) spr:=by
    rcases u.2 with⟨_,e⟩|e|⟨_,_,_,e,_⟩
    . have:=congrArg List.length e
      grind
    . simp_all
    simp_all
   have N:=u.1;clear u
   have bA:∀(j:Nat) (hj:j<rs.length),σ rs[j]=none/\rs[j]≠c/\rs[j]≠A/\rs[j]≠w:=λj hj=>by simp_all
   apply rn;simp[H,e8]
   have o:∀(j:Nat) (hj:j<rs.length),σ' rs[j]=some (.cells (((List.replicate sp (List.replicate sp (0:Int))).getD j []).map int)):=λj hj=>by
    rw[(b0 _ (zD hj)).2.2.2.2]
    simp_all
   clear b0
   refine aa.loop sp (λi s=>∃env σ' M,s=⟨env,σ',[],.no⟩/\env 0=.ref c 0/\env 1=int cnt/\env 4=.ref A 0/\env 5=.ref w 0/\env 6=int sp/\env 7=int lo/\env 9=int i/\bj c nums (k+4+3*i) σ'/\σ' A=some (.cells fQ)/\σ' w=some (.cells [.lit (.slice none 0 0),.sl 1 (rs.map λb:Nat=>AV.gh b 0 sp sp) spr,int 0,int 0,int cM,int aW])/\
    (σ.del c).Le σ'/\G6 sp lo i 0 M/\∀(j:Nat) (hj:j<rs.length),σ' rs[j]=some (.cells ((M.getD j []).map int))) ⟨_,σ',_,rfl,by simp[J],by simp[e1],by simp[T],by simp[D],by simp[H],by simp[e7],by simp,I,q4,V,N,G6.start sp lo,o⟩ ?_
   clear J e1 T D H e7 e8 I q4 V N o
   rintro c1 i _ gU ⟨env,σ',M,rfl,J,e1,T,D,H,e7,e9,I,q4,V,N,hM,o⟩ ih
   rcases aag i sp with g2|g2
   . have ER:(i:Int)<sp:=by omega
     apply rn;simp[H,e9,ER]
     refine aa.loop i (λj s=>∃env σ' M,s=⟨env,σ',[],.no⟩/\env 0=.ref c 0/\env 1=int cnt/\env 4=.ref A 0/\env 5=.ref w 0/\env 6=int sp/\env 7=int lo/\env 9=int i/\env 10=int j/\bj c nums (k+4+3*i+j) σ'/\σ' A=some (.cells fQ)/\σ' w=some (.cells [.lit (.slice none 0 0),.sl 1 (rs.map λb:Nat=>AV.gh b 0 sp sp) spr,int 0,int 0,int cM,int aW])/\
      (σ.del c).Le σ'/\G6 sp lo i j M/\∀(j:Nat) (hj:j<rs.length),σ' rs[j]=some (.cells ((M.getD j []).map int))) ⟨_,σ',M,rfl,by simp[J],by simp[e1],by simp[T],by simp[D],by simp[H],by simp[e7],by simp[e9],by simp,I,q4,V,N,hM,o⟩ ?_
     clear J e1 T D H e7 e9 I q4 V N hM o
     rintro c2 j _ hj ⟨env,σ',M,rfl,J,e1,T,D,H,e7,e9,bp,I,q4,V,N,hM,o⟩ ep
     rcases aag j i with g3|g3
     . have GF:(j:Int)<i:=by omega
       have f1:-9223372036854775808<=(j:Int)+1/\(j:Int)+1<=9223372036854775807:=by omega
       have f2:-9223372036854775808<=2*lo/\2*lo<=9223372036854775807:=by omega
       apply rn;simp[J,e7,e9,bp,GF,f2.1,f2.2];refine cf Tryz.func19 rfl (eF (by omega) hn ⟨by omega,by omega⟩ ⟨by omega,by omega⟩ I λv r hv hd=>?_)
       have s5:r w=some (.cells [.lit (.slice none 0 0),.sl 1 (rs.map λb:Nat=>AV.gh b 0 sp sp) spr,int 0,int 0,int cM,int aW]):=by rw[hd.2 w K];exact V
       have s4:r A=some (.cells fQ):=by rw[hd.2 A Z];exact q4
       have ca:i<rs.length:=by omega
       have cb:j<rs.length:=by omega
       obtain⟨z1,z2,z3,z4⟩:=bA i ca;obtain⟨y1,y2,y3,y4⟩:=bA j cb;have si:r rs[i]=some (.cells ((M.getD i []).map int)):=by rw[hd.2 _ z2];exact o i ca
       have sj:r rs[j]=some (.cells ((M.getD j []).map int)):=by rw[hd.2 _ y2];exact o j cb
       have gf:rs[i]≠rs[j]:=ta a7 (by omega)
       have et:=zj gf;obtain⟨Ri,ev⟩:∃R,R=M.getD i []:=⟨_,rfl⟩;obtain⟨Rj,ey⟩:∃R,R=M.getD j []:=⟨_,rfl⟩;have li:=hM.row i (by omega)
       have lj:=hM.row j (by omega)
       rw[<-ev]at si li;rw[<-ey]at sj lj;have gj:j+1<=sp:=by omega
       have gl:i+1<=sp:=by omega
       have g4:j<sp:=by omega
       have gp:(j:Int)<sp:=by omega
       have eA:(i:Int)<sp:=by omega
       have hF:∀g,g=(r.set rs[i] (.cells ((Ri.map int).set j (int v)))).set rs[j] (.cells ((Rj.map int).set i (int v)))->bj c nums (k+4+3*i+(j+1)) g/\g A=some (.cells fQ)/\g w=some (.cells [.lit (.slice none 0 0),.sl 1 (rs.map λb:Nat=>AV.gh b 0 sp sp) spr,int 0,int 0,int cM,int aW])/\(σ.del c).Le g/\∀(l:Nat) (hl:l<rs.length),g rs[l]=some (.cells (((yS M i j v).getD l []).map int)):=λg e3=>by
        subst e3;refine⟨?_,?_,?_,λy x p=>?_,λl hl=>?_⟩
        . obtain⟨X,Y,G,E⟩:=hd.1
          exact⟨X,Y,by omega,by rw[ab.ah _ _ (zj y2),ab.ah _ _ (zj z2)];exact E⟩
        . rw[ab.ah _ _ (zj y3),ab.ah _ _ (zj z3)];exact s4
        . rw[ab.ah _ _ (zj y4),ab.ah _ _ (zj z4)];exact s5
        . have w1:y≠c:=λe=>by subst e;simp[ab.del]at p
          have w0:σ y=some x:=by simpa[ab.del,w1]using p
          have w2:y≠rs[i]:=λe=>by rw[e,z1]at w0;cases w0
          have w3:y≠rs[j]:=λe=>by rw[e,y1]at w0;cases w0
          rw[ab.ah _ _ w3,ab.ah _ _ w2,hd.2 y w1];exact N y x p
        . rw [z5 (by rw[hM.len];omega) (by rw[hM.len];omega) (by omega),<-ev,<-ey]
          by_cases q1:l=j
          . subst q1
            rw[ZG rfl,ab.ai,abt]
          . rw[ZB q1,ab.ah _ _ (ta a7 q1)]
            by_cases q2:l=i
            . subst q2
              rw[ZG rfl,ab.ai,abt]
            . rw[ZB q2,ab.ah _ _ (ta a7 q2),hd.2 _ (bA l hl).2.1]
              exact o l hl
       have O:=hF _ rfl;clear hF;apply rn;simp[D,e9,bp,s5,b3,g2,g4,gp,eA,gj,gl,li,lj,si,sj,ab.ah,et];refine⟨?_,?_⟩
       . apply rn
         simp[bp,f1.1,f1.2];refine ep _ g3 ⟨_,_,yS M i j v,rfl,?_,?_,?_,?_,?_,?_,?_,?_,O.1,O.2.1,O.2.2.1,O.2.2.2.1,hM.next (by omega) g3 ⟨hv.1,by omega⟩,O.2.2.2.2⟩<;>simp[J,e1,T,D,H,e7,e9]
       . apply rn
         simp[bp,f1.1,f1.2];refine ep _ g3 ⟨_,_,yS M i j v,rfl,?_,?_,?_,?_,?_,?_,?_,?_,O.1,O.2.1,O.2.2.1,O.2.2.2.1,hM.next (by omega) g3 ⟨hv.1,by omega⟩,O.2.2.2.2⟩<;>simp[J,e1,T,D,H,e7,e9]
     . have gw:i=j:=by omega
       subst gw;have f1:-9223372036854775808<=(i:Int)+1/\(i:Int)+1<=9223372036854775807:=by omega
       apply rn;simp[e9,bp,f1.1,f1.2];refine ih _ g2 ⟨_,_,M,rfl,?_,?_,?_,?_,?_,?_,?_,I.mono (by omega),q4,V,N,hM.line,o⟩<;>simp[J,e1,T,D,H,e7]
   . have gx:sp=i:=by omega
     subst gx;clear ih;have eB:∀l,l<rs.length->(M.getD l []).length=sp:=λl hl=>hM.row l (by omega)
     have eK:w∉rs:=λe=>by
      obtain⟨l,hl,e'⟩:=aab.1 e
      grind
     have aC:rs.map (λb:Nat=>AV.gh b 0 sp sp)=iM rs M sp 0:=by
      apply List.ext_getElem?;intro l
      by_cases hl:l<rs.length
      . rw[oD hl,ZB (by omega),ZY,Rp hl]
        grind
      . rw[aau (by simp_all),aau (by rw[oC];omega)]
     have aE:iM rs M sp rs.length=M.map ints:=by
      have gA:=hM.len;apply List.ext_getElem?;intro l
      by_cases hl:l<rs.length
      . have gB:l<M.length:=by omega
        rw[oD hl,ZG hl,ZY,Rp gB]
        simp_all
      . rw[aau (by rw[oC];omega),aau (by simp_all)]
     rw[aC]at V;refine Dr (d:=w) (n:=sp) (at_:=1) (rs:=rs) (M:=M) (cs:=[.lit (.slice none 0 0),.cA,int 0,int 0,int cM,int aW]) (spr:=spr) σ' a7 eB (by simp) eK (λg eN eR=>?_) rs.length 0 (by omega) σ' (by simp_all) (λl hl _=>o l hl) (λ_ _ _=>rfl)
     rw[aE]at eN;have gI:=hM.fin;have gA:=hM.len
     have F:∀(j:Nat),j≠w->(∀(l:Nat) (hl:l<rs.length),rs[l]≠j)->g j=σ' j:=λj h1 h2=>eR j h1 λe=>by
      obtain⟨l,hl,e'⟩:=aab.1 e
      grind
     have eW:bj c nums (k+4+3*sp) g:=by obtain⟨X,Y,G,E⟩:=I;exact⟨X,Y,G,by grind⟩
     have eX:g A=some (.cells fQ):=by grind
     have fc:g w=some (.cells [.lit (.slice none 0 0),.sl 1 (M.map ints) spr,int 0,int 0,int cM,int aW]):=by grind
     have cg:(σ.del c).Le g:=λy x p=>by
      have w1:y≠c:=λe=>by subst e;simp[ab.del]at p
      have w0:σ y=some x:=by simpa[ab.del,w1]using p
      rw[F y (λe=>by grind) (λl hl e=>by grind)]
      exact N y x p
     clear eN eR o aC aE I q4 V N hM eB eK F bA a7 b3;apply rn;simp[J,H,e9];refine cf Tryz.func18 rfl (eV (by omega) hn ⟨by omega,by omega⟩ eW λfr aO h3 b6=>?_)
     apply rn;simp[J];refine cf Tryz.func19 rfl (eF (by omega) hn ⟨by omega,by omega⟩ ⟨by omega,by omega⟩ b6.1 λto bB h6 b7=>?_)
     have Q:bB w=some (.cells [.lit (.slice none 0 0),.sl 1 (M.map ints) spr,int 0,int 0,int cM,int aW]):=by rw[b7.2 w K,b6.2 w K];exact fc
     apply rn;simp[J,e1,D,Q,aJ];have t4:bB A=some (.cells fQ):=by rw[b7.2 A Z,b6.2 A Z];exact eX
     have cm:(σ.del c).Le bB:=λy x p=>by
      have w1:y≠c:=λe=>by subst e;simp[ab.del]at p
      rw[b7.2 y w1,b6.2 y w1];exact cg y x p
     have fg:∀x,bj c nums (k+6+3*sp) (bB.set w x):=λx=>by obtain⟨n,z,h1,h2⟩:=b7.1;exact⟨n,z,by omega,by rw[ab.ah _ _ (zj K)];exact h2⟩
     refine cf Tryz.func18 rfl (eV (by omega) hn ⟨by omega,by omega⟩ (fg _) λq c6 h7 b8=>?_)
     apply rn;simp;have u5:c6 w=some (.cells [.lit (.slice none 0 0),.sl 1 (M.map ints) spr,int fr,int to,int cM,int aW]):=by rw[b8.2 w K,ab.ai]
     have u4:c6 A=some (.cells fQ):=by rw[b8.2 A Z,ab.ah _ _ (zj S)];exact t4
     have cv:(σ.del c).Le c6:=λy x p=>by
      have w1:y≠c:=λe=>by subst e;simp[ab.del]at p
      have w0:σ y=some x:=by simpa[ab.del,w1]using p
      rw[b8.2 y w1,ab.ah _ _ (λe=>by simp_all)];exact cm y x p
     obtain⟨qn,rfl⟩:∃qn:Nat,q=(qn:Int):=⟨q.toNat,by omega⟩
     have h8:(qn:Int)<=cnt:=by omega
     have dj:=b8.1;clear b6 b7 b8 fg eW eX fc cg cm Q t4
     refine aa.loop qn (λi s=>∃env σ' a es,s=⟨env,σ',[],.no⟩/\env 0=.ref c 0/\env 4=.ref A 0/\env 5=.ref w 0/\env 6=int sp/\env 13=int ((qn:Int)-i)/\bj c nums (k+7+3*sp+11*i) σ'/\σ' A=some (.cells fQ)/\σ' w=some (.cells [a,.sl 1 (M.map ints) spr,int fr,int to,int cM,int aW])/\
      Tok (σ.del c) σ' a 6 (es.map bu)/\es.length=i/\(∀e∈es,xR sp e)/\(es=[]->a=.lit (.slice none 0 0))) ⟨_,c6,.lit (.slice none 0 0),[],rfl,by simp[J],by simp[T],by simp[D],by simp[H],by simp,dj.mono (by omega),u4,u5,⟨cv,.inl ⟨rfl,rfl⟩⟩,rfl,by simp,λ_=>rfl⟩ ?_
     clear J e1 T D H e7 e9 dj u4 u5 cv
     rintro c3 i _ h9 ⟨env,σ',a,es,rfl,J,T,D,H,b9,c7,q4,V,u,eb,ec,fi⟩ ih
     have L:=u.cells;have bb:∀a8:ab,Tok (σ.del c) a8 a 6 (es.map bu)->∀y l,a8 y=some (.cells l)->br a≠some y:=λa8 hx y l p e=>by obtain⟨_,_,q⟩:=hx.aV e;grind
     have fl:∃l,σ' c=some (.cells l):=by obtain⟨_,_,_,q⟩:=c7;grind
     rcases aag i qn with g1|g1
     . have f1 : -9223372036854775808<=(qn:Int)-i-1/\(qn:Int)-i-1<=9223372036854775807:=by omega
       apply rn;simp[J,D,H,b9,V,g1];refine⟨?_,?_⟩
       . ((
           refine cf Tryz.func84 rfl (oA (by omega) hn ⟨by omega,by omega⟩ c7 λe r he hd=>?_)
           have s5:r w=some (.cells [a,.sl 1 (M.map ints) spr,int fr,int to,int cM,int aW]):=by rw[hd.2 w K];exact V
           have s4:r A=some (.cells fQ):=by rw[hd.2 A Z];exact q4
           have P:Tok (σ.del c) r a 6 (es.map bu):=qA u (by simp[ab.del]) fl hd.2
           apply pg;simp[D,s5,L.1,L.2]))
         ((
           refine aK lay rfl rfl rfl mW rfl mW rfl yP (by decide) (by simp;omega) (σ0:=r.off a) (es:=es.map bu) (xs:=[bu e]) (by simpa using P.here.1) (.inr ⟨_,by simp;rfl⟩) λa' g t=>?_
           have B:=t.cells;have F:∀y l,r y=some (.cells l)->g y=some (.cells l):=λy l p=>t.1 _ _ (by rw[ab.dL (bb _ P y l p)];exact p)
           have Q:=F _ _ s5;have t4:=F _ _ s4;apply pg;simp[D,Q,B.1,B.2,aJ];apply rn;simp[b9,f1.1,f1.2];obtain⟨X,Y,G,E⟩:=hd.1
           have C:Tok (σ.del c) g a' 6 ((es++[e]).map bu):=by have:=t.base P.here.2;simpa using this
           refine ih _ g1 ⟨_,_,a',es++[e],rfl,by simp[J],by simp[T],by simp[D],by simp[H],by simp;omega,⟨X,Y,by omega,?_⟩,?_,ab.ai _ _ _,C.beside (by simp[ab.del,K,aL]) (λe=>by obtain⟨_,_,q⟩:=C.aV e;rw[Q]at q;cases q),by simp[eb],?_,λe=>by simp at e⟩
           . rw[ab.ah _ _ (zj K)];exact F _ _ E
           . rw[ab.ah _ _ (zj S)];exact t4
           . intro x hx
             rcases ZA.1 hx with hx|hx
             . exact ec x hx
             . simp at hx;subst hx;exact he))
       . ((
           refine cf Tryz.func84 rfl (oA (by omega) hn ⟨by omega,by omega⟩ c7 λe r he hd=>?_)
           have s5:r w=some (.cells [a,.sl 1 (M.map ints) spr,int fr,int to,int cM,int aW]):=by rw[hd.2 w K];exact V
           have s4:r A=some (.cells fQ):=by rw[hd.2 A Z];exact q4
           have P:Tok (σ.del c) r a 6 (es.map bu):=qA u (by simp[ab.del]) fl hd.2
           apply pg;simp[D,s5,L.1,L.2]))
         refine⟨?_,?_⟩
         . ((
             refine aK lay rfl rfl rfl mW rfl mW rfl yP (by decide) (by simp;omega) (σ0:=r.off a) (es:=es.map bu) (xs:=[bu e]) (by simpa using P.here.1) (.inr ⟨_,by simp;rfl⟩) λa' g t=>?_
             have B:=t.cells;have F:∀y l,r y=some (.cells l)->g y=some (.cells l):=λy l p=>t.1 _ _ (by rw[ab.dL (bb _ P y l p)];exact p)
             have Q:=F _ _ s5;have t4:=F _ _ s4;apply pg;simp[D,Q,B.1,B.2,aJ];apply rn;simp[b9,f1.1,f1.2];obtain⟨X,Y,G,E⟩:=hd.1
             have C:Tok (σ.del c) g a' 6 ((es++[e]).map bu):=by have:=t.base P.here.2;simpa using this
             refine ih _ g1 ⟨_,_,a',es++[e],rfl,by simp[J],by simp[T],by simp[D],by simp[H],by simp;omega,⟨X,Y,by omega,?_⟩,?_,ab.ai _ _ _,C.beside (by simp[ab.del,K,aL]) (λe=>by obtain⟨_,_,q⟩:=C.aV e;rw[Q]at q;cases q),by simp[eb],?_,λe=>by simp at e⟩
             . rw[ab.ah _ _ (zj K)];exact F _ _ E
             . rw[ab.ah _ _ (zj S)];exact t4
             . intro x hx
               rcases ZA.1 hx with hx|hx
               . exact ec x hx
               . simp at hx;subst hx;exact he))
         . ((
             refine aK lay rfl rfl rfl mW rfl mW rfl yP (by decide) (by simp;omega) (σ0:=r.off a) (es:=es.map bu) (xs:=[bu e]) (by simpa using P.here.1) (.inr ⟨_,by simp;rfl⟩) λa' g t=>?_
             have B:=t.cells;have F:∀y l,r y=some (.cells l)->g y=some (.cells l):=λy l p=>t.1 _ _ (by rw[ab.dL (bb _ P y l p)];exact p)
             have Q:=F _ _ s5;have t4:=F _ _ s4;apply pg;simp[D,Q,B.1,B.2,aJ];apply rn;simp[b9,f1.1,f1.2];obtain⟨X,Y,G,E⟩:=hd.1
             have C:Tok (σ.del c) g a' 6 ((es++[e]).map bu):=by have:=t.base P.here.2;simpa using this
             refine ih _ g1 ⟨_,_,a',es++[e],rfl,by simp[J],by simp[T],by simp[D],by simp[H],by simp;omega,⟨X,Y,by omega,?_⟩,?_,ab.ai _ _ _,C.beside (by simp[ab.del,K,aL]) (λe=>by obtain⟨_,_,q⟩:=C.aV e;rw[Q]at q;cases q),by simp[eb],?_,λe=>by simp at e⟩
             . rw[ab.ah _ _ (zj K)];exact F _ _ E
             . rw[ab.ah _ _ (zj S)];exact t4
             . intro x hx
               rcases ZA.1 hx with hx|hx
               . exact ec x hx
               . simp at hx;subst hx;exact he))
     . have gC:i=qn:=by omega
       subst gC;apply rn;simp[T,D,b9,V,L.2,q4,aJ];obtain⟨X,Y,G,E⟩:=c7;obtain⟨f,hf⟩:∃f:Fr,f=⟨es,M,fr,to,cM,aW⟩:=⟨_,rfl⟩
       have gD:uq cnt f:=by
        subst hf;refine⟨eg,dy,by grind,⟨lo,fx,by grind⟩,by grind,by grind,by grind,λe he=>?_⟩
        grind
       obtain⟨a2,gG,ha⟩:∃a2,((f.aB=[]->a2=.lit (.slice none 0 0))/\(f.aB≠[]->a2=jm f.aB))/\a.W a2:=by
        by_cases e:es=[]
        . exact⟨_,⟨λ_=>rfl,λe2=>absurd (by grind) e2⟩,by rw[fi e];exact .refl _⟩
        . exact⟨_,⟨λe2=>absurd (by grind) e,λ_=>rfl⟩,by subst hf;exact u.W⟩
       refine .oW (a':=.agg [a2,rows f.roads,int f.aQ,int f.eP,int f.cM,int f.aW]) (pP (by grind) λi x y x1 x2=>?_) (.less (σ':=σ.set c (.cells [ints nums,int X,.lit (.int .u64 Y)])) (λy x p=>?_) (.done (h f a2 _ gD ⟨⟨X,Y,by omega,ab.ai _ _ _⟩,λy p=>ab.ah _ _ p⟩ gG)))
       . subst hf
         match i with
         |0=>grind
         |1=>simp at x1 x2;subst x1;subst x2;exact iq 1 _ spr
         |2=>simp at x1 x2;subst x1;subst x2;exact .refl _
         |3=>simp at x1 x2;subst x1;subst x2;exact .refl _
         |4=>simp at x1 x2;subst x1;subst x2;exact .refl _
         |5=>simp at x1 x2;subst x1;subst x2;exact .refl _
         |i+6=>simp at x1
       . by_cases y1:y=c
         . subst y1
           rw[ab.ai]at p;rw[ab.ah _ _ n4,E];exact p
         . rw[ab.ah _ _ y1]at p
           have y4:y≠A:=λe=>by grind
           rw[ab.ah _ _ y4];exact u.1 y x (by simpa[ab.del,y1]using p)
end
end
section
open Go.cz Go.Conc
theorem MR{f}(b:f.Good)  e :bT f e≠[]:=by
 unfold bT iR;have:=b.le;by_cases a:e.jw=0
 . simp[a]
 . have c:(f.eP-f.aQ+1).toNat=(f.eP-f.aQ).toNat+1:=by omega
   rw[ZG a,c,List.range_succ_eq_map];split<;>simp
def MT(f:Fr)(l:acm):acm:=(bT f (aR f (l.getD 0 0))).filter λh=>l.all λj=>decide (h∈bT f (aR f j))
theorem Ds{f l}(b:l≠[]):fT f l=MT f l:=by
 match l,b with
 | a::r,_=>
   simp only[fT,MT,iD,abz,List.getD_cons_zero];refine aaP λx c=>?_
   simp[c,ZF]
section
variable{k:Int->Int}
abbrev Dt(k:Int->Int):Int->Int->Bool:=λa b=>decide (k a<k b)
def Dn(k:Int->Int)(r:acm):Prop:=r.Pairwise λy z=>k z<=k y
theorem Du  x :∀{r},(∀z∈r,k z<=k x)->eE (Dt k) x r=x::r
 |[],_=>rfl
 | y::r,h=>by
   unfold eE
   grind
theorem z7  x :∀{r z},z∈eE (Dt k) x r->z=x\/z∈r
 |[],z,h=>by simp[eE]at h;exact .inl h
 | y :: r,z,h=>by
   unfold eE at h;split at h
   . rcases ZW.1 h with rfl|h
     . simp_all
     . rcases z7 x h with h|h
       . exact .inl h
       simp_all
   simp_all
theorem vO  x :∀{r},Dn k r->Dn k (eE (Dt k) x r)
 |[],_=>by simp[eE,Dn]
 | y ::r,h=>by
   obtain⟨d,b⟩:=aae.1 h;unfold eE;split
   . next q=>
     have c:k x<k y:=by simp_all
     refine aae.2 ⟨λz a=>?_,vO x b⟩;rcases z7 x a with rfl|a
     . omega
     simp_all
   . next q=>
     have c:¬k x<k y:=by simp_all
     refine aae.2 ⟨λz a=>?_,h⟩
     grind
theorem BD{x y r}(h:k x<k y):eE (Dt k) x (y::r)=y::eE (Dt k) x r:=by simp[eE,Dt,h]
theorem BE{x y r}(h:¬k x<k y):eE (Dt k) x (y::r)=x::y::r:=by simp[eE,Dt,h]
theorem Dv  x :∀r:acm,r.Sublist (eE (Dt k) x r)
 |[]=>List.nil_sublist _
 | y::r=>by
   unfold eE;split
   . exact(Dv x r).cons_cons y
   simp_all
theorem MU  x  {d r}(a:d.Sublist r) (hd:Dn k r):(eE (Dt k) x d).Sublist (eE (Dt k) x r):=by
 induction a with
 |slnil=>simp_all
 | cons y a b=>
   obtain⟨e,c⟩:=aae.1 hd;by_cases q:k x<k y
   . rw[BD q]
     exact(b c).cons y
   . rw[BE q,Du x (λz f=>by grind)]
     simp_all
 | cons_cons y a b=>
   obtain⟨e,c⟩:=aae.1 hd;by_cases q:k x<k y
   . rw[BD q,BD q]
     exact(b c).cons_cons y
   . rw[BE q,BE q]
     simp_all
theorem Jj{d l:acm}(b:d.Sublist l):∀{a r},a.Sublist r->Dn k r->(d.foldl (λr x=>eE (Dt k) x r) a).Sublist (l.foldl (λr x=>eE (Dt k) x r) r):=by
 induction b with
 |slnil=>simp_all
 |cons x b c=>intro a r h hd;exact c (h.trans (Dv x r)) (vO x hd)
 |cons_cons x b c=>intro a r h hd;exact c (MU x h hd) (vO x hd)
end
theorem mK  f   l :aY f l=(eQ (Dt λn=>(aR f n).hour) l).reverse:=by
 unfold aY;congr 2;funext a b;unfold uo Bx Dt
 grind
theorem BF{f a l}(b:a.Sublist l):(aY f a).Sublist (aY f l):=by rw[mK,mK];exact(Jj b (List.Sublist.refl _) List.Pairwise.nil).reverse
theorem te{f l n}:n∈aY f l↔n∈l:=by unfold aY;rw[List.mem_reverse,um]
theorem Rh:∀a:Fin 32,∀b:Fin 32,∀c:Fin 32,bN (a.val:Int) (c.val:Int)<=bN (a.val:Int) (b.val:Int)+bN (b.val:Int) (c.val:Int):=by decide +kernel
theorem kZ{l}(h:sW none l=0):∃a:Fin 32,aX l=(a.val:Int):=by have:=jX (qz h);exact⟨⟨(aX l).toNat,by omega⟩,by grind⟩
def Fit(f:Fr)(a b:Int):Prop:=gJ f a b=false
theorem Fr.Good.Zp{f:Fr}(a:f.Good){i j k}(hi:i<f.roads.length)(hj:j<f.roads.length)(b:k<f.roads.length):rd f.roads i k<=rd f.roads i j+rd f.roads j k:=by
 have h:=a.JB;unfold fN at h;split at h
 . cases h
 split at h
 . cases h
 split at h
 . omega
 split at h
 . cases h
 next q=>
 simp only[aac,ZE,not_exists,not_and]at q;have c:=q i hi k b;unfold dN at c
 grind
theorem gK{f n}(h:0<=n/\n<f.aB.length):aR f n∈f.aB:=by
 have:n.toNat<f.aB.length:=by omega
 rw[s8 this]
 simp_all
theorem z8{f}(d:f.Good){a b c}(q:0<=a/\a<f.aB.length)(hb:0<=b/\b<f.aB.length)(r:0<=c/\c<f.aB.length)(e:Fit f a b)(g:Fit f b c):Fit f a c:=by
 have h:=oT (d.tz _ (gK q));have l:=oT (d.tz _ (gK hb));have m:=oT (d.tz _ (gK r));have hd:=d.cM;obtain⟨A,n⟩:=kZ h.2.2.2.2.2;obtain⟨B,o⟩:=kZ l.2.2.2.2.2;obtain⟨C,p⟩:=kZ m.2.2.2.2.2;have s:=Rh A B C;have t:=h.2.1;have u:=l.2.1;have pc:=m.2.1;have v:=d.Zp (i:=(aR f a).place.toNat) (j:=(aR f b).place.toNat) (k:=(aR f c).place.toNat) (by omega) (by omega) (by omega);unfold Fit gJ at e g ⊢;rw[n,o]at e;rw[o,p]at g;rw[n,p];simp only[aad]at e g ⊢;have w:f.cM*bN (A.val:Int) (C.val:Int)<=f.cM*(bN (A.val:Int) (B.val:Int)+bN (B.val:Int) (C.val:Int)):=Int.mul_le_mul_of_nonneg_left s (by omega)
 grind
theorem xS  f   a b   r :dt f (a::b::r)=(gJ f a b||dt f (b::r)):=by
 unfold dt;rw[show(a::b::r).length-1=r.length+1 from rfl,List.range_succ_eq_map,List.any_cons,List.any_map];rfl
theorem uu{f}(e:f.Good):∀{l},(∀n∈l,0<=n/\n<f.aB.length)->dt f l=false->l.Pairwise (Fit f)
 |[],_,_=>List.Pairwise.nil
 |[a],_,_=>List.pairwise_singleton _ _
 | a::b::r,d,h=>by
   rw[xS,abk]at h;have g:=uu e (λn i=>d n (by simp[i])) h.2;refine aae.2 ⟨λz j=>?_,g⟩;rcases ZW.1 j with rfl|c
   . exact h.1
   . exact z8 e (d a (by simp)) (d b (by simp)) (d z (by simp[c])) h.1 ((aae.1 g).1 z c)
theorem qB{f}:∀{l},l.Pairwise (Fit f)->dt f l=false
 |[],_=>rfl
 |[a],_=>rfl
 |a::b::r,h=>by obtain⟨c,d⟩:=aae.1 h;rw[xS,qB d,Bool.or_false];exact c b (by simp)
theorem qC{f l}(b:l≠[]){h}:h∈fT f l↔∀j∈l,h∈bT f (aR f j):=by
 rw[Ds b]
 match l,b with
 | a::r,_=>
   simp only[MT,aaA,ZF,zU]
   simp_all
theorem pQ{f l}:lZ f l=0↔dV f (aY f l)=false/\cS f (aY f l)=false/\dt f (aY f l)=false:=by
 unfold lZ
 grind
theorem Pg{f}(m:f.Good){c l}(o:c.Sublist l)(p:c≠[])(q:∀n∈l,0<=n/\n<f.aB.length)(h:lZ f l=0):lZ f c=0:=by
 obtain⟨s,g,t⟩:=pQ.1 h;have i:=BF (f:=f) o
 have b:aY f c≠[]:=λe=>by
  cases c with
  |nil=>grind
  |cons a r=>have:a∈aY f (a::r):=te.2 (by simp);simp_all
 have d:aY f l≠[]:=λe=>b (by simp_all)
 have u:∀n∈aY f l,0<=n/\n<f.aB.length:=λn v=>q n (te.1 v)
 generalize aY f l=S at *;refine pQ.2 ⟨?_,?_,qB ((uu m u t).sublist i)⟩
 . generalize aY f c=k at *
   unfold dV at s ⊢
   grind
 . generalize aY f c=k at *
   unfold cS at g ⊢;simp only[aad]at g ⊢;obtain⟨x,w⟩:=aaS _ g;have:x∈fT f k:=(qC b).2 λj y=>(qC d).1 w j (i.subset y)
   grind
theorem Rk{f}(b:f.Good)  n :lZ f [n]=0:=by
 have e:aY f [n]=[n]:=by simp[aY,eQ,eE]
 refine pQ.2 ?_;rw[e];refine⟨by simp[dV],?_,rfl⟩;unfold cS;simp only[aad];obtain⟨x,c⟩:=aaS _ (MR b (aR f n));exact aaY ((qC (by simp)).2 (λj a=>by simp at a;subst a;exact c))
theorem G8{α β:Type}{B}{g:α->List β}:∀(l:List α),(∀x∈l,(g x).length<=B)->(l.flatMap g).length<=l.length*B
 |[],_=>by simp
 | a::l,h=>by
   rw[abf,ZN,aaa,abm,Nat.one_mul];have c:=h a (by simp);have d:=G8 l λx b=>h x (by simp[b])
   omega
theorem Dw{f}(a:f.Good)  begun :∀  fuel   cW   many   b ,(fP f begun fuel cW many b).length<=6 ^ fuel
 |0,_,_,_=>by simp[fP]
 | fuel+1,cW,many,b=>by
   unfold fP;refine ZH (G8 (B:=6 ^ fuel) _ λk _=>?_) ?_
   . split
     . simp
     split
     . exact Dw a begun fuel _ _ _
     . simp
   . rw[aaJ,Nat.pow_succ,Nat.mul_comm]
     have:=a.aW;exact Nat.mul_le_mul_left _ (by omega)
theorem BG{f}(a:f.Good)  begun :(aH f begun).length<=46656:=by refine ZH (Dw a begun _ _ _ _) ?_;exact Nat.pow_le_pow_right (by omega) a.qH
theorem mL  f   begun :∀  fuel   cW   many   a ,begun.length<=cW.length->fP f begun fuel cW many a=fP f [] fuel cW many a
 |0,_,_,_,_=>rfl
 | fuel+1,cW,many,a,h=>by
   unfold fP;congr 1;funext k;have b:¬(cW.length<begun.length/\begun.getD cW.length 0≠(k:Int)):=by omega
   have c:¬(cW.length<([]:acm).length/\([]:acm).getD cW.length 0≠(k:Int)):=by simp
   rw[ZB b,ZB c];split
   . exact mL f begun fuel _ _ _ (by simp;omega)
   . rfl
theorem FJ{f}(b:f.Good)(e:2<=f.aB.length):aH f []=aH f [0,0]++aH f [0,1]:=by
 obtain⟨n,c⟩:∃n,f.aB.length=n+2:=⟨f.aB.length-2,by omega⟩;have g:=b.aW;have d:(min ((0:Int)+1) f.aW).toNat=1:=by omega
 unfold aH;rw[c];unfold fP;rw[d];simp only[ZQ,abI,abo,abf,List.flatMap_nil,aao];simp;by_cases a:jA f (bS 0 0)=true
 . simp only[a,ZD]
   unfold fP;have e2:(min (max (0:Int) 1+1) f.aW).toNat=1\/(min (max (0:Int) 1+1) f.aW).toNat=2:=by omega
   rcases e2 with e2|e2
   . rw[e2]
     simp only[ZQ,abI,abo,abf,List.flatMap_nil,aao];simp;rw[mL f [0,0] n [0,0] _ _ (by simp)]
   . rw[e2]
     simp only[ZQ,abI,abo];simp;rw[mL f [0,0] n [0,0] _ _ (by simp),mL f [0,1] n [0,1] _ _ (by simp)]
 . simp[a]
theorem MV{f}(a:f.Good)(d:f.aB.length<2):aH f []≠[]:=by
 have e:=a.aW;have b:(min ((0:Int)+1) f.aW).toNat=1:=by omega
 have c:jA f (bS 0 0)=true:=by
  have:aA (bS 0 0)=[0]:=by decide +kernel
  unfold jA;rw[this,zU];exact Rk a 0
 rcases(show f.aB.length=0\/f.aB.length=1 by omega)with hn|hn
 . unfold aH;rw[hn];simp[fP]
 . unfold aH;rw[hn]
   unfold fP;rw[b];simp only[ZQ,abI,abo,abf,List.flatMap_nil,aao];simp[c,fP]
theorem FK{f}(a:f.Good)(b:2<=f.aB.length):gV f=((aH f []).length:Int):=by
 unfold gV;rw[ZB (by omega),FJ a b,ZN];omega
theorem z9{f}(a:f.Good):0<gV f↔aH f []≠[]:=by
 by_cases b:2<=f.aB.length
 . rw[FK a b]
   cases aH f []<;>simp
 . have:=MV a (by omega)
   have e:gV f=1:=by unfold gV;omega
   simp_all
theorem xT{β:Type}{G:Nat->List β}{c}:∀d ,(∀j,c<=j->j<c+d->G j=[])->(List.range (c+d)).flatMap G=(List.range c).flatMap G
 |0,_=>rfl
 | d+1,h=>by
   rw[<-Nat.add_assoc,ZQ,aaU,xT d λj a b=>h j a (by omega)]
   simp_all
theorem Aa{α β:Type}{f g:α->List β}{l:List α}(h:∀x∈l,f x=g x):l.flatMap f=l.flatMap g:=by rw[List.flatMap_def,List.flatMap_def,abq h]
def bh(w:acm)(k:Int):acm:=(w.zipIdx.filter λp=>decide (p.1=k)).map λp=>(p.2:Int)
def Ha(l:acm):abQ:=(List.range (bE l+1).toNat).map λk:Nat=>l++[(k:Int)]
def jH:Nat->abQ
 |0=>[[]]
 |i+1=>(jH i).flatMap Ha
def xU:Nat->acm->abQ
 |0,l=>[l]
 |n+1,l=>(List.range (bE l+1).toNat).flatMap λk:Nat=>xU n (l++[(k:Int)])
def qY(f:Fr)(l:acm):Bool:=decide (bE l<=f.aW) && (List.range (bE l).toNat).all λk:Nat=>decide (lZ f (bh l k)=0)
theorem eG  w   x k :bh (w++[x]) k=bh w k++if x=k then[(w.length:Int)]else[]:=by
 unfold bh
 grind
theorem Dx  w t   k :(bh w k).Sublist (bh (w++t) k):=by
 unfold bh
 grind
theorem cX{w k n}(h:n∈bh w k):0<=n/\n<w.length/\w.getD n.toNat 0=k:=by
 unfold bh at h
 grind
theorem cC  w   x :bE (w++[x])=max (bE w) (x+1):=by
 unfold bE
 simp_all
theorem qZ(t:acm):∀n ,n<=t.foldl (λn k=>max n (k+1)) n:=by
 induction t with
 |nil=>simp_all
 |cons a t b=>grind
theorem jr  w t :bE w<=bE (w++t):=by unfold bE;rw[aak];exact qZ t _
theorem pR  w :0<=bE w:=qZ w 0
theorem xV:∀  n   w l ,l∈xU n w->∃t,l=w++t/\t.length=n
 |0,w,l,h=>by simp[xU]at h;simp_all
 | n+1,w,l,h=>by
   unfold xU at h;obtain⟨k,_,a⟩:=aaQ.1 h;obtain⟨t,b,c⟩:=xV n _ l a
   simp_all
theorem Ab:∀n m ,(jH m).flatMap (xU n)=jH (m+n)
 | 0,m=>by
   have:xU 0=λl=>[l]:=by funext l;rfl
   simp_all
 | n+1,m=>by
   have e:∀l,xU (n+1) l=(Ha l).flatMap (xU n):=λl=>by unfold Ha;rw[List.flatMap_map];rfl
   rw[show m+(n+1)=m+1+n by omega,<-Ab n (m+1),jH,List.flatMap_assoc]
   exact Aa λl _=>e l
theorem MX:∀x:Fin 64,∀n:Fin 6,(∀e∈aA (x.val:Int),e<(n.val:Int))->aA (bS (x.val:Int) (n.val:Int))=aA (x.val:Int)++[(n.val:Int)]:=by decide +kernel
theorem Ac{x}{n:Nat}(b:0<=x/\x<64)(a:n<6)(h:∀e∈aA x,e<n):aA (bS x n)=aA x++[(n:Int)]:=by
 have c:(x.toNat:Int)=x:=by omega
 have:=MX ⟨x.toNat,by omega⟩ ⟨n,a⟩
 simp_all
theorem MY{f}(b:f.Good){w t}{k:Nat}(hlen:(w++t).length=f.aB.length)(e:(k:Int)<bE w)(a:bh w k≠[])(h:qY f (w++t)=true):lZ f (bh w k)=0:=by
 unfold qY at h;rw[za,ZF]at h;have g:=jr w t;have c:=h.2 k (ZE.2 (by omega));refine Pg b (Dx w t k) a (λn d=>?_) (abh c);have:=cX d;omega
theorem xW{f}(p:f.Good):∀  fuel   cW b ,cW.length+fuel=f.aB.length->Hs f cW.length b->(∀k ,k<6->aA (b.getD k 0)=bh cW k)->bE cW<=f.aW->(∀k:Nat,(k:Int)<bE cW->lZ f (bh cW k)=0) ->
 fP f [] fuel cW (bE cW) b=(xU fuel cW).filter (qY f)
 | 0,cW,b,_,_,_,v,w=>by
   have:qY f cW=true:=by
    unfold qY
    grind
   simp[fP,xU,this]
 | fuel+1,cW,b,B,q,hb,v,w=>by
   have r:=p.aW;have C:=p.qH;have x:=pR cW;rw[rJ];unfold xU;rw[List.filter_flatMap];obtain⟨d,hd⟩:∃d,(bE cW+1).toNat=(min (bE cW+1) f.aW).toNat+d:=⟨(bE cW+1).toNat-(min (bE cW+1) f.aW).toNat,by omega⟩
   rw[hd,xT d λj D E=>?_]
   . refine Aa λk u=>?_
     have u:=ZE.1 u;have h:k<6:=by omega
     have c:k<b.length:=by rw[q.qH];exact h
     have i:b.getD k 0=b[k]:=by simp_all
     have m:cW.length<6:=by omega
     have n:aA (bS b[k] cW.length)=bh (cW++[(k:Int)]) k:=by rw[Ac (q.small _ (zD c)) m (q.bits _ (zD c)),<-i,hb k h,eG,ZG rfl]
     unfold oU;rw[ZB (by simp),i]
     by_cases o:jA f (bS b[k] cW.length)=true
     . rw [ZG o,<-cC]
       unfold jA at o;rw[zU,n]at o;have y:=q.set m c;refine xW p fuel _ _ (by simp;omega) (by simp_all) (λj s=>?_) (by rw[cC];omega) λj s=>?_
       . by_cases e:j=k
         . simp_all
         . rw[zH,aaq (zj e),<-List.getD_eq_getElem?_getD,hb j s,eG,ZB (by omega),aao]
       . by_cases e:j=k
         . simp_all
         . rw[cC]at s
           rw[eG,ZB (by omega),aao]
           grind
     . rw[ZB o]
       symm;rw[abH];intro l g a;obtain⟨t,rfl,z⟩:=xV _ _ _ g;refine o ?_;unfold jA;rw[zU,n];refine MY p (by simp;omega) (by rw[cC];omega) ?_ a
       rw[eG,ZG rfl];simp
   . rw[abH]
     intro l g a;obtain⟨t,rfl,z⟩:=xV _ _ _ g;unfold qY at a;rw[za,zU]at a;have A:=jr (cW++[(j:Int)]) t;rw[cC]at A;omega
theorem rK{f}(d:f.Good):(jH f.aB.length).filter (qY f)=aH f []:=by
 have n:=d.aW;have i:bE []=0:=rfl;have j:aA 0=[]:=by decide +kernel
 have l:∀x∈([0,0,0,0,0,0]:acm),x=0:=λx g=>by simp_all
 have m:Hs f ([]:acm).length [0,0,0,0,0,0]:=⟨rfl,λx g e o=>by simp_all,λx g=>by simp_all⟩
 have c:∀k:Nat,k<6->aA (([0,0,0,0,0,0]:acm).getD k 0)=bh [] k:=λk h=>by
  have:([0,0,0,0,0,0]:acm).getD k 0=0:=by
   match k,h with
   |0,_=>rfl
   |1,_=>rfl
   |2,_=>rfl
   |3,_=>rfl
   |4,_=>rfl
   |5,_=>rfl
  rw[this,j];rfl
 have a:=xW d f.aB.length [] [0,0,0,0,0,0] (by simp) m c (by omega) (λk h=>by omega);rw[i]at a;have b:=Ab f.aB.length 0;rw[aaK]at b;unfold aH;rw[a,<-b];simp[jH]
theorem qD:∀  i ,∀l∈jH i,l.length=i/\(∀x∈l,0<=x/\x<i)/\bE l<=i
 |0,l,h=>by simp[jH]at h;subst h;exact⟨rfl,by simp,by decide⟩
 | i+1,l,h=>by
   unfold jH at h;obtain⟨p,c,a⟩:=aaQ.1 h;obtain⟨d,e,f⟩:=qD i p c;unfold Ha at a;obtain⟨k,b,rfl⟩:=ZU.1 a;have b:=ZE.1 b;have:=pR p;refine⟨by simp[d],λx g=>?_,by rw[cC];omega⟩
   grind
theorem Dy{k}:∀(l r:acm),(∀z∈r,∀x∈l,k z<=k x)->l.Pairwise (λa b=>k a<=k b)->l.foldl (λr x=>eE (Dt k) x r) r=l.reverse++r
 |[],r,_,_=>rfl
 | a::l,r,d,e=>by
   obtain⟨g,f⟩:=aae.1 e;rw[aay,Du a (λz c=>d z c a (by simp)),Dy l (a::r) (λz c x h=>?_) f,List.reverse_cons,aaI]
   . rfl
   grind
theorem Dz{f l}(h:l.Pairwise λa b=>(aR f a).hour<=(aR f b).hour):aY f l=l:=by
 rw[mK];unfold eQ;rw[Dy l [] (by simp) h];simp
theorem pS  k :∀(w:acm)  n ,(((w.zipIdx n).filter λp=>decide (p.1=k)).map λp=>(p.2:Int)).Pairwise (·<·)/\∀x∈(((w.zipIdx n).filter λp=>decide (p.1=k)).map λp=>(p.2:Int)),(n:Int)<=x
 |[],n=>by simp
 | a ::w,n=>by
   have b:=pS k w (n+1);rw[List.zipIdx_cons,List.filter_cons];split
   . rw[abz]
     refine⟨aae.2 ⟨λx c=>?_,b.1⟩,λx c=>?_⟩
     . grind
     grind
   grind
theorem fI{w k}{i:Nat}(hi:i<w.length)(h:w.getD i 0=k):(i:Int)∈bh w k:=by
 unfold bh;refine ZU.2 ⟨(w[i],i),aaA.2 ⟨?_,?_⟩,rfl⟩
 . grind
 simp_all
def uv:acm->acm->acm->acm × List Int
 |[],w,s=>(w,s)
 |h::l,w,s=>if h∈s then uv l (w++[(s.idxOf h:Int)]) s else uv l (w++[(s.length:Int)]) (s++[h])
structure Canon(p w s:acm):Prop where
 len:w.length=p.length
 many:bE w=s.length
 nd:s.Nodup
 sub:∀x∈s,x∈p
 xX:∀k ,(hk:k<s.length)->bh w k=bh p s[k]
 part:w∈jH p.length
theorem Canon.all{p w s}(h:Canon p w s):∀x∈p,x∈s:=λx c=>by
 obtain⟨i,d,rfl⟩:=aab.1 c;have f:=(qD _ _ h.part).2.1;have a:i<w.length:=by rw[h.len];exact d
 have g:w[i]<bE w:=by
  have e:w=w.take i++(w[i]::w.drop (i+1)):=by simp_all
  have:bE (w.take i++[w[i]])<=bE w:=by
   have:=jr (w.take i++[w[i]]) (w.drop (i+1))
   grind
  rw[cC]at this;omega
 have k:=f _ (zD a);rw[h.many]at g;have j:w[i].toNat<s.length:=by omega
 have b:(i:Int)∈bh w (w[i].toNat:Int):=fI a (by grind);rw[h.xX _ j]at b;have:=(cX b).2.2
 simp_all
theorem DC{s:acm}{h}(a:h∈s):∃b ,s[s.idxOf h]=h:=⟨List.idxOf_lt_length_iff.2 a,List.getElem_idxOf (List.idxOf_lt_length_iff.2 a)⟩
theorem MZ{s:acm}(a:s.Nodup){i j hi}{hj:j<s.length}(e:s[i]=s[j]):i=j:=by
 rw[List.Nodup,List.pairwise_iff_getElem]at a
 grind
theorem uw:∀  l p w s ,Canon p w s->Canon (p++l) (uv l w s).1 (uv l w s).2
 |[],p,w,s,h=>by simpa[uv]using h
 | a :: l, p,w,s,h=>by
   have hlen:=h.len;rw[show p++a::l=(p++[a])++l by simp];unfold uv;split
   . next f=>
     obtain⟨i,t⟩:=DC f;refine uw l _ _ _ ⟨by simp[hlen],?_,h.nd,λx hx=>by simp[h.sub x hx],λk c=>?_,?_⟩
     . rw[cC,h.many];omega
     . rw[eG,eG,h.xX k c,hlen]
       by_cases e:k=s.idxOf a
       . simp_all
       . rw[ZB (by omega),ZB (λj=>e (MZ h.nd (hi:=c) (hj:=i) (by omega)))]
     . rw[ZN,aav,jH,aaQ]
       exact⟨w,h.part,ZU.2 ⟨_,ZE.2 (by rw[h.many];omega),rfl⟩⟩
   . next f=>
     refine uw l _ _ _ ⟨by simp[hlen],?_,?_,λx hx=>?_,λk c=>?_,?_⟩
     . rw[cC,h.many,ZN];simp;omega
     . rw[aby]
       exact⟨h.nd,by simp,λx hx y u=>by grind⟩
     . rcases ZA.1 hx with hx|hx
       . simp[h.sub x hx]
       simp_all
     . rw [eG,eG,hlen]
       rw[ZN,aav]at c;by_cases e:k=s.length
       . subst e
         rw[ZG rfl];have m:(s++[a])[s.length]=a:=by simp
         rw[m,ZG rfl];congr 1
         have n:bh w (s.length:Int)=[]:=by
          rw[List.eq_nil_iff_forall_not_mem];intro x hx;obtain⟨o,q,g⟩:=cX hx;have b:x.toNat<w.length:=by omega
          rw[zH,Rp b,aat]at g;have e:w=w.take x.toNat++(w[x.toNat]::w.drop (x.toNat+1)):=by rw[<-List.drop_eq_getElem_cons b,List.take_append_drop]
          have:=jr (w.take x.toNat++[w[x.toNat]]) (w.drop (x.toNat+1));rw[aaI,abK,<-e,cC,h.many]at this;omega
         have r:bh p a=[]:=by
          rw[List.eq_nil_iff_forall_not_mem];intro x hx;obtain⟨o,q,g⟩:=cX hx;have b:x.toNat<p.length:=by omega
          rw[zH,Rp b,aat]at g;exact f (g ▸ h.all _ (zD b))
         rw[n,r]
       . have d:k<s.length:=by omega
         rw[ZB (by omega),List.getElem_append_left d,ZB (λj=>f (by simp_all)),h.xX k d]
     . rw[ZN,aav,jH,aaQ]
       exact⟨w,h.part,ZU.2 ⟨_,ZE.2 (by rw[h.many];omega),rfl⟩⟩
theorem DD  p :∃w s,Canon p w s:=⟨_,_,by
 have:=uw p [] [] [] ⟨rfl,rfl,abx,by simp,λk a=>by simp at a,by simp[jH]⟩;simpa using this⟩
theorem uy:∀(m:Nat) (s:acm),s.Nodup->(∀x∈s,0<=x/\x<m)->s.length<=m
 | 0,s,_,h=>by
   cases s with
   |nil=>simp_all
   |cons a s=>have:=h a (by simp);omega
 | m+1,s,b,h=>by
   have c:=uy m (s.erase (m:Int)) (b.erase _) λx d=>by grind
   grind
abbrev rL:xH:=⟨0,0,0,[],0,0⟩
def M0(f:Fr)(a b:xH):Prop:=rd f.roads a.place.toNat b.place.toNat+f.cM*bN (aX a.marks) (aX b.marks)<=b.hour-a.hour
structure Seen(f0:Fr)(aW:Nat)(C H:acm)(ks:acm)(es last:List xH):Prop where
 len:ks.length=es.length
 FL:∀x∈ks,0<=x/\x<aW
 tz:∀e∈es,cJ f0.roads.length e=0
 cR:∀i,i<es.length->(es.getD i rL).cR=C.getD (ks.getD i 0).toNat 0
 Su:∀i,i<es.length->H.getD (ks.getD i 0).toNat 0∈bT f0 (es.getD i rL)
 fit:∀i j,i<j->j<es.length->ks.getD i 0=ks.getD j 0->(∀m,i<m->m<j->ks.getD m 0≠ks.getD i 0)->M0 f0 (es.getD i rL) (es.getD j rL)
 Wf:∀i,i<es.length->(∀m,i<m->m<es.length->ks.getD m 0≠ks.getD i 0)->last.getD (ks.getD i 0).toNat rL=es.getD i rL
 Hb:∀k,k<aW->(last.getD k rL).cR=C.getD k 0
 Rl:last.length=aW
theorem Sv{α:Type}  l  (x d:α)  i :(l++[x]).getD i d=if i<l.length then l.getD i d else if i=l.length then x else d:=by grind
theorem Seen.push{f0 aW C H ks es last}(h:Seen f0 aW C H ks es last){k n}(v:k<aW)(A:cJ f0.roads.length n=0)(s:n.cR=(last.getD k rL).cR)(B:H.getD k 0∈bT f0 n)(D:(k:Int)∈ks->M0 f0 (last.getD k rL) n):
 Seen f0 aW C H (ks++[(k:Int)]) (es++[n]) (last.set k n):=by
 have hlen:=h.len;have w:=h.Rl;have d:∀i,i<es.length->(es++[n]).getD i rL=es.getD i rL:=λi a=>by grind
 have y:(es++[n]).getD es.length rL=n:=by simp_all
 have c:∀i,i<es.length->(ks++[(k:Int)]).getD i 0=ks.getD i 0:=λi a=>by grind
 have l:(ks++[(k:Int)]).getD es.length 0=(k:Int):=by simp_all
 have o:∀i,i<es.length->0<=ks.getD i 0/\ks.getD i 0<aW:=λi a=>by
  have f:i<ks.length:=by omega
  rw[zH,Rp f];exact h.FL _ (zD f)
 refine⟨by simp[hlen],λx hx=>?_,λe he=>?_,λi a=>?_,λi a=>?_,λi j p g he q=>?_,λi a q=>?_,λj g=>?_,by simp_all⟩
 . rcases ZA.1 hx with hx|hx
   . exact h.FL x hx
   simp_all
 . rcases ZA.1 he with he|he
   . exact h.tz e he
   simp_all
 . rw[ZN,aav]at a
   by_cases e:i=es.length
   . subst e;rw[y,l,s,abe];exact h.Hb k v
   . rw[d i (by omega),c i (by omega)];exact h.cR i (by omega)
 . rw[ZN,aav]at a
   by_cases e:i=es.length
   . simp_all
   . rw[d i (by omega),c i (by omega)];exact h.Su i (by omega)
 . rw [ZN,aav]at g
   have a:i<es.length:=by omega
   by_cases e:j=es.length
   . subst e
     rw[c i a,l]at he;have z:=h.Wf i a λm t u=>by simp_all
     rw[he,abe]at z
     grind
   . rw[c i a,c j (by omega)]at he
     rw[d i a,d j (by omega)];refine h.fit i j p (by omega) he λm t u=>?_
     grind
 . rw[ZN,aav]at a q
   by_cases e:i=es.length
   . simp_all
   . have b:i<es.length:=by omega
     have r:=q es.length b (by omega);rw[l,c i b]at r;have E:=o i b;rw[d i b,c i b,zH,aaq (by omega),<-List.getD_eq_getElem?_getD];refine h.Wf i b λm t u=>?_
     grind
 . by_cases e:j=k
   . subst e
     rw[zH,aax (by omega),aat,s];exact h.Hb j g
   . rw[zH,aaq (zj e),<-List.getD_eq_getElem?_getD]
     exact h.Hb j g
section
variable{f:Fr}{aW:Nat}{C H ks:acm}{last:List xH}
theorem UM(a:f.Good){i j}(hi:i<f.roads.length)(hj:j<f.roads.length):0<=rd f.roads i j:=by
 obtain⟨c,d⟩:=a.row hi;have b:j<f.roads[i].length:=by omega
 unfold rd
 simp_all
theorem M3(c:f.Good){a b:Int}(d:0<=a/\a<f.aB.length)(hb:0<=b/\b<f.aB.length)(h:Fit f a b):(aR f a).hour<=(aR f b).hour:=by
 have e:=oT (c.tz _ (gK d));have g:=oT (c.tz _ (gK hb));have hd:=c.cM;have l:=UM c (i:=(aR f a).place.toNat) (j:=(aR f b).place.toNat) (by omega) (by omega);have k:=(G4 (jX (qz e.2.2.2.2.2)) (jX (qz g.2.2.2.2.2))).2.1;have m:=Int.mul_nonneg (show 0<=f.cM by omega) k;unfold Fit gJ at h
 grind
theorem Seen.pair(h:Seen f aW C H ks f.aB last)(b:f.Good):∀  d i j ,j-i<=d->i<j->j<f.aB.length->ks.getD i 0=ks.getD j 0->Fit f i j
 |0,i,j,hd,a,_,_=>by omega
 | d + 1,i,j,hd,a,k,l=>by
   by_cases q:∃m,i<m/\m<j/\ks.getD m 0=ks.getD i 0
   . obtain⟨m,c,e,g⟩:=q
     have n:=h.pair b d i m (by omega) c (by omega) g.symm;have o:=h.pair b d m j (by omega) e k (by omega);exact z8 b (by omega) (by omega) (by omega) n o
   . have:=h.fit i j a k l λm c e g=>q ⟨m,c,e,g⟩
     unfold M0 at this;unfold Fit gJ;rw[show aR f (i:Int)=f.aB.getD i rL from rfl,show aR f (j:Int)=f.aB.getD j rL from rfl]
     simp_all
theorem Seen.one(h:Seen f aW C H ks f.aB last)(m:f.Good){k}(l:bh ks k≠[]):lZ f (bh ks k)=0:=by
 have c:∀n∈bh ks k,0<=n/\n<f.aB.length/\ks.getD n.toNat 0=k:=λn e=>by have:=cX e;rw[h.len]at this;exact this
 have d:(bh ks k).Pairwise (Fit f):=by
  refine((pS k ks 0).1).imp_of_mem λ{a b} i hb g=>?_
  have j:=c a i;have p:=c b hb;have:=h.pair m (b.toNat-a.toNat) a.toNat b.toNat (ZI _) (by omega) (by omega) (by omega)
  grind
 have o:aY f (bh ks k)=bh ks k:=Dz (d.imp_of_mem λ{a b} i hb g=>M3 m ⟨(c a i).1,(c a i).2.1⟩ ⟨(c b hb).1,(c b hb).2.1⟩ g);refine pQ.2 ?_;rw[o];refine⟨?_,?_,qB d⟩
 . have q:∀n∈bh ks k,(aR f n).cR=C.getD k.toNat 0:=λn e=>by
    have j:=c n e;have:=h.cR n.toNat (by omega);rw[j.2.2]at this;exact this
   unfold dV
   grind
 . unfold cS
   simp only[aad]
   have:H.getD k.toNat 0∈fT f (bh ks k):=(qC l).2 λn e=>by
    have j:=c n e;have:=h.Su n.toNat (by omega);rw[j.2.2]at this;exact this
   grind
theorem Seen.cW(h:Seen f aW C H ks f.aB last)(c:f.Good)(l:(aW:Int)<=f.aW):∃w s,Canon ks w s/\w∈aH f []:=by
 obtain⟨w,s,a⟩:=DD ks;refine⟨w,s,a,?_⟩;rw[<-rK c,aaA,<-h.len];refine⟨a.part,?_⟩;unfold qY;rw[za,ZF,a.many];have m:=uy aW s a.nd λx g=>h.FL x (a.sub x g)
 refine⟨decide_eq_true (by omega),λk d=>?_⟩;have d:=ZE.1 d;have b:k<s.length:=by omega
 rw[zU,a.xX k b];refine h.one c ?_;obtain⟨i,j,e⟩:=aab.1 (a.sub _ (zD b));exact aaY (fI j (by simp_all))
end
theorem Fr.Good.EB{f}(h:f.Good):check f=0:=by
 have c:=h.fr;have d:=h.to;have e:=h.le;have g:=h.cM;have i:=h.aW;have j:=h.qH;have a:(bI f.aQ 0 3 && bI f.eP 0 3)=true:=by simp[bI];omega
 have b:(bI f.cM 1 6 && bI f.aW 1 6)=true:=by simp[bI];omega
 unfold Go.Proofs.YtkcceaplmgdnfaaGreatDoor.check;rw[ZB (by simp[h.JB]),a,ZB (by simp),ZB (by omega),b,ZB (by simp),ZB (by omega)]
 exact oB h.tz
section
variable{L:abQ}{n:Nat}
theorem xY{p w s}(h:Canon p w s){i j}(hi:i<p.length)(hj:j<p.length)(e:p.getD i 0=p.getD j 0):lM i j w=true:=by
 have d:i<w.length:=by rw[h.len];exact hi
 have f:j<w.length:=by rw[h.len];exact hj
 have g:p.getD i 0=p[i]:=by simp_all
 have k:p.getD i 0∈s:=h.all _ (by simp_all)
 obtain⟨l,m⟩:=DC k;have a:=h.xX _ l;rw[m]at a;have n:(i:Int)∈bh w ((s.idxOf (p.getD i 0):Nat):Int):=by rw[a];exact fI hi rfl
 have o:(j:Int)∈bh w ((s.idxOf (p.getD i 0):Nat):Int):=by rw[a];exact fI hj e.symm
 have b:=(cX n).2.2;have c:=(cX o).2.2;rw[abe]at b c;simp only[lM,zU,abe,b,c]
end
theorem Ad  lt   x :∀r ,(eE lt x r).Perm (x::r)
 |[]=>List.Perm.refl _
 | y::r=>by
   unfold eE;split
   . exact((Ad lt x r).cons y).trans (List.Perm.swap x y r)
   simp_all
theorem FM  lt   l :(eQ lt l).Perm l:=by
 have key:∀(l r:acm),(l.foldl (λr x=>eE lt x r) r).Perm (l++r):=by
  intro l;induction l with
  |nil=>simp_all
  | cons a l b=>
    intro r;rw[aay];refine(b _).trans (((Ad lt a r).append_left l).trans ?_)
    simp_all
 simpa[eQ]using key l []
theorem yT  f   l :(aY f l).Perm l:=(List.reverse_perm _).trans (FM _ _)
theorem DF  f   l :(aY f l).Pairwise λa b=>(aR f a).hour<=(aR f b).hour:=by
 rw[mK,List.pairwise_reverse]
 have key:∀(l r:acm),Dn (λn=>(aR f n).hour) r->Dn (λn=>(aR f n).hour) (l.foldl (λr x=>eE (Dt λn=>(aR f n).hour) x r) r):=by
  intro l;induction l with
  |nil=>simp_all
  |cons a l c=>intro r h;exact c _ (vO a h)
 exact key l [] List.Pairwise.nil
theorem vd{R}:∀{l:acm},l.Pairwise R->∀a∈l,∀b∈l,a≠b->R a b\/R b a
 |[],_,a,d,_,_,_=>by cases d
 | c ::l,h,a,d,b,hb,e=>by
   obtain⟨j,i⟩:=aae.1 h;rcases ZW.1 d with rfl|f
   . grind
   . rcases ZW.1 hb with rfl|g
     . simp_all
     . exact vd i a f b g e
theorem Ph:∀a:Fin 32,∀b:Fin 32,bN (a.val:Int) (b.val:Int)=bN (b.val:Int) (a.val:Int):=by decide +kernel
theorem Fr.Good.symm{f:Fr}(a:f.Good){i j}(hi:i<f.roads.length)(hj:j<f.roads.length):rd f.roads i j=rd f.roads j i:=by
 have h:=a.JB;unfold fN at h;split at h
 . cases h
 split at h
 . cases h
 split at h
 . omega
 split at h
 . cases h
 next q=>
 simp only[aac,ZE,not_exists,not_and]at q;have b:=q i hi j hj;unfold dN at b
 simp_all
theorem Pj:∀a:Fin 32,bN (a.val:Int) (a.val:Int)=0:=by decide +kernel
theorem M4{f}(a:f.Good){x}(b:0<=x/\x<f.aB.length):gJ f x x=false:=by
 have e:=oT (a.tz _ (gK b));obtain⟨A,c⟩:=kZ e.2.2.2.2.2;have p:=e.2.1
 have d:rd f.roads (aR f x).place.toNat (aR f x).place.toNat=0:=by
  have h:=a.JB;unfold fN at h;split at h
  . cases h
  split at h
  . cases h
  split at h
  . omega
  split at h
  . cases h
  next q=>
  simp only[aac,ZE,not_exists,not_and]at q;have g:=q (aR f x).place.toNat (by omega) (aR f x).place.toNat (by omega);unfold dN at g
  simp_all
 unfold gJ;rw[c,Pj,d];simp
theorem M5{f}(c:f.Good){a b}(g:0<=a/\a<f.aB.length)(hb:0<=b/\b<f.aB.length)(k:(aR f a).hour<=(aR f b).hour)(h:Fit f b a):Fit f a b:=by
 have d:=oT (c.tz _ (gK g));have e:=oT (c.tz _ (gK hb));have hd:=c.cM;obtain⟨A,l⟩:=kZ d.2.2.2.2.2;obtain⟨B,m⟩:=kZ e.2.2.2.2.2;have n:=d.2.1;have o:=e.2.1;have p:=Ph A B;have q:=c.symm (i:=(aR f a).place.toNat) (j:=(aR f b).place.toNat) (by omega) (by omega);unfold Fit gJ at h ⊢
 grind
structure Rm  f  (l:acm):Prop where
 cR:∀a∈l,∀b∈l,(aR f a).cR=(aR f b).cR
 Su:∃h,∀j∈l,h∈bT f (aR f j)
 fit:∀a∈l,∀b∈l,a≠b->Fit f a b\/Fit f b a
theorem Hc{f}(u:f.Good){l}(y:l≠[])(o:l.Nodup)(p:∀n∈l,0<=n/\n<f.aB.length):lZ f l=0↔Rm f l:=by
 have v:=yT f l;have c:∀n,n∈aY f l↔n∈l:=λn=>v.mem_iff
 have r:=DF f l;have m:(aY f l).Nodup:=v.nodup_iff.2 o;have g:aY f l≠[]:=λe=>by simp_all
 rw[pQ];generalize aY f l=S at *;have z:S.getD 0 0∈S:=by grind
 constructor
 . rintro⟨w,s,A⟩
   unfold dV at w;rw[aaO]at w;have B:∀x∈S,(aR f x).cR=(aR f (S.getD 0 0)).cR:=λx k=>by simp_all
   refine⟨λa i b hb=>by simp_all,?_,λa i b hb d=>vd (uu u (λn C=>p n ((c n).1 C)) A) a ((c a).2 i) b ((c b).2 hb) d⟩;unfold cS at s;simp only[aad]at s;obtain⟨x,k⟩:=aaS _ s;exact⟨x,λj t=>(qC g).1 k j ((c j).2 t)⟩
 . intro h
   refine⟨?_,?_,qB ?_⟩
   . unfold dV
     rw[aaO];intro x k;rw[h.cR x ((c x).1 k) _ ((c _).1 z)];simp
   . unfold cS
     simp only[aad];obtain⟨x,k⟩:=h.Su;have:x∈fT f S:=(qC g).2 λj t=>k j ((c j).1 t)
     grind
   . refine(r.and m).imp_of_mem λ{a b} i hb d=>?_
     have i:=(c a).1 i;have hb:=(c b).1 hb;rcases h.fit a i b hb d.2 with q|q
     . exact q
     . exact M5 u (p a i) (p b hb) d.1 q
theorem q8  w   k :(bh w k).Nodup:=(pS k w 0).1.imp λh=>by omega
theorem rN{w x}(h:x∈w):x<bE w:=by obtain⟨a,b,rfl⟩:=List.append_of_mem h;have:=jr (a++[x]) b;rw[aaI,abK,cC]at this;omega
section
variable{f x:Fr}{π ρ:aco}
theorem xZ{p w s}(h:Canon p w s){i j}(hi:i<p.length)(hj:j<p.length)(e:lM i j w=true):p.getD i 0=p.getD j 0:=by
 have a:i<w.length:=by rw[h.len];exact hi
 have b:j<w.length:=by rw[h.len];exact hj
 simp only[lM,zU,abe]at e;have f:w.getD i 0=w[i]:=by simp_all
 have m:=((qD _ _ h.part).2.1 _ (zD a)).1;have g:=rN (zD a);rw[h.many]at g;have k:w[i].toNat<s.length:=by omega
 have l:=h.xX _ k;have c:(i:Int)∈bh w ((w[i].toNat:Nat):Int):=fI a (by omega)
 have d:(j:Int)∈bh w ((w[i].toNat:Nat):Int):=fI b (by omega)
 rw[l]at c d;have n:=(cX c).2.2;have o:=(cX d).2.2
 simp_all
end
theorem ya{l:acm}{i}(h:i<l.length):l.getD i 0∈l:=by simp_all
theorem Pk{l:acm}{x}(h:x∈l):∃i,i<l.length/\l.getD i 0=x:=by obtain⟨i,a,e⟩:=aab.1 h;exact⟨i,a,by simp_all⟩
structure uz(f x:Fr)(L:acm):Prop where
 roads:x.roads=f.roads
 fr:x.aQ=f.aQ
 to:x.eP=f.eP
 cM:x.cM=f.cM
 aW:f.aW<=x.aW
 FL:∀i∈L,0<=i/\i<f.aB.length
 tz:x.aB=L.map (aR f)
section
variable{f x:Fr}{L:acm}
theorem uz.len(h:uz f x L):x.aB.length=L.length:=by rw[h.tz,ZT]
theorem uz.at(h:uz f x L){j:Int}(b:0<=j/\j<L.length):aR x j=aR f (L.getD j.toNat 0):=by
 have a:j.toNat<L.length:=by omega
 unfold aR;rw[h.tz,zH,ZY,Rp a,zH (l:=L),Rp a];rfl
theorem uz.bT(h:uz f x L)(e:xH):bT x e=bT f e:=by unfold Go.Proofs.YtkcceaplmgdnfaaGreatDoor.bT iR;rw[h.fr,h.to]
theorem uz.one(h:uz f x L)(n:x.Good){l i:acm}(e:∀j∈i,(0<=j/\j<L.length)/\L.getD j.toNat 0∈l)(k:Rm f l):Rm x i:=by
 have c:∀j∈i,aR x j=aR f (L.getD j.toNat 0):=λj m=>h.at (e j m).1
 refine⟨λa d b hb=>?_,?_,λa d b hb o=>?_⟩
 . rw[c a d,c b hb];exact k.cR _ (e a d).2 _ (e b hb).2
 . obtain⟨z,q⟩:=k.Su
   exact⟨z,λj m=>by rw[h.bT,c j m];simp_all⟩
 . by_cases g:L.getD a.toNat 0=L.getD b.toNat 0
   . have r:=M4 n (x:=b) (by rw[h.len];simp_all)
     have p:=c a d;rw[g,<-c b hb]at p;refine .inl ?_;unfold Fit gJ at *
     simp_all
   have:=k.fit _ (e a d).2 _ (e b hb).2 g;unfold Fit gJ at this ⊢;rw[c a d,c b hb,h.roads,h.cM];exact this
theorem uz.cW(h:uz f x L)(E:f.Good)(u:x.Good){w}(F:w∈aH f []):∃v∈aH x [],∀i j ,i<L.length->j<L.length->lM i j v=lM (L.getD i 0) (L.getD j 0) w:=by
 rw[<-rK E,aaA]at F;obtain⟨y,z⟩:=F;obtain⟨wl,G,_⟩:=qD _ _ y;obtain⟨p,R⟩:∃p,p=L.map λj=>w.getD j.toNat 0:=⟨_,rfl⟩
 have g:p.length=L.length:=by simp_all
 have o:∀j,j<L.length->0<=L.getD j 0/\(L.getD j 0).toNat<w.length:=λj l=>by have:=h.FL _ (ya l);omega
 have m:∀j,j<L.length->p.getD j 0=w.getD (L.getD j 0).toNat 0:=λj l=>by simp_all
 have r:∀c∈p,∃j,j<L.length/\p.getD j 0=c/\c∈w:=λc d=>by
  obtain⟨j,l,H⟩:=Pk d
  grind
 obtain⟨v,s,d⟩:=DD p;have A:=z;unfold qY at A;rw[za,ZF,zU]at A;refine⟨v,?_,λi j n l=>?_⟩
 . rw[<-rK u,aaA,h.len,<-g]
   refine⟨d.part,?_⟩;unfold qY;rw[za,ZF,d.many];have J:=pR w
   have S:=uy (bE w).toNat s d.nd λc B=>by obtain⟨_,_,_,a⟩:=r c (d.sub c B);have:=G c a;have:=rN a;omega
   refine⟨decide_eq_true (by have:=h.aW;omega),λk T=>?_⟩
   have t:k<s.length:=by grind
   rw[zU,d.xX k t];obtain⟨j,l,e,a⟩:=r _ (d.sub _ (zD t));generalize s[k]=c at *;have K:=G c a;have M:=rN a;have b:=abh (A.2 c.toNat (ZE.2 (by omega)))
   rw[show(c.toNat:Int)=c by omega]at b
   have C:bh w c≠[]:=aaY (fI (i:=(L.getD j 0).toNat) (o j l).2 (by grind))
   have D:bh p c≠[]:=aaY (fI (i:=j) (by omega) e)
   rw[Hc E C (q8 w c) λi n=>by have:=cX n;omega]at b
   rw[Hc u D (q8 p c) λi n=>by have:=cX n;rw[g,<-h.len]at this;omega]
   refine h.one u (λi n=>?_) b
   obtain⟨N,I,O⟩:=cX n;rw[g]at I;have P:=o i.toNat (by omega)
   refine⟨⟨N,I⟩,?_⟩;have:=fI (w:=w) (k:=c) (i:=(L.getD i.toNat 0).toNat) P.2 (by rw[<-m _ (by omega)];exact O)
   rwa [show((L.getD i.toNat 0).toNat:Int)=L.getD i.toNat 0 by omega]at this
 . have Q:=m i n
   have H:=m j l;rw[aaL];constructor
   . intro q
     have:=xZ d (by omega) (by omega) q
     rw[Q,H]at this;simp only[lM,zU];exact this
   . intro q
     simp only[lM,zU]at q;exact xY d (by omega) (by omega) (by omega)
end
end
section
open Go.cz Go.Conc
variable{m:Mo}{σ:ab}{KF:abW}
structure Way where
 a:Int
 b:Int
 cu:Int
 aQ:Int
 eP:Int
 deriving DecidableEq
structure NU where
 lost:xH
 town:Int
 hour:Int
 deriving DecidableEq
structure gn where
 fair:Fr
 ba:Int
 ways:List Way
 aD:List NU
 deriving DecidableEq
abbrev jx(x:Way):AV:=.agg [int x.a,int x.b,int x.cu,int x.aQ,int x.eP]
abbrev gW(c:NU):AV:=.agg [int c.lost.hour,int c.lost.place,int c.lost.cR,ints c.lost.marks,int c.lost.bt,int c.lost.jw,int c.town,int c.hour]
abbrev uA(l:List Way):AV:=.sl 5 (l.map jx) .any
abbrev kD(l:List NU):AV:=.sl 8 (l.map gW) .any
abbrev DG(w:gn):acs:=[jm w.fair.aB,rows w.fair.roads,int w.fair.aQ,int w.fair.eP,int w.fair.cM,int w.fair.aW,int w.ba,uA w.ways,kD w.aD]
abbrev dv(w:gn):AV:=.agg (DG w)
abbrev Pl(b mb:Nat)(w:gn)(a c d:AV)(hole:acn)(o:Nat):AV:=.kp b [jm w.fair.aB,rows w.fair.roads,int w.fair.aQ,int w.fair.eP,int w.fair.cM,int w.fair.aW,int w.ba,uA w.ways,kD w.aD,.lit (.int .i32 0),.lit (.int .u32 0),a,c,d,.map mb] hole o
def tg(ba:Int)(x:Way):Prop:=(0<=x.a/\x.a<ba)/\(0<=x.b/\x.b<ba)/\(1<=x.cu/\x.cu<=12)/\(0<=x.aQ/\x.aQ<=72)/\0<=x.eP/\x.eP<=72
def pT(h:Int)(x:Way):Int:=if h<x.aQ then x.aQ else h
def M6(h a b:Int)(x:Way)(c:Int):Int:=if(x.a≠a\/x.b≠b)/\(x.a≠b\/x.b≠a)then c else if pT h x<=x.eP then(if pT h x+x.cu<c then pT h x+x.cu else c)else c
def nH(l:List Way)(h a b:Int):Int:=l.foldl (λc x=>M6 h a b x c) 1048576
theorem Rn{h a b c x}(d:1<=x.cu/\x.cu<=12)(e:0<=h)(hb:0<=c/\c<=1048576):0<=M6 h a b x c/\M6 h a b x c<=1048576:=by
 have:0<=pT h x:=by unfold pT;omega
 unfold M6;omega
theorem DH{l h a b}(e:∀x∈l,1<=x.cu/\x.cu<=12)(f:0<=h):0<=nH l h a b/\nH l h a b<=1048576:=by
 have key:∀(l:List Way) (c:Int),(∀x∈l,1<=x.cu/\x.cu<=12)->(0<=c/\c<=1048576)->0<=l.foldl (λc x=>M6 h a b x c) c/\l.foldl (λc x=>M6 h a b x c) c<=1048576:=λl=>by
  induction l with
  |nil=>simp_all
  |cons x l g=>exact λc d i=>g _ (λy j=>d y (by simp[j])) (Rn (d x (by simp)) f i)
 exact key l _ e ⟨by omega,by omega⟩
theorem eY{σ:ab}{d x}(h:σ d=none):(σ.set d x).del d=σ:=by
 funext c;by_cases e:c=d
 . subst e;simp[ab.del,h]
 . simp[ab.set,ab.del,e]
theorem M7{fb mb w E F G hole h a b}(R:∀i∈hole,9<=i)(S:w.ways.length<1152921504606846976)(z:∀x∈w.ways,tg w.ba x)(H:0<=h/\h<=1048576)(I:KF (.val (int (nH w.ways h a b))) σ):az prog m 77 [Pl fb mb w E F G hole 0,int h,int a,int b] σ KF:=by
 have J:7∉hole:=λq=>by grind
 refine fs [] Tryz.func77 rfl (by kernel_rfl) ?_
 simp[Tryz.f77,J];apply rn;simp;refine aa.loop w.ways.length (λk s=>∃env,s=⟨env,σ,[],.no⟩/\env 1=int h/\env 2=int a/\env 3=int b/\env 9=int (nH (w.ways.take k) h a b)/\env 17=uA w.ways/\env 18=int w.ways.length/\env 19=int k) ⟨_,rfl,by simp[nH]⟩ ?_
 rintro T k _ U ⟨env,rfl,o,r,t,u,c,f,g⟩ v
 refine aa.runN lay [] 17 ?_;simp[f,g];apply aG.intro<;>intro j<;>simp at j<;>simp[u,c,g,j]
 . refine bV.intro λd hd=>?_
   simp
   change aa _ _ _ _ _ _ _ _ _
   refine aa.bD 11 (b:=d) (jx w.ways[k]) (ab.ai _ _ _) (by simp) rfl ?_
   rw[eY hd];obtain⟨⟨V,W⟩,⟨X,Y⟩,⟨Z,x6⟩,⟨x7,x8⟩,x9,K⟩:=z _ (zD j);have L:=DH (l:=w.ways.take k) (h:=h) (a:=a) (b:=b) (λx M=>(z x (abl M)).2.2.1) H.1
   have y:nH (w.ways.take (k+1)) h a b=M6 h a b w.ways[k] (nH (w.ways.take k) h a b):=by unfold nH;rw[zA j,aak];rfl
   obtain⟨N,A⟩:∃p,(w.ways[k].a !=a)=p:=⟨_,rfl⟩;obtain⟨O,B⟩:∃p,(w.ways[k].b !=b)=p:=⟨_,rfl⟩;obtain⟨P,C⟩:∃p,(w.ways[k].a !=b)=p:=⟨_,rfl⟩;obtain⟨Q,D⟩:∃p,(w.ways[k].b !=a)=p:=⟨_,rfl⟩;cases N<;>cases O<;>cases P<;>cases Q
   all_goals
    apply rn;simp[o,r,t,g,A,B,C,D]
   all_goals simp at A B C D
   all_goals try refine⟨by omega,v _ j ⟨_,rfl,?_⟩⟩
   all_goals try
    simp[o,r,t,u,c,f];rw[y,M6,ZG (by omega)]
   all_goals
    rw[show(if h<w.ways[k].aQ then w.ways[k].aQ else h)=pT h w.ways[k]from rfl]
    have f0:0<=pT h w.ways[k]/\pT h w.ways[k]<=1048576:=by unfold pT;split<;>omega
    refine aG.intro (λn=>?_) (λn=>?_)<;>(try simp[-Int.not_lt,-Int.not_le]at n)<;>(try simp[u,g,n])
    . have f1:-9223372036854775808<=pT h w.ways[k]+w.ways[k].cu/\pT h w.ways[k]+w.ways[k].cu<=9223372036854775807:=by omega
      simp[f1.1,f1.2];refine⟨by omega,v _ j ⟨_,rfl,?_⟩⟩
      simp[o,r,t,c,f];rw[y];exact (show M6 h a b w.ways[k] (nH (w.ways.take k) h a b)=_ by rw[M6,ZB (by omega),ZG n]).symm
    . refine⟨by omega,v _ j ⟨_,rfl,?_⟩⟩
      simp[o,r,t,u,c,f];rw[y,M6,ZB (by omega)]
      simp[n]
 . have e:k=w.ways.length:=by omega
   subst e;rw[ZL];exact .done I
def lN(l:List Way)(a b:Nat)(t:acm):acm:=if t.getD a 0<1048576 then t.set b (if nH l (t.getD a 0) a b<t.getD b 0 then nH l (t.getD a 0) a b else t.getD b 0)else t
def th(l:List Way)(n a:Nat)(t:acm):acm:=(List.range n).foldl (λt b=>lN l a b t) t
def pass(l:List Way)(n:Nat)(t:acm):acm:=(List.range n).foldl (λt a=>th l n a t) t
def gX(l:List Way)(n:Nat):Nat->acm->acm
 |0,t=>t
 |k+1,t=>if pass l n t=t then t else gX l n k (pass l n t)
def pU(t:acm):Nat:=(t.foldl (·+·) 0).toNat
def begun(town hour:Int):acm:=[1048576,1048576,1048576,1048576].set town.toNat hour
def qE(l:List Way)(n:Nat)(town hour:Int):acm:=gX l n (pU (begun town hour)+1) (begun town hour)
theorem lO{α:Type}(P:acm->Prop)  f  (a:∀t x,P t->P (f t x)):∀(l:List α)  t ,P t->P (l.foldl f t)
 |[],_,h=>h
 |x::l,t,h=>lO P f a l _ (a t x h)
def yy(t:acm):Prop:=t.length=4/\∀i,0<=t.getD i 0/\t.getD i 0<=1048576
theorem DI{t:acm}{b i v}:(t.set b v).getD i 0=if i=b/\b<t.length then v else t.getD i 0:=by grind
theorem yy.to{l}(c:∀x∈l,1<=x.cu/\x.cu<=12){a b t}(h:yy t):yy (lN l a b t):=by
 unfold lN;split
 . refine⟨by rw[aaM];exact h.1,λi=>?_⟩
   rw[DI];split
   . have:=DH (h:=t.getD a 0) (a:=a) (b:=b) c (h.2 a).1
     split
     . exact this
     . exact h.2 b
   . exact h.2 i
 . exact h
theorem yy.from{l}(b:∀x∈l,1<=x.cu/\x.cu<=12){n a t}(h:yy t):yy (th l n a t):=lO yy _ (λ_ _ h=>h.to b) _ _ h
theorem yy.pass{l:List Way}(a:∀x∈l,1<=x.cu/\x.cu<=12){n:Nat}{t:acm}(h:yy t):yy (pass l n t):=lO yy _ (λ_ _ h=>h.from a) _ _ h
def mX(a t:acm):Prop:=a.length=t.length/\∀i,a.getD i 0<=t.getD i 0
theorem mX.trans{a b c}(h:mX a b)(d:mX b c):mX a c:=⟨h.1.trans d.1,λi=>Int.le_trans (h.2 i) (d.2 i)⟩
theorem Jk  l   a b   t :mX (lN l a b t) t:=by
 unfold lN;split
 . refine⟨aaM,λi=>?_⟩
   grind
 . exact⟨rfl,λi=>Int.le_refl _⟩
theorem DJ  l   n a   t :mX (th l n a t) t:=lO (mX · t) _ (λu b h=>(Jk l a b u).trans h) _ _ ⟨rfl,λi=>Int.le_refl _⟩
theorem pV  l   n   t :mX (pass l n t) t:=lO (mX · t) _ (λu a h=>(DJ l n a u).trans h) _ _ ⟨rfl,λi=>Int.le_refl _⟩
theorem BH{a t}(h:mX a t)(d:yy a)(c:yy t)(e:a≠t):pU a<pU t:=by
 obtain⟨f,b⟩:=d;obtain⟨g,q⟩:=c
 match a,t,f,g with
 | [r,s,u,v],[w,x,y,z],_,_=>
   have i:=h.2 0;have j:=h.2 1;have k:=h.2 2;have l:=h.2 3;have m:=b 0;have n:=b 1;have o:=b 2;have p:=b 3;simp at i j k l m n o p;unfold pU
   grind
theorem oE{l}(a:∀x∈l,1<=x.cu/\x.cu<=12){n}:∀  k   t ,yy t->pU t<k->gX l n k t=gX l n (pU t+1) t
 |0,t,_,h=>by omega
 | k+1,t,b,h=>by
   show(if pass l n t=t then t else gX l n k (pass l n t))=if pass l n t=t then t else gX l n (pU t) (pass l n t);split
   . rfl
   . next c=>have d:=BH (pV l n t) (b.pass a) b c;rw[oE a k _ (b.pass a) (by omega),oE a (pU t) _ (b.pass a) d]
 termination_by k=>k
theorem DK{l}(a:∀x∈l,1<=x.cu/\x.cu<=12){n t}(b:yy t):gX l n (pU t+1) t=if pass l n t=t then t else gX l n (pU (pass l n t)+1) (pass l n t):=by
 show(if pass l n t=t then t else gX l n (pU t) (pass l n t))=_;split
 . rfl
 . next c=>exact oE a _ _ (b.pass a) (BH (pV l n t) (b.pass a) b c)
theorem Ae{town hour}(a:0<=hour/\hour<=72):yy (begun town hour):=by
 refine⟨by simp[begun],λi=>?_⟩;unfold begun;rw[DI];split
 . omega
 . match i with
   |0=>simp
   |1=>simp
   |2=>simp
   |3=>simp
   |i+4=>simp
theorem ve{l}(a:∀x∈l,1<=x.cu/\x.cu<=12){n}:∀  k   t ,yy t->yy (gX l n k t)
 |0,_,h=>h
 | k+1,t,h=>by
   unfold gX;split
   . exact h
   . exact ve a k _ (h.pass a)
theorem BI{l}(e:∀x∈l,1<=x.cu/\x.cu<=12){n town hour}(f:0<=hour/\hour<=72):∃a b c d,qE l n town hour=[a,b,c,d]:=by
 have:=(ve e (n:=n) (pU (begun town hour)+1) _ (Ae (town:=town) f)).1;unfold qE
 match gX l n (pU (begun town hour)+1) (begun town hour),this with
 |[a,b,c,d],_=>simp_all
theorem UN:P8 prog 167 3:=⟨by kernel_rfl,by kernel_rfl,by kernel_rfl⟩
theorem FN{fb mb w U V W hole town hour}(hh:∀i∈hole,9<=i)(hl:w.ways.length<1152921504606846976)(hw:∀x∈w.ways,tg w.ba x)(hn:1<=w.ba/\w.ba<=4)(ht:0<=town/\town<w.ba)(h0:0<=hour/\hour<=72)
 (hK:∀σ',σ.Le σ'->KF (.val (.agg ((qE w.ways w.ba.toNat town hour).map int))) σ'):az prog m 92 [Pl fb mb w U V W hole 0,int town,int hour] σ KF:=by
 have n6:6∉hole:=λq=>by grind
 refine az.start lay [6,7,9] Wc 3 Tryz.func92 rfl rfl (by rfl) (by kernel_rfl) ?_
 simp[Tryz.f92];refine bV.intro λr hr=>?_
 simp;refine bV.intro λd hd=>?_
 obtain⟨n1,n2,hd⟩:=ab.aP hd;simp;have b4:town<4:=by omega
 have b5:town.toNat<4:=by omega
 have b6:town<=3:=by omega
 refine aa.uj ?_;refine aa.run lay [6,7,9] ?_;simp;refine aa.again (by kernel_rfl) ?_
 refine aa.run lay [6,7,9] ?_;simp;refine aa.again (by kernel_rfl) ?_
 refine aa.run lay [6,7,9] ?_;simp;refine aa.again (by kernel_rfl) ?_
 refine aa.run lay [6,7,9] ?_;simp;refine aa.again (by kernel_rfl) ?_
 refine aa.runN lay [6,7,9] 16 ?_;simp[ht.1,b4,b5,b6]
 change aa _ _ _ _ _ _ _ _ _
 obtain⟨X,J⟩:∃T,T=begun town hour:=⟨_,rfl⟩;have hc:([int 1048576,int 1048576,int 1048576,int 1048576]:acs).set town.toNat (int hour)=X.map int:=by rw[J];simp[begun,abt]
 rw[hc];have a7:yy X:=J ▸ Ae h0;have N:∀x∈w.ways,1<=x.cu/\x.cu<=12:=λx hx=>(hw x hx).2.2.1
 refine aa.lower (λa s=>∃env t,s=⟨env,(σ.set r (.cells [int 0,int 0,int 0,int 0])).set d (.cells (t.map int)),[],.no⟩/\env 0=Pl fb mb w U V W hole 0/\env 6=.ref r 0/\env 7=.ref d 0/\yy t/\pU t=a/\gX w.ways w.ba.toNat (pU t+1) t=qE w.ways w.ba.toNat town hour) (pU X) ⟨_,X,rfl,by simp,by simp,by simp,a7,rfl,by rw[J];rfl⟩ ?_
 rintro a _ ⟨env,t,rfl,E,F,g,Y,rfl,I⟩ ih
 obtain⟨h,l,p,y,rfl⟩:∃h l p y,t=[h,l,p,y]:=by
  match t,Y.1 with
  |[h,l,p,y],_=>grind
 refine aa.runN lay [6,7,9] 5 ?_;simp[g];refine bV.intro λo Z=>?_
 obtain⟨m1,m2,Z⟩:=ab.aP Z;obtain⟨m3,m4,Z⟩:=ab.aP Z;simp
 change aa _ _ _ _ _ _ _ _ _
 refine aa.bD 9 (b:=o) (.agg [int h,int l,int p,int y]) (ab.ai _ _ _) (by simp) rfl ?_
 rw[eY (by omega)]
 refine aa.run lay [6,7,9] ?_;simp[E,n6];refine aa.loop w.ba.toNat (λk s=>∃env u,s=⟨env,(σ.set r (.cells [int 0,int 0,int 0,int 0])).set d (.cells (u.map int)),[],.no⟩/\env 0=Pl fb mb w U V W hole 0/\env 6=.ref r 0/\env 7=.ref d 0/\env 9=.cp (.agg [int h,int l,int p,int y]) 0/\env 26=int w.ba/\env 27=int k/\yy u/\u=(List.range k).foldl (λt a=>th w.ways w.ba.toNat a t) [h,l,p,y]) ⟨_,[h,l,p,y],rfl,by simp[E],by simp[F],by simp[g],by simp,by simp,by simp,Y,rfl⟩ ?_
 rintro cc k _ hk ⟨env,u,rfl,E,F,g,M,z,f,hU,hu⟩ a8
 refine aa.runN lay [6,7] 17 ?_;simp[z,f];apply aG.intro<;>intro g1<;>simp at g1<;>simp[E,g,M,f,g1]
 . change aa _ _ _ _ _ _ _ _ _
   refine aa.run lay [6,7,9] ?_;simp[n6];refine aa.loop w.ba.toNat (λj s=>∃env v,s=⟨env,(σ.set r (.cells [int 0,int 0,int 0,int 0])).set d (.cells (v.map int)),[],.no⟩/\env 0=Pl fb mb w U V W hole 0/\env 6=.ref r 0/\env 7=.ref d 0/\env 9=.cp (.agg [int h,int l,int p,int y]) 0/\env 10=int k/\env 26=int w.ba/\env 27=int k/\env 34=int w.ba/\env 35=int j/\yy v/\v=(List.range j).foldl (λt b=>lN w.ways k b t) u) ⟨_,u,rfl,by simp[E],by simp[F],by simp[g],by simp[M],by simp,by simp[z],by simp[f],by simp,by simp,hU,rfl⟩ ?_
   rintro cc j _ hj ⟨env,v,rfl,E,F,g,M,bp,z,f,K,G,H,hv⟩ O
   refine aa.runN lay [6,7] 17 ?_;simp[K,G];apply aG.intro<;>intro g2<;>simp at g2<;>simp[bp,f,G,g2]
   . have k4:k<4:=by omega
     have j4:j<4:=by omega
     have k5:k<v.length:=by rw[H.1];exact k4
     have j5:j<v.length:=by rw[H.1];exact j4
     have L:v.getD k 0=v[k]:=by simp[k5]
     have a9:v.getD j 0=v[j]:=by simp[j5]
     have i4:(k:Int)<4:=by omega
     have l4:(j:Int)<4:=by omega
     have j3:j<=3:=by omega
     refine aa.runN lay [6,7] 5 ?_;simp[g,H.1,k4,i4];apply aG.intro<;>intro g3<;>simp at g3<;>(try simp[g3])
     . change aa _ _ _ _ _ _ _ _ _
       refine aa.run lay [6,7] ?_;simp[E,g,bp,H.1,k4,j4,i4,l4];have P:=H.2 k;rw[L]at P;have Q:(v.map int).set j (int (if nH w.ways v[k] k j<v[j]then nH w.ways v[k] k j else v[j]))=(lN w.ways k j v).map int:=by rw[lN,L,a9,ZG g3,abt]
       refine⟨?_,?_,?_⟩
       all_goals
        refine cf Tryz.func77 rfl (M7 hh hl hw P ?_);refine aM.go lay [6,7] ?_;simp[H.1,j4,j3];rw[Q];refine aa.run lay [6,7] ?_;simp[G];refine⟨by omega,O _ (by omega) ⟨_,lN w.ways k j v,rfl,?_,?_,?_,?_,?_,?_,?_,?_,?_,H.to N,?_⟩⟩
        rotate_right
        . rw[ZQ,aak,<-hv];rfl
        all_goals simp[E,F,g,M,bp,z,f,K]
     . change aa _ _ _ _ _ _ _ _ _
       refine aa.run lay [6,7] ?_;simp[G];refine⟨by omega,O _ (by omega) ⟨_,v,rfl,?_,?_,?_,?_,?_,?_,?_,?_,?_,H,?_⟩⟩
       rotate_right
       . rw[ZQ,aak,<-hv]
         show v=lN w.ways k j v;rw[lN,L,ZB (by omega)]
       all_goals simp[E,F,g,M,bp,z,f,K]
   . have ej:j=w.ba.toNat:=by omega
     subst ej;refine⟨by omega,a8 _ (by omega) ⟨_,v,rfl,?_,?_,?_,?_,?_,?_,H,?_⟩⟩
     rotate_right
     . rw[ZQ,aak,<-hu]
       exact hv
     all_goals simp[E,F,g,M,z]
 . have ek:k=w.ba.toNat:=by omega
   subst ek
   obtain⟨A,B,C,D,rfl⟩:∃A B C D,u=[A,B,C,D]:=by
    match u,hU.1 with
    |[A,B,C,D],_=>exact⟨A,B,C,D,rfl⟩
   have R:=DK N (n:=w.ba.toNat) Y;rw[show pass w.ways w.ba.toNat [h,l,p,y]=[A,B,C,D]from hu.symm]at R
   refine⟨by simp,?_⟩
   refine Fb lay UN rS rfl rfl (a:=A) (b:=B) (c:=C) (d:=D) (a':=h) (b':=l) (c':=p) (d':=y) rfl (by simp) (by simp) ?_
   cases e:(A==h && (B==l && (C==p && D==y)))
   . have S:¬([A,B,C,D]=[h,l,p,y]):=λq=>by simp at q;simp[q]at e
     rw[ZB S,I]at R;refine aa.runN lay [6,7] 2 ?_;simp
     change aa _ _ _ _ _ _ _ _ _
     refine aa.goto rfl (by kernel_rfl) ?_
     refine aa.runN lay [6,7,9] 2 ?_;simp;refine ih (pU [A,B,C,D]) _ (BH (hu.symm ▸ pV w.ways w.ba.toNat [h,l,p,y]) hU Y S) ⟨_,[A,B,C,D],rfl,?_,?_,?_,hU,rfl,R.symm⟩<;>simp[E,F,g]
   . simp at e
     obtain⟨rfl,rfl,rfl,rfl⟩:=e;rw[ZG rfl,I]at R;refine aa.run lay [6,7,9] ?_;simp[F,g,n2,ab.ah];refine .done ?_;have:=hK _ (ab.fa (b:=r) (x:=.cells [int A,int B,int C,int D]) (ab.fa (b:=d) (x:=.cells [int A,int B,int C,int D]) (ab.fa (b:=r) (x:=.cells [int 0,int 0,int 0,int 0]) (ab.le_refl σ) hr) hd) hr);rw[R]at this;exact this
theorem dW{a lo hi}(h:KF (.val (bool (bI a lo hi))) σ):az prog m 71 [int a,int lo,int hi] σ KF:=by
 refine fs [] Tryz.func71 rfl (by kernel_rfl) ?_;simp[Tryz.f71];unfold bI at h;by_cases g:lo<=a
 . simp[g]
   refine .done ?_
   simp_all
 . simp[g]
   refine .done ?_
   simp_all
theorem pW{x}(h:KF (.val (ints (aA x))) σ):az prog m 60 [u8 x] σ KF:=by
 refine fs [] Tryz.func60 rfl (by kernel_rfl) ?_;simp[Tryz.f60];refine aa.loop 6 (λk s=>∃env b,s=⟨env,b,[],.no⟩/\env 0=u8 x/\env 5=int k/\Tok σ b (env 3) 1 ((((List.range k).map λn:Nat=>(n:Int)).filter λn=>fH x n).map int)) ⟨_,_,rfl,by simp,by simp,.nil σ 1⟩ ?_;rintro l k _ o ⟨env,b,rfl,d,c,a⟩ f;rcases aag k 6 with g1|g1
 . have e:(k:Int)<6:=by omega
   have p:(((List.range k).map λn:Nat=>(n:Int)).filter λn=>fH x n).length<=k:=by grind
   have q:(((List.range (k+1)).map λn:Nat=>(n:Int)).filter λn=>fH x n)=(((List.range k).map λn:Nat=>(n:Int)).filter λn=>fH x n)++if fH x k then[(k:Int)]else[]:=by
    rw[ZQ,ZO,aaF]
    grind
   apply rn;simp[d,c,e,uk];have g:fH x k=(Df (x.fdiv (2 ^ min k IntKind.u8.bits)) 1==1):=by simp[fH]
   rw[<-g];cases hb:fH x k
   . simp[c]
     refine⟨by omega,f _ g1 ⟨_,_,rfl,by simp[d],by simp,?_⟩⟩
     simp_all
   . simp
     refine aK lay rfl rfl rfl dM rfl dM rfl rS (by decide) (by grind) (σ0:=σ) (es:=(((List.range k).map λn:Nat=>(n:Int)).filter λn=>fH x n).map int) (xs:=[int k]) (by simp_all) (.inr ⟨_,rfl⟩) λr i j=>?_
     apply rn;simp[c];refine⟨by omega,f _ g1 ⟨_,_,rfl,by simp[d],by simp,?_⟩⟩
     simp_all
 . have:k=6:=by omega
   subst this;apply rn;simp[c];exact .oW a.W (.less a.1 (.done h))
abbrev rO(n:Nat):acm:=(List.range n).map λn:Nat=>(n:Int)
theorem uB{n}(j:n<=1000)(h:KF (.val (ints (rO n))) σ):az prog m 49 [int n] σ KF:=by
 refine fs [] Tryz.func49 rfl (by kernel_rfl) ?_;simp[Tryz.f49];refine aa.loop n (λk s=>∃env b,s=⟨env,b,[],.no⟩/\env 5=int n/\env 6=int k/\Tok σ b (env 3) 1 ((rO k).map int)) ⟨_,_,rfl,by simp,by simp,.nil σ 1⟩ ?_;rintro l k _ o ⟨env,b,rfl,c,d,a⟩ g;rcases aag k n with g1|g1
 . have e:(k:Int)<n:=by omega
   have f1:-9223372036854775808<=(k:Int)+1/\(k:Int)+1<=9223372036854775807:=by omega
   apply rn;simp[c,d,e];refine aK lay rfl rfl rfl dM rfl dM rfl rS (by decide) (by grind) (σ0:=σ) (es:=(rO k).map int) (xs:=[int k]) (by simp_all) (.inr ⟨_,rfl⟩) λp i f=>?_
   apply rn;simp[d];refine⟨by omega,g _ g1 ⟨_,_,rfl,by simp[c],by simp,?_⟩⟩;rw[show rO (k+1)=rO k++[(k:Int)]by unfold rO;rw[ZQ,ZO];rfl,ZO];exact f
 . have:k=n:=by omega
   subst this;apply rn;simp[c,d];exact .oW a.W (.less a.1 (.done h))
theorem M8(h:KF (.val (.agg [u8 1,u8 2,u8 4])) σ):az prog m 101 [] σ KF:=by
 refine az.E8 lay [] [] 3 0 Tryz.func101 rfl rfl (by rfl) (by kernel_rfl) ?_;simp[Tryz.f101];refine bV.intro λc a=>?_
 simp;change aa _ _ _ _ _ _ _ _ _;refine aa.runN lay [] 3 ?_;simp;change aa _ _ _ _ _ _ _ _ _;refine aa.op rfl (bW rfl) (by simp) (λc=>by simp) (pJ lay rfl Uf rfl Lr (l:=[u8 1,u8 2,u8 4]) (by simp) rfl ?_);apply rn;simp;refine .less ?_ (.done h);exact ab.fa (ab.le_refl _) a
theorem FO{n}{t:Nat}(a:t=if n=1 then 125 else if n=3 then 284 else 195)(h:KF (.val (.lS t (.agg []))) σ):az prog m 149 [int n] σ KF:=by
 subst a;refine fs [] Tryz.func149 rfl (by kernel_rfl) ?_;simp[Tryz.f149];by_cases g:n=1
 . subst g
   simp;exact .done h
 . by_cases b:n=3
   . subst b
     simp;exact .done h
   . have c:(n==1)=false:=by grind
     have d:(n==3)=false:=by simp_all
     simp[c,d];refine .done ?_
     simp_all
abbrev yb(l:List NU):List xH:=l.map (·.lost)
theorem M9{l}(p:l.length<=1000)(h:KF (.val (jm (yb l))) σ):az prog m 76 [kD l] σ KF:=by
 refine fs [] Tryz.func76 rfl (by kernel_rfl) ?_;simp[Tryz.f76];refine aa.loop l.length (λk s=>∃env c,s=⟨env,c,[],.no⟩/\env 6=kD l/\env 7=int l.length/\env 8=int k/\Tok σ c (env 3) 6 ((yb (l.take k)).map bu)) ⟨_,_,rfl,by simp,by simp,by simp,.nil σ 6⟩ ?_;rintro q k _ r ⟨env,c,rfl,j,e,f,a⟩ n;rcases aag k l.length with g1|g1
 . have g:(k:Int)<l.length:=by omega
   refine aa.runN lay [] 17 ?_;simp[j,e,f,g1,g];refine bV.intro λd hd=>?_
   simp;change aa _ _ _ _ _ _ _ _ _;refine aa.runN lay [] 1 ?_;simp;change aa _ _ _ _ _ _ _ _ _;refine aa.bD 5 (b:=d) (gW l[k]) (ab.ai _ _ _) (by simp) rfl ?_;rw[eY hd];apply rn;simp;refine aK lay rfl rfl rfl mW rfl mW rfl yP (by decide) (by grind) (σ0:=σ) (es:=(yb (l.take k)).map bu) (xs:=[bu l[k].lost]) (by simp_all) (.inr ⟨_,rfl⟩) λt o i=>?_
   apply rn;simp[f];refine⟨by omega,n _ g1 ⟨_,_,rfl,by simp[j],by simp[e],by simp,?_⟩⟩;rw[show(yb (l.take (k+1))).map bu=(yb (l.take k)).map bu++[bu l[k].lost]by unfold yb;rw[zA g1,ZO,ZO];rfl];exact i
 . have:k=l.length:=by omega
   subst this;apply rn;simp[e,f];rw[ZL]at a;exact .oW a.W (.less a.1 (.done h))
theorem yU{l}(f:l.length<=1000)(h:∀a σ',Tok σ σ' a 6 (l.map bu)->KF (.val a) σ'):az prog m 115 [jm l] σ KF:=by
 refine fs [] Tryz.func115 rfl (by kernel_rfl) ?_;simp[Tryz.f115];refine AM (es:=l.map bu) (sp:=.any) (kk:=6) lay rfl mW rfl rfl (by simp) (.inl rfl) (λb=>?_) ?_
 . have:l=[]:=by simp_all
   subst this;have c:(BinOp.eql==BinOp.eql)=true:=rfl;apply rn;simp;exact .done (h _ _ (.nil σ 6))
 . have c:(BinOp.eql==BinOp.neq)=false:=rfl
   apply rn;simp[c];refine aK lay rfl rfl rfl mW rfl mW rfl yP (by decide) (by grind) (σ0:=σ) (es:=[]) (xs:=l.map bu) ⟨ab.le_refl _,.inr (.inl (by simp))⟩ (.inr ⟨_,rfl⟩) λg d e=>?_
   apply rn;simp;exact .done (h _ _ (by simp_all))
theorem DN{f l}(u:f.aB.length+l.length<=1000)(h:KF (.val (dz {f with aB:=f.aB++l})) σ):az prog m 75 [dz f,jm l] σ KF:=by
 refine az.start lay [2] [] 2 Tryz.func75 rfl rfl (by rfl) (by kernel_rfl) ?_;simp[Tryz.f75];refine bV.intro λb hb=>?_
 simp;refine bV.intro λd hd=>?_
 obtain⟨o,j,hd⟩:=ab.aP hd;simp[j,ab.ah];refine cf Tryz.func115 rfl (yU (by omega) λa p q=>?_);refine aa.run lay [2] ?_;simp;refine aK lay rfl rfl rfl mW rfl mW rfl yP (by decide) (by grind) (es:=f.aB.map bu) (xs:=l.map bu) q (.inr ⟨_,rfl⟩) λa' i g=>?_
 rw[<-List.map_append]at g;generalize f.aB++l=L at h g;refine aa.Ii 9 (a':=jm L) (by simpa using g.W) ?_;have r:i b=some (.cells (G1 f)):=g.1 _ _ (by simp[j,ab.ah]);have s:i d=some (.cells [.lit (.slice none 0 0),.lit (.slice none 0 0),int 0,int 0,int 0,int 0]):=g.1 _ _ (by simp);refine aa.run lay [2] ?_;simp[r,s,o,ab.ah];refine .less (λc x t=>?_) (.done h);have k:c≠b:=λe=>by simp_all
 have n:c≠d:=λe=>by simp_all
 rw[ab.ah _ _ n,ab.ah _ _ k];exact g.1 _ _ (by rw[ab.ah _ _ n,ab.ah _ _ k];exact t)
theorem yc(h:KF (.val (int 0)) σ):az prog m 69 [.lit .nilIface] σ KF:=by
 refine fs [] Tryz.func69 rfl (by kernel_rfl) ?_;simp[Tryz.f69];refine bV.intro λb hb=>?_
 simp;refine cf Tryz.func111 rfl (UB ?_);apply rn;simp;exact .less (by repeat (first|exact ab.le_refl _|assumption|refine ab.fa ?_ (by assumption)|refine ab.lq ?_ (by assumption))) (.done h)
theorem rf{f}(a:f.Fits)(b:check f=0)(h:KF (.val (.lit .nilIface)) σ):az prog m 70 [dz f] σ KF:=by
 refine fs [] Tryz.func70 rfl (by kernel_rfl) ?_;simp[Tryz.f70];refine cf Tryz.func112 rfl (Dh a ?_);apply rn;simp[b];exact .done h
def pX(t:Int)(x:Way):Int:=if bI x.a 0 (t-1)=false then 3 else if bI x.b 0 (t-1)=false then 3 else if x.a=x.b then 8 else if bI x.cu 1 12=false then 1 else if bI x.aQ 0 72=false then 1 else if bI x.eP 0 72=false then 1 else if x.aQ>x.eP then 5 else 0
theorem BJ{x t}(i:0<=t/\t<=100)(h:KF (.val (int (pX t x))) σ):az prog m 72 [jx x,int t] σ KF:=by
 unfold pX at h;refine fs [] Tryz.func72 rfl (by kernel_rfl) ?_;simp[Tryz.f72];refine⟨by omega,?_⟩;refine cf Tryz.func71 rfl (dW ?_);apply rn;simp;refine tJ.intro (λa=>?_) (λa=>?_)<;>(try simp at a)<;>(try simp[a]at h)<;>(try simp[a])<;>(try exact .done h);refine⟨by omega,?_⟩;refine cf Tryz.func71 rfl (dW ?_);apply rn;simp;refine aG.intro (λb=>?_) (λb=>?_)<;>(try simp at b)<;>(try simp[b]at h)<;>(try simp[b])<;>(try exact .done h);refine aG.intro (λc=>?_) (λc=>?_)<;>(try simp at c)<;>(try simp[c]at h)<;>(try simp[c])<;>(try exact .done h);refine cf Tryz.func71 rfl (dW ?_);apply rn;simp;refine tJ.intro (λd=>?_) (λd=>?_)<;>(try simp at d)<;>(try simp[d]at h)<;>(try simp[d])<;>(try exact .done h)
 refine cf Tryz.func71 rfl (dW ?_);apply rn;simp;refine tJ.intro (λe=>?_) (λe=>?_)<;>(try simp at e)<;>(try simp[e]at h)<;>(try simp[e])<;>(try exact .done h);refine cf Tryz.func71 rfl (dW ?_);apply rn;simp;refine aG.intro (λf=>?_) (λf=>?_)<;>(try simp at f)<;>(try simp[f]at h)<;>(try simp[f])<;>(try exact .done h);refine aG.intro (λg=>?_) (λg=>?_)<;>(try simp[-Int.not_lt,-Int.not_le]at g)<;>(try simp[g]at h)<;>(try simp[g])<;>(try exact .done h)
def fJ{α:Type}(g:α->Int):List α->Int
 |[]=>0
 |x::l=>if g x=0 then fJ g l else g x
theorem Af{α}  g  (l:List α)  i   h :fJ g (l.drop i)=if g l[i]=0 then fJ g (l.drop (i+1))else g l[i]:=by rw[aah h,fJ]
abbrev lone(f:Fr)(e:xH):Fr:={f with aB:=[e]}
abbrev iS(w:gn):Fr:={w.fair with aB:=w.fair.aB++yb w.aD}
def yV(w:gn)(c:NU):Int:=if bI c.town 0 (w.ba-1)=false then 3 else if bI c.hour 0 72=false then 1 else if c.hour<c.lost.hour then 5 else 0
def mY(w:gn):Int:=if bI w.ba 1 4=false then 1 else if(6:Int)<w.ways.length then 6 else if fJ (pX w.ba) w.ways≠0 then fJ (pX w.ba) w.ways else if(3:Int)<w.aD.length then 6 else if fJ (yV w) w.aD≠0 then fJ (yV w) w.aD
 else if(6:Int)<(w.fair.aB.length:Int)+w.aD.length then 6 else if gV (iS w)=0 then 9 else 0
structure gn.pY(w:gn):Prop where
 fits:w.fair.Fits
 EB:check w.fair=0
 UO:∀c∈w.aD,(lone w.fair c.lost).Fits/\check (lone w.fair c.lost)=0
 ways:w.ways.length<1152921504606846976
 aD:w.aD.length<1152921504606846976
theorem Ro{es sp l}:(AV.agg (.sl 6 es sp::l)).W (.agg (.sl 6 es .any::l)):=pP rfl λi x y b a=>by
 cases i with
 |zero=>simp at b a;subst b;subst a;exact iq _ _ _
 |succ i=>simp at b a;rw[b]at a;cases a;exact .refl _
theorem BL{w c}(j:0<=w.ba/\w.ba<=100)(f:(lone w.fair c.lost).Fits)(g:check (lone w.fair c.lost)=0)(h:KF (.val (int (yV w c))) σ):az prog m 73 [dv w,gW c] σ KF:=by
 unfold yV at h;have i:Wl [AV.agg [.sl 6 [bu c.lost] .exact,rows w.fair.roads,int w.fair.aQ,int w.fair.eP,int w.fair.cM,int w.fair.aW]] [dz (lone w.fair c.lost)]:=.cons Ro .nil;refine az.thaw ?_;refine fs [] Tryz.func73 rfl (by kernel_rfl) ?_;simp[Tryz.f73];refine bV.intro λb hb=>?_
 simp;refine cd Tryz.func70 rfl rfl i (rf f g ?_);apply rn;simp;refine cf Tryz.func69 rfl (yc ?_);apply rn;simp
 replace h:=nk.less (ab.fa (b:=b) (x:=.cells [.sl 6 [bu c.lost] .exact,rows w.fair.roads,int w.fair.aQ,int w.fair.eP,int w.fair.cM,int w.fair.aW]) (ab.le_refl _) hb) (.done h)
 refine⟨by omega,?_⟩;refine cf Tryz.func71 rfl (dW ?_);apply rn;simp;refine aG.intro (λa=>?_) (λa=>?_)<;>(try simp at a)<;>(try simp[a]at h)<;>(try simp[a])<;>(try exact .done h);refine cf Tryz.func71 rfl (dW ?_);apply rn;simp;refine aG.intro (λd=>?_) (λd=>?_)<;>(try simp at d)<;>(try simp[d]at h)<;>(try simp[d])<;>(try exact .done h);refine aG.intro (λe=>?_) (λe=>?_)<;>(try simp[-Int.not_lt,-Int.not_le]at e)<;>(try simp[e]at h)<;>(try simp[e])<;>(try exact .done h)
theorem lP{w}(b:w.pY)(f:w.fair.aB.length+w.aD.length<=6):(iS w).Good:=by
 have a:=Fr.qI b.fits b.EB;refine⟨⟨?_,a.fits.roads,a.fits.row,λe he=>?_⟩,a.fr,a.to,a.le,a.cM,a.aW,?_,λe he=>?_,a.JB⟩
 . grind
 . rcases ZA.1 he with he|he
   . exact a.fits.marks e he
   . obtain⟨c,d,rfl⟩:=ZU.1 he
     exact(b.UO c d).1.marks _ (lb.2 rfl)
 . simp_all
 . rcases ZA.1 he with he|he
   . exact a.tz e he
   . obtain⟨c,d,rfl⟩:=ZU.1 he
     exact(Fr.qI (b.UO c d).1 (b.UO c d).2).tz _ (lb.2 rfl)
theorem FP{w}(D:m.solo=true)(e:w.pY)(h:KF (.val (int (mY w))) σ):az prog m 33 [dv w] σ KF:=by
 have E:=e.ways;have F:=e.aD;unfold mY at h;refine fs V8 Tryz.func33 rfl (by kernel_rfl) ?_;simp[Tryz.f33];refine cf Tryz.func70 rfl (rf e.fits e.EB ?_);apply rn;simp;refine cf Tryz.func69 rfl (yc ?_);apply rn;simp;refine cf Tryz.func71 rfl (dW ?_);apply rn;simp;refine aG.intro (λj=>?_) (λj=>?_)<;>(try simp at j)<;>(try simp[j]at h)<;>(try simp[j])<;>(try exact .done h);have I:=dA j;refine aG.intro (λv=>?_) (λv=>?_)<;>(try simp[-Int.not_lt,-Int.not_le]at v)<;>(try simp[v]at h)<;>(try simp[v])<;>(try exact .done h);refine aa.loop w.ways.length (λk s=>∃env,s=⟨env,σ,[],.no⟩/\env 1=.cp (dv w) 0/\env 28=uA w.ways/\env 29=int w.ways.length/\env 30=int k/\fJ (pX w.ba) w.ways=fJ (pX w.ba) (w.ways.drop k)) ⟨_,rfl,by simp⟩ ?_;rintro G k _ H ⟨env,rfl,c,l,o,g,a⟩ B;refine aa.runN lay [] 17 ?_;simp[o,g];apply aG.intro<;>intro C<;>simp at C<;>simp[c,l,g,C]
 . rw[Af _ _ k C]at a
   refine bV.intro λd hd=>?_
   simp;change aa _ _ _ _ _ _ _ _ _;refine aa.runN lay [] 1 ?_;simp;change aa _ _ _ _ _ _ _ _ _;refine aa.bD 5 (b:=d) (jx w.ways[k]) (ab.ai _ _ _) (by simp) rfl ?_;rw[eY hd];apply rn;simp[c];refine cf Tryz.func72 rfl (BJ (by omega) ?_);apply rn;simp;apply aG.intro<;>intro p<;>simp at p<;>simp[g,p]
   . rw[ZB p]at a
     simp[a,p]at h;exact .done h
   . rw[ZG p]at a
     refine⟨by omega,B _ (by omega) ⟨_,rfl,?_,?_,?_,?_,a⟩⟩<;>simp[c,l,o]
 . have ek:k=w.ways.length:=by omega
   subst ek;rw[abj]at a;rw[show fJ (pX w.ba) []=0 from rfl]at a;simp[a]at h;refine aG.intro (λx=>?_) (λx=>?_)<;>(try simp[-Int.not_lt,-Int.not_le]at x)<;>(try simp[x]at h)<;>(try simp[x])<;>(try exact .done h)
   . apply rn
     simp;exact .done h
   apply rn;simp[c];refine aa.loop w.aD.length (λk s=>∃env,s=⟨env,σ,[],.no⟩/\env 1=.cp (dv w) 0/\env 47=kD w.aD/\env 48=int w.aD.length/\env 49=int k/\fJ (yV w) w.aD=fJ (yV w) (w.aD.drop k)) ⟨_,rfl,by simp[c]⟩ ?_;rintro G k _ H ⟨env,rfl,c,q,r,i,a⟩ B;refine aa.runN lay [] 17 ?_;simp[r,i];apply aG.intro<;>intro t<;>simp at t<;>simp[c,q,i,t]
   . rw[Af _ _ k t]at a
     refine bV.intro λd hd=>?_
     simp;change aa _ _ _ _ _ _ _ _ _;refine aa.runN lay [] 1 ?_;simp;change aa _ _ _ _ _ _ _ _ _;refine aa.bD 8 (b:=d) (gW w.aD[k]) (ab.ai _ _ _) (by simp) rfl ?_;rw[eY hd];apply rn;simp[c];refine cf Tryz.func73 rfl (BL (by omega) (e.UO _ (zD t)).1 (e.UO _ (zD t)).2 ?_);apply rn;simp;apply aG.intro<;>intro u<;>simp at u<;>simp[i,u]
     . rw[ZB u]at a
       simp[a,u]at h;exact .done h
     . rw[ZG u]at a
       refine⟨by omega,B _ (by omega) ⟨_,rfl,?_,?_,?_,?_,a⟩⟩<;>simp[c,q,r]
   . have ek:k=w.aD.length:=by omega
     subst ek;rw[abj]at a;rw[show fJ (yV w) []=0 from rfl]at a;simp[a]at h;have J:=(Fr.qI e.fits e.EB).qH;have f1:-9223372036854775808<=(w.fair.aB.length:Int)+w.aD.length/\(w.fair.aB.length:Int)+w.aD.length<=9223372036854775807:=by omega
     apply rn;simp[f1.1,f1.2];refine aG.intro (λy=>?_) (λy=>?_)<;>(try simp[-Int.not_lt,-Int.not_le]at y)<;>(try simp[y]at h)<;>(try simp[c,y])<;>(try exact .done h);have z:=lP e (by omega);refine cf Tryz.func76 rfl (M9 (by omega) ?_);apply pg;simp;refine cf Tryz.func75 rfl (DN (by grind) ?_);apply pg;simp;refine cf Tryz.func74 rfl (MM (f:=iS w) D z.fits z.EB ⟨Nat.lt_of_le_of_lt (BG z _) (by decide),Nat.lt_of_le_of_lt (BG z _) (by decide)⟩ ?_);apply pg;simp;obtain⟨n,a⟩:∃n,n=gV (iS w):=⟨_,rfl⟩;rw[<-a]at h;change aa _ _ _ _ _ _ _ _ _;simp only[<-a];apply rn;simp;refine aG.intro (λA=>?_) (λA=>?_)<;>(try simp at A)<;>(try simp[A]at h)<;>(try simp[A])<;>(try exact .done h)
end
open Go.cz Go.Conc
theorem yd{m fb mb A j w c o p q hole}(B:∀i∈hole,9<=i)(C:A.fb=fb/\A.mb=mb/\A.fo=9/\A.nm=nn/\A.ng=ng/\A.dir=true)(hj:j<3)(r:∀x,A.GI x↔x=.map [])(D:w.ways.length<1152921504606846976)(s:∀x∈w.ways,tg w.ba x)(E:1<=w.ba/\w.ba<=4)(F:0<=c.town/\c.town<w.ba)(t:0<=c.hour/\c.hour<=72)
 (G:A.val j=.int .i64 ((qE w.ways w.ba.toNat c.town c.hour).getD 0 0)){body}(hb:Tryz.f90.body=some body):
 aa prog (ib prog A j) 90 25 none Ul [.code body] ⟨di [.ref A.gb 0,.cp (Pl fb mb w o p q hole 0) 0,.cp (gW c) 0,.cp (int j) 0],jz A.fb,[],.told .deferred [cD prog] m⟩ (Q4 prog A j Tryz.f90):=by
 obtain⟨rfl,rfl,a,e,H,d⟩:=C;simp only[Tryz.f90,kn]at hb;subst hb;apply rn;simp;refine aa.defer rfl rfl rfl rfl (by simp) rfl ?_
 apply rn;simp;obtain⟨I,L,M,N,y⟩:=BI (l:=w.ways) (n:=w.ba.toNat) (town:=c.town) (λx g=>(s x g).2.2.1) t
 rw[y]at G;refine cf Tryz.func92 rfl (FN B D s E F t λh k=>?_)
 have J:h A.fb=some .gL:=k _ _ (by simp[jz])
 rw[y];apply rn;simp;have cell:A.cell j=11+j:=by unfold bL.cell;rw[a]
 have z:=@E9 prog A j d;rw[a,e]at z;refine cf Tryz.func93 rfl (z (by rw[cell];simp<;>omega) J λx v g O=>?_)
 obtain rfl:=(r x).1 g;apply rn;simp;refine aa.defer rfl rfl rfl rfl (by simp) rfl ?_
 have K:(j:Int)<3:=by omega
 have P:j<=2:=by omega
 refine aa.runN lay [] 1 ?_;simp
 change aa _ _ _ _ _ _ _ _ _
 refine aa.draw lay (.take [0,1,2,3,4,5] false (.one 6 (.done))) rfl ?_;refine aM.take lay [] ?_;simp[AO,K];refine aM.one rfl (by kernel_rfl) rfl (by simp) ?_
 refine Ij lay (b:=A.fb) (off:=11+j) (u:=.int .i64 I) (v0:=v) (f:=A.own j v) rfl rS rfl ?_ (by simp) rfl (by simp) (by simp[bL.own,cell]) ?_
 . simp
   exact qy _ _ _ _
 . refine iH.done ?_
   apply rn;simp;exact⟨rfl,.inl rfl,⟨m,rfl⟩,Pl A.fb A.mb w o p q hole 9,_,.map [],by rw[a];exact qy _ _ _ _,by grind,ab.ai _ _ _,by simp_all,(ab.ah _ _ (zj A.d5)).trans (ab.ai _ _ _),(r _).2 rfl,rfl⟩
