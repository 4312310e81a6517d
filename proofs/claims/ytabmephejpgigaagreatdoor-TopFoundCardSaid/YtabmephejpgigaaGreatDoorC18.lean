import Derived.Test.YtabmephejpgigaaGreatDoorC17
set_option linter.all false
set_option maxHeartbeats 2000000
set_option maxRecDepth 4000
namespace Go.Proofs.YtabmephejpgigaaGreatDoor
open Go.Proofs.Tryz (prog)
section
open Go.cr Go.Conc
variable{m:Mo}{σ:ab}{KF:aaQ}
theorem sJ{l:abf}(h:l.Nodup){i j hi}{hj:j<l.length}(a:i≠j):l[i]≠l[j]:=by
 rw[List.Nodup,List.pairwise_iff_getElem]at h
 grind
def iH(rs:abf)(M:aaK)(n j:Nat):abj:=(List.range rs.length).map λl=>if l<j then ints (M.getD l [])else AV.gq (rs.getD l 0) 0 n n
theorem n8  rs   M   n j :(iH rs M n j).length=rs.length:=by rw[iH,YV,ZI]
theorem oa{rs M n j l}(a:l<rs.length):(iH rs M n j)[l]?=some (if l<j then ints (M.getD l [])else AV.gq (rs.getD l 0) 0 n n):=by rw[iH,YY,List.getElem?_range a];rfl
theorem CV{fid r ro hold K todo env D rc d n at_ rs M}{cs:abj}{spr}(σ0:ab)(k:rs.Nodup)(s:∀l,l<rs.length->(M.getD l []).length=n)(o:at_<cs.length)(hd:d∉rs)
 (w:∀σ',σ' d=some (.cells (cs.set at_ (.sl 1 (iH rs M n rs.length) spr)))->(∀y,y≠d->y∉rs->σ' y=σ0 y)->aa prog m fid r ro hold todo ⟨env,σ',D,rc⟩ K):
 ∀  f j ,j+f=rs.length->∀σ,σ d=some (.cells (cs.set at_ (.sl 1 (iH rs M n j) spr)))->(∀  l   h ,j<=l->σ rs[l]=some (.cells ((M.getD l []).map int)))->(∀y,y≠d->y∉rs->σ y=σ0 y)->aa prog m fid r ro hold todo ⟨env,σ,D,rc⟩ K
 | 0,j,x,σ,t,_,z=>by
   have:j=rs.length:=by omega
   simp_all
 | f + 1,j,x,σ,t,A,z=>by
   have a:j<rs.length:=by omega
   have B:=s j a;have q:d≠rs[j]:=λe=>hd (e ▸ zD a)
   have c:∀e∈iH rs M n j,e.cells=[e]:=λe p=>by unfold iH at p;obtain⟨l,_,rfl⟩:=YN.1 p;split<;>rfl
   have hlen:(iH rs M n j).length=rs.length:=n8 _ _ _ _;have u:∀l,l<rs.length->(iH rs M n j)[l]?=some (if l<j then ints (M.getD l [])else AV.gq (rs.getD l 0) 0 n n):=λl h=>oa h
   have g:(iH rs M n j).set j (.sl 1 ((M.getD j []).map int) .any)=iH rs M n (j+1):=by
    apply List.ext_getElem?;intro l
    by_cases h:l<rs.length
    . have G:(iH rs M n (j+1))[l]?=some (if l<j+1 then ints (M.getD l [])else AV.gq (rs.getD l 0) 0 n n):=oa h
      grind
    . rw[Zu (by simp_all),Zu (by rw[n8];omega)]
   refine aa.NW (b:=rs[j]) (d:=d) (i:=j) (l:=(M.getD j []).map int) (at_:=at_) q (A j a (YF _)) (λe p=>by obtain⟨_,_,rfl⟩:=YN.1 p;rfl) t (by rw[Zx o]) c (by simp_all) ?_
   rw[List.set_set,g];refine CV σ0 k s o hd w f (j+1) (by omega) _ (ab.aj _ _ _) (λl h v=>?_) (λy C E=>?_)
   . have F:rs[l]≠d:=λe=>hd (e ▸ zD h)
     rw[ab.ah _ _ F];simp only[ab.del,sJ k (show l≠j by omega),Rp]
     grind
   . rw[ab.ah _ _ C]
     have:y≠rs[j]:=λe=>E (e ▸ zD a)
     simp only[ab.del,this,Rp]
     simp_all
section
variable{c k:Nat}{nums:abe}
abbrev fF:abj:=[.lit (.slice none 0 0),.lit (.slice none 0 0),int 0,int 0,int 0,int 0]
theorem E2{cnt}(hk:k+20+11*cnt.toNat<1000000)(hn:nums.length<1152921504606846976)(gR:0<=cnt/\cnt<=1000)(hb:bn c nums k σ)(h:∀  f   a  σ',tK cnt f->oD c nums (k+20+11*cnt.toNat) σ σ'->(f.aA=[]->a=.lit (.slice none 0 0))/\(f.aA≠[]->a=iv f.aA)->KF (.val (.agg [a,rows f.roads,int f.aS,int f.ew,int f.cK,int f.aV])) σ'):aB prog m 24 [.ref c 0,int cnt] σ KF:=by
 obtain⟨n0,s0,_,fu⟩:=id hb;refine fs Vf Tryz.func24 rfl (by kernel_rfl) ?_
 simp[Tryz.f24];refine cz.intro λA h4=>?_
 have n4:c≠A:=λe=>by simp_all
 have G:∀x,bn c nums k (σ.set A x):=λx=>⟨n0,s0,by assumption,by rw[ab.ah _ _ n4];exact fu⟩
 simp;refine cf Tryz.func14 rfl (ed (by omega) hn ⟨by omega,by omega⟩ ⟨by omega,by omega⟩ (G _) λcK h3 fv dm=>?_)
 apply rn;simp;refine cf Tryz.func27 rfl (mq (l:=[1,2,2,3,3,6]) (by omega) hn (by simp) dm.1 λaV r fw bw=>?_)
 apply rn;simp;refine cz.intro λw h5=>?_
 have Z:A≠c:=zj n4;have ax:oD c nums (k+2) (σ.set A (.cells fF)) r:=dm.trans bw;have ee:r A=some (.cells fF):=by rw[ax.2 A Z,ab.aj]
 have K:w≠c:=λe=>by subst e;obtain⟨_,_,_,q⟩:=bw.1;simp_all
 have S:w≠A:=λe=>by simp_all
 have aL:σ w=none:=by rw[ax.2 w K,ab.ah _ _ S]at h5;exact h5
 simp[aH]
 have eg:∀x,bn c nums (k+2) (r.set w x):=λx=>by obtain⟨n,z,h1,h2⟩:=bw.1;exact⟨n,z,by omega,by rw[ab.ah _ _ (zj K)];exact h2⟩
 refine cf Tryz.func14 rfl (ed (by omega) hn ⟨by omega,by omega⟩ ⟨by omega,by omega⟩ (eg _) λdJ g fx dr=>?_)
 apply rn;simp;refine cf Tryz.func15 rfl (eF (by omega) hn ⟨by omega,by omega⟩ dr.1 λlo aO fO dx=>?_)
 apply rn;simp;have ay:oD c nums (k+4) (r.set w (.cells [.lit (.slice none 0 0),.lit (.slice none 0 0),int 0,int 0,int cK,int aV])) aO:=dr.trans dx;obtain⟨sp,rfl⟩:∃sp:Nat,dJ=(sp:Int):=⟨dJ.toNat,by omega⟩
 have h6:1<=sp/\sp<=3:=by omega
 have gd:0<=lo/\lo<=4:=by omega
 have ei:1<=cK/\cK<=4:=by omega
 have dy:aV=1\/aV=2\/aV=3\/aV=6:=by simp_all
 have ej:aO w=some (.cells [.lit (.slice none 0 0),.lit (.slice none 0 0),int 0,int 0,int cK,int aV]):=by rw[ay.2 w K,ab.aj]
 have ep:aO A=some (.cells fF):=by rw[ay.2 A Z,ab.ah _ _ (zj S)];exact ee
 have c9:(σ.del c).Le aO:=λy x p=>by
  have y1:y≠c:=λe=>by subst e;simp[ab.del]at p
  have y0:σ y=some x:=by simpa[ab.del,y1]using p
  have y5:y≠w:=λe=>by simp_all
  have y4:y≠A:=λe=>by simp_all
  rw[ay.2 y y1,ab.ah _ _ y5,ax.2 y y1,ab.ah _ _ y4];exact y0
 have b2:=dx.1;clear dm bw dr dx ax ay G eg h5 ee fv fw fx fO
 refine aa.loop sp (λi s=>∃env σ' a rs,s=⟨env,σ',[],.no⟩/\env 0=.ref c 0/\env 1=int cnt/\env 4=.ref A 0/\env 5=.ref w 0/\env 6=int sp/\env 7=int lo/\env 8=int i/\bn c nums (k+4) σ'/\σ' A=some (.cells fF)/\σ' w=some (.cells [.lit (.slice none 0 0),a,int 0,int 0,int cK,int aV])/\
  Tok (σ.del c) σ' a 1 (rs.map λb:Nat=>AV.gq b 0 sp sp)/\rs.length=i/\rs.Nodup/\(∀b∈rs,σ b=none/\b≠c/\b≠A/\b≠w/\σ' b=some (.cells (List.replicate sp (int 0))))) ⟨_,aO,.lit (.slice none 0 0),[],rfl,by simp,by simp,by simp,by simp,by simp,by simp,by simp,b2,ep,ej,⟨c9,.inl ⟨rfl,rfl⟩⟩,rfl,aar,by simp⟩ ?_
 rintro c0 i _ hi ⟨env,σ',a,rs,rfl,J,e1,T,D,H,e7,e8,I,q4,V,u,b3,a7,b0⟩ ih
 have L:=u.cells
 rcases Zb i sp with g1|g1
 . have gf:(i:Int)<sp:=by omega
   have f1:-9223372036854775808<=(i:Int)+1/\(i:Int)+1<=9223372036854775807:=by omega
   have ea:∀a8:ab,Tok (σ.del c) a8 a 1 (rs.map λb:Nat=>AV.gq b 0 sp sp)->∀y l,a8 y=some (.cells l)->bH a≠some y:=λa8 hx y l p e=>by obtain⟨_,_,q⟩:=hx.bb e;rw[p]at q;cases q
   have fresh:∀b,σ' b=none->σ b=none/\b≠c/\b≠A/\b≠w/\w≠b/\b∉rs:=λb U=>by
    have n1:b≠c:=λe=>by subst e;obtain⟨_,_,_,q⟩:=I;simp_all
    refine⟨?_,n1,λe=>(by subst e;simp_all),λe=>(by subst e;simp_all),λe=>(by simp_all),λe=>(by rw[(b0 b e).2.2.2.2]at U;cases U)⟩
    cases e:σ b with
    |none=>rfl
    |some x=>have:=u.1 b x (by simp[ab.del,n1,e]);rw[U]at this;cases this
   apply rn;simp[D,H,e8,V,gf];refine⟨?_,?_⟩
   . ((
       refine sC lay rfl eC rfl uI rfl (by decide) rfl rfl (n:=sp) (by simp[H]) (by simp[H]) ⟨by omega,by omega⟩ λb U=>?_
       obtain⟨bx,a9,ad,al,b4,av⟩:=fresh b U;have up:=u.up (ab.qR (x:=.cells (List.replicate sp (int 0))) (ab.le_refl _) U);have b1:(σ'.set b (.cells (List.replicate sp (int 0)))) w=some (.cells [.lit (.slice none 0 0),a,int 0,int 0,int cK,int aV]):=(ab.ah _ _ b4).trans V;apply pg;simp[D,H,b1,L.1,L.2]))
     ((
       refine aQ lay rfl rfl rfl qZ rfl qZ rfl eC (by decide) (by simp;omega) (σ0:=(σ'.set b (.cells (List.replicate sp (int 0)))).off a) (es:=rs.map λb:Nat=>AV.gq b 0 sp sp) (xs:=[AV.gq b 0 sp sp]) (by simpa using up.here.1) (.inr ⟨_,by simp;rfl⟩) λa' g t=>?_
       have B:=t.cells;have F:∀y l,(σ'.set b (.cells (List.replicate sp (int 0)))) y=some (.cells l)->g y=some (.cells l):=λy l p=>t.1 _ _ (by rw[ab.fK (ea _ up y l p)];exact p)
       have Q:=F _ _ b1;apply pg;simp[D,Q,B.1,B.2,aH];apply rn;simp[e8,f1.1,f1.2];obtain⟨X,Y,G,E⟩:=I
       have C:Tok (σ.del c) g a' 1 ((rs++[b]).map λb:Nat=>AV.gq b 0 sp sp):=by have:=t.base up.here.2;simpa using this
       refine ih _ g1 ⟨_,_,a',rs++[b],rfl,by simp[J],by simp[e1],by simp[T],by simp[D],by simp[H],by simp[e7],by simp,⟨X,Y,G,?_⟩,?_,ab.aj _ _ _,C.beside (by simp[ab.del,K,aL]) (λe=>by obtain⟨_,_,q⟩:=C.bb e;rw[Q]at q;cases q),by simp[b3],?_,?_⟩
       . rw[ab.ah _ _ (zj K)];exact F _ _ ((ab.ah _ _ (zj a9)).trans E)
       . rw[ab.ah _ _ (zj S)];exact F _ _ ((ab.ah _ _ (zj ad)).trans q4)
       . rw[aau]
         exact⟨a7,by simp,λx hx y p=>by simp at p;subst p;exact λe=>av (e ▸ hx)⟩
       . intro d hd
         rcases YH.1 hd with hd|hd
         . obtain⟨p1,p2,p3,p4,p5⟩:=b0 d hd
           have b5:d≠b:=λe=>av (e ▸ hd)
           exact⟨p1,p2,p3,p4,by rw[ab.ah _ _ p4];exact F _ _ ((ab.ah _ _ b5).trans p5)⟩
         . simp at hd
           subst hd;exact⟨bx,a9,ad,al,by rw[ab.ah _ _ al];exact F _ _ (ab.aj _ _ _)⟩))
   . ((
       refine sC lay rfl eC rfl uI rfl (by decide) rfl rfl (n:=sp) (by simp[H]) (by simp[H]) ⟨by omega,by omega⟩ λb U=>?_
       obtain⟨bx,a9,ad,al,b4,av⟩:=fresh b U;have up:=u.up (ab.qR (x:=.cells (List.replicate sp (int 0))) (ab.le_refl _) U);have b1:(σ'.set b (.cells (List.replicate sp (int 0)))) w=some (.cells [.lit (.slice none 0 0),a,int 0,int 0,int cK,int aV]):=(ab.ah _ _ b4).trans V;apply pg;simp[D,H,b1,L.1,L.2]))
     refine⟨?_,?_⟩
     . ((
         refine aQ lay rfl rfl rfl qZ rfl qZ rfl eC (by decide) (by simp;omega) (σ0:=(σ'.set b (.cells (List.replicate sp (int 0)))).off a) (es:=rs.map λb:Nat=>AV.gq b 0 sp sp) (xs:=[AV.gq b 0 sp sp]) (by simpa using up.here.1) (.inr ⟨_,by simp;rfl⟩) λa' g t=>?_
         have B:=t.cells;have F:∀y l,(σ'.set b (.cells (List.replicate sp (int 0)))) y=some (.cells l)->g y=some (.cells l):=λy l p=>t.1 _ _ (by rw[ab.fK (ea _ up y l p)];exact p)
         have Q:=F _ _ b1;apply pg;simp[D,Q,B.1,B.2,aH];apply rn;simp[e8,f1.1,f1.2];obtain⟨X,Y,G,E⟩:=I
         have C:Tok (σ.del c) g a' 1 ((rs++[b]).map λb:Nat=>AV.gq b 0 sp sp):=by have:=t.base up.here.2;simpa using this
         refine ih _ g1 ⟨_,_,a',rs++[b],rfl,by simp[J],by simp[e1],by simp[T],by simp[D],by simp[H],by simp[e7],by simp,⟨X,Y,G,?_⟩,?_,ab.aj _ _ _,C.beside (by simp[ab.del,K,aL]) (λe=>by obtain⟨_,_,q⟩:=C.bb e;rw[Q]at q;cases q),by simp[b3],?_,?_⟩
         . rw[ab.ah _ _ (zj K)];exact F _ _ ((ab.ah _ _ (zj a9)).trans E)
         . rw[ab.ah _ _ (zj S)];exact F _ _ ((ab.ah _ _ (zj ad)).trans q4)
         . rw[aau]
           exact⟨a7,by simp,λx hx y p=>by simp at p;subst p;exact λe=>av (e ▸ hx)⟩
         . intro d hd
           rcases YH.1 hd with hd|hd
           . obtain⟨p1,p2,p3,p4,p5⟩:=b0 d hd
             have b5:d≠b:=λe=>av (e ▸ hd)
             exact⟨p1,p2,p3,p4,by rw[ab.ah _ _ p4];exact F _ _ ((ab.ah _ _ b5).trans p5)⟩
           . simp at hd
             subst hd;exact⟨bx,a9,ad,al,by rw[ab.ah _ _ al];exact F _ _ (ab.aj _ _ _)⟩))
     . ((
         refine aQ lay rfl rfl rfl qZ rfl qZ rfl eC (by decide) (by simp;omega) (σ0:=(σ'.set b (.cells (List.replicate sp (int 0)))).off a) (es:=rs.map λb:Nat=>AV.gq b 0 sp sp) (xs:=[AV.gq b 0 sp sp]) (by simpa using up.here.1) (.inr ⟨_,by simp;rfl⟩) λa' g t=>?_
         have B:=t.cells;have F:∀y l,(σ'.set b (.cells (List.replicate sp (int 0)))) y=some (.cells l)->g y=some (.cells l):=λy l p=>t.1 _ _ (by rw[ab.fK (ea _ up y l p)];exact p)
         have Q:=F _ _ b1;apply pg;simp[D,Q,B.1,B.2,aH];apply rn;simp[e8,f1.1,f1.2];obtain⟨X,Y,G,E⟩:=I
         have C:Tok (σ.del c) g a' 1 ((rs++[b]).map λb:Nat=>AV.gq b 0 sp sp):=by have:=t.base up.here.2;simpa using this
         refine ih _ g1 ⟨_,_,a',rs++[b],rfl,by simp[J],by simp[e1],by simp[T],by simp[D],by simp[H],by simp[e7],by simp,⟨X,Y,G,?_⟩,?_,ab.aj _ _ _,C.beside (by simp[ab.del,K,aL]) (λe=>by obtain⟨_,_,q⟩:=C.bb e;rw[Q]at q;cases q),by simp[b3],?_,?_⟩
         . rw[ab.ah _ _ (zj K)];exact F _ _ ((ab.ah _ _ (zj a9)).trans E)
         . rw[ab.ah _ _ (zj S)];exact F _ _ ((ab.ah _ _ (zj ad)).trans q4)
         . rw[aau]
           exact⟨a7,by simp,λx hx y p=>by simp at p;subst p;exact λe=>av (e ▸ hx)⟩
         . intro d hd
           rcases YH.1 hd with hd|hd
           . obtain⟨p1,p2,p3,p4,p5⟩:=b0 d hd
             have b5:d≠b:=λe=>av (e ▸ hd)
             exact⟨p1,p2,p3,p4,by rw[ab.ah _ _ p4];exact F _ _ ((ab.ah _ _ b5).trans p5)⟩
           . simp at hd
             subst hd;exact⟨bx,a9,ad,al,by rw[ab.ah _ _ al];exact F _ _ (ab.aj _ _ _)⟩))
 . have gj:sp=i:=by omega
   subst gj;clear ih b2 ej ep c9
   obtain⟨spr,rfl⟩:∃spr,a=.sl 1 (rs.map λb:Nat=>AV.gq b 0 sp sp) spr:=by
    rcases u.2 with⟨_,e⟩|e|⟨_,_,_,e,_⟩
    . have:=congrArg List.length e
      grind
    . simp_all
    simp_all
   have N:=u.1;clear u
   have bA:∀(j:Nat) (hj:j<rs.length),σ rs[j]=none/\rs[j]≠c/\rs[j]≠A/\rs[j]≠w:=λj hj=>by simp_all
   apply rn;simp[H,e8]
   have o:∀(j:Nat) (hj:j<rs.length),σ' rs[j]=some (.cells (((List.replicate sp (List.replicate sp (0:Int))).getD j []).map int)):=λj hj=>by
    rw[(b0 _ (zD hj)).2.2.2.2]
    simp_all
   clear b0
   refine aa.loop sp (λi s=>∃env σ' M,s=⟨env,σ',[],.no⟩/\env 0=.ref c 0/\env 1=int cnt/\env 4=.ref A 0/\env 5=.ref w 0/\env 6=int sp/\env 7=int lo/\env 9=int i/\bn c nums (k+4+3*i) σ'/\σ' A=some (.cells fF)/\σ' w=some (.cells [.lit (.slice none 0 0),.sl 1 (rs.map λb:Nat=>AV.gq b 0 sp sp) spr,int 0,int 0,int cK,int aV])/\
    (σ.del c).Le σ'/\Gj sp lo i 0 M/\∀(j:Nat) (hj:j<rs.length),σ' rs[j]=some (.cells ((M.getD j []).map int))) ⟨_,σ',_,rfl,by simp[J],by simp[e1],by simp[T],by simp[D],by simp[H],by simp[e7],by simp,I,q4,V,N,Gj.start sp lo,o⟩ ?_
   clear J e1 T D H e7 e8 I q4 V N o
   rintro c1 i _ h7 ⟨env,σ',M,rfl,J,e1,T,D,H,e7,e9,I,q4,V,N,hM,o⟩ ih
   rcases Zb i sp with g2|g2
   . have Ef:(i:Int)<sp:=by omega
     apply rn;simp[H,e9,Ef]
     refine aa.loop i (λj s=>∃env σ' M,s=⟨env,σ',[],.no⟩/\env 0=.ref c 0/\env 1=int cnt/\env 4=.ref A 0/\env 5=.ref w 0/\env 6=int sp/\env 7=int lo/\env 9=int i/\env 10=int j/\bn c nums (k+4+3*i+j) σ'/\σ' A=some (.cells fF)/\σ' w=some (.cells [.lit (.slice none 0 0),.sl 1 (rs.map λb:Nat=>AV.gq b 0 sp sp) spr,int 0,int 0,int cK,int aV])/\
      (σ.del c).Le σ'/\Gj sp lo i j M/\∀(j:Nat) (hj:j<rs.length),σ' rs[j]=some (.cells ((M.getD j []).map int))) ⟨_,σ',M,rfl,by simp[J],by simp[e1],by simp[T],by simp[D],by simp[H],by simp[e7],by simp[e9],by simp,I,q4,V,N,hM,o⟩ ?_
     clear J e1 T D H e7 e9 I q4 V N hM o
     rintro c2 j _ hj ⟨env,σ',M,rfl,J,e1,T,D,H,e7,e9,bc,I,q4,V,N,hM,o⟩ et
     rcases Zb j i with g3|g3
     . have FW:(j:Int)<i:=by omega
       have f1:-9223372036854775808<=(j:Int)+1/\(j:Int)+1<=9223372036854775807:=by omega
       have f2:-9223372036854775808<=2*lo/\2*lo<=9223372036854775807:=by omega
       apply rn;simp[J,e7,e9,bc,FW,f2.1,f2.2];refine cf Tryz.func14 rfl (ed (by omega) hn ⟨by omega,by omega⟩ ⟨by omega,by omega⟩ I λv r hv hd=>?_)
       have s5:r w=some (.cells [.lit (.slice none 0 0),.sl 1 (rs.map λb:Nat=>AV.gq b 0 sp sp) spr,int 0,int 0,int cK,int aV]):=by rw[hd.2 w K];exact V
       have s4:r A=some (.cells fF):=by rw[hd.2 A Z];exact q4
       have ca:i<rs.length:=by omega
       have cb:j<rs.length:=by omega
       obtain⟨z1,z2,z3,z4⟩:=bA i ca;obtain⟨y1,y2,y3,y4⟩:=bA j cb;have si:r rs[i]=some (.cells ((M.getD i []).map int)):=by rw[hd.2 _ z2];exact o i ca
       have sj:r rs[j]=some (.cells ((M.getD j []).map int)):=by rw[hd.2 _ y2];exact o j cb
       have gl:rs[i]≠rs[j]:=sJ a7 (by omega)
       have ev:=zj gl;obtain⟨Ri,ey⟩:∃R,R=M.getD i []:=⟨_,rfl⟩;obtain⟨Rj,eB⟩:∃R,R=M.getD j []:=⟨_,rfl⟩;have li:=hM.row i (by omega)
       have lj:=hM.row j (by omega)
       rw[<-ey]at si li;rw[<-eB]at sj lj;have gp:j+1<=sp:=by omega
       have gw:i+1<=sp:=by omega
       have g4:j<sp:=by omega
       have gA:(j:Int)<sp:=by omega
       have eK:(i:Int)<sp:=by omega
       have hF:∀g,g=(r.set rs[i] (.cells ((Ri.map int).set j (int v)))).set rs[j] (.cells ((Rj.map int).set i (int v)))->bn c nums (k+4+3*i+(j+1)) g/\g A=some (.cells fF)/\g w=some (.cells [.lit (.slice none 0 0),.sl 1 (rs.map λb:Nat=>AV.gq b 0 sp sp) spr,int 0,int 0,int cK,int aV])/\(σ.del c).Le g/\∀(l:Nat) (hl:l<rs.length),g rs[l]=some (.cells (((yv M i j v).getD l []).map int)):=λg e3=>by
        subst e3;refine⟨?_,?_,?_,λy x p=>?_,λl hl=>?_⟩
        . obtain⟨X,Y,G,E⟩:=hd.1
          exact⟨X,Y,by omega,by rw[ab.ah _ _ (zj y2),ab.ah _ _ (zj z2)];exact E⟩
        . rw[ab.ah _ _ (zj y3),ab.ah _ _ (zj z3)];exact s4
        . rw[ab.ah _ _ (zj y4),ab.ah _ _ (zj z4)];exact s5
        . have w1:y≠c:=λe=>by subst e;simp[ab.del]at p
          have w0:σ y=some x:=by simpa[ab.del,w1]using p
          have w2:y≠rs[i]:=λe=>by rw[e,z1]at w0;cases w0
          have w3:y≠rs[j]:=λe=>by rw[e,y1]at w0;cases w0
          rw[ab.ah _ _ w3,ab.ah _ _ w2,hd.2 y w1];exact N y x p
        . rw [zx (by rw[hM.len];omega) (by rw[hM.len];omega) (by omega),<-ey,<-eB]
          by_cases q1:l=j
          . subst q1
            rw[YG rfl,ab.aj,aal]
          . rw[YA q1,ab.ah _ _ (sJ a7 q1)]
            by_cases q2:l=i
            . subst q2
              rw[YG rfl,ab.aj,aal]
            . rw[YA q2,ab.ah _ _ (sJ a7 q2),hd.2 _ (bA l hl).2.1]
              exact o l hl
       have O:=hF _ rfl;clear hF;apply rn;simp[D,e9,bc,s5,b3,g2,g4,gA,eK,gp,gw,li,lj,si,sj,ab.ah,ev];refine⟨?_,?_⟩
       . apply rn
         simp[bc,f1.1,f1.2];refine et _ g3 ⟨_,_,yv M i j v,rfl,?_,?_,?_,?_,?_,?_,?_,?_,O.1,O.2.1,O.2.2.1,O.2.2.2.1,hM.next (by omega) g3 ⟨hv.1,by omega⟩,O.2.2.2.2⟩<;>simp[J,e1,T,D,H,e7,e9]
       . apply rn
         simp[bc,f1.1,f1.2];refine et _ g3 ⟨_,_,yv M i j v,rfl,?_,?_,?_,?_,?_,?_,?_,?_,O.1,O.2.1,O.2.2.1,O.2.2.2.1,hM.next (by omega) g3 ⟨hv.1,by omega⟩,O.2.2.2.2⟩<;>simp[J,e1,T,D,H,e7,e9]
     . have gB:i=j:=by omega
       subst gB;have f1:-9223372036854775808<=(i:Int)+1/\(i:Int)+1<=9223372036854775807:=by omega
       apply rn;simp[e9,bc,f1.1,f1.2];refine ih _ g2 ⟨_,_,M,rfl,?_,?_,?_,?_,?_,?_,?_,I.mono (by omega),q4,V,N,hM.line,o⟩<;>simp[J,e1,T,D,H,e7]
   . have gC:sp=i:=by omega
     subst gC;clear ih;have eN:∀l,l<rs.length->(M.getD l []).length=sp:=λl hl=>hM.row l (by omega)
     have eR:w∉rs:=λe=>by
      obtain⟨l,hl,e'⟩:=Za.1 e
      grind
     have aC:rs.map (λb:Nat=>AV.gq b 0 sp sp)=iH rs M sp 0:=by
      apply List.ext_getElem?;intro l
      by_cases hl:l<rs.length
      . rw[oa hl,YA (by omega),YY,zR hl]
        grind
      . rw[Zu (by simp_all),Zu (by rw[n8];omega)]
     have aE:iH rs M sp rs.length=M.map ints:=by
      have gD:=hM.len;apply List.ext_getElem?;intro l
      by_cases hl:l<rs.length
      . have gG:l<M.length:=by omega
        rw[oa hl,YG hl,YY,zR gG]
        simp_all
      . rw[Zu (by rw[n8];omega),Zu (by simp_all)]
     rw[aC]at V;refine CV (d:=w) (n:=sp) (at_:=1) (rs:=rs) (M:=M) (cs:=[.lit (.slice none 0 0),.cu,int 0,int 0,int cK,int aV]) (spr:=spr) σ' a7 eN (by simp) eR (λg eW eX=>?_) rs.length 0 (by omega) σ' (by simp_all) (λl hl _=>o l hl) (λ_ _ _=>rfl)
     rw[aE]at eW;have gU:=hM.fin;have gD:=hM.len
     have F:∀(j:Nat),j≠w->(∀(l:Nat) (hl:l<rs.length),rs[l]≠j)->g j=σ' j:=λj h1 h2=>eX j h1 λe=>by
      obtain⟨l,hl,e'⟩:=Za.1 e
      grind
     have fc:bn c nums (k+4+3*sp) g:=by obtain⟨X,Y,G,E⟩:=I;exact⟨X,Y,G,by grind⟩
     have fg:g A=some (.cells fF):=by grind
     have fi:g w=some (.cells [.lit (.slice none 0 0),.sl 1 (M.map ints) spr,int 0,int 0,int cK,int aV]):=by grind
     have cg:(σ.del c).Le g:=λy x p=>by
      have w1:y≠c:=λe=>by subst e;simp[ab.del]at p
      have w0:σ y=some x:=by simpa[ab.del,w1]using p
      rw[F y (λe=>by grind) (λl hl e=>by grind)]
      exact N y x p
     clear eW eX o aC aE I q4 V N hM eN eR F bA a7 b3;apply rn;simp[J,H,e9];refine cf Tryz.func15 rfl (eF (by omega) hn ⟨by omega,by omega⟩ fc λfr aO h8 b6=>?_)
     apply rn;simp[J];refine cf Tryz.func14 rfl (ed (by omega) hn ⟨by omega,by omega⟩ ⟨by omega,by omega⟩ b6.1 λto bB h9 b7=>?_)
     have Q:bB w=some (.cells [.lit (.slice none 0 0),.sl 1 (M.map ints) spr,int 0,int 0,int cK,int aV]):=by rw[b7.2 w K,b6.2 w K];exact fi
     apply rn;simp[J,e1,D,Q,aH];have t4:bB A=some (.cells fF):=by rw[b7.2 A Z,b6.2 A Z];exact fg
     have cm:(σ.del c).Le bB:=λy x p=>by
      have w1:y≠c:=λe=>by subst e;simp[ab.del]at p
      rw[b7.2 y w1,b6.2 y w1];exact cg y x p
     have fl:∀x,bn c nums (k+6+3*sp) (bB.set w x):=λx=>by obtain⟨n,z,h1,h2⟩:=b7.1;exact⟨n,z,by omega,by rw[ab.ah _ _ (zj K)];exact h2⟩
     refine cf Tryz.func15 rfl (eF (by omega) hn ⟨by omega,by omega⟩ (fl _) λq c6 ha b8=>?_)
     apply rn;simp;have u5:c6 w=some (.cells [.lit (.slice none 0 0),.sl 1 (M.map ints) spr,int fr,int to,int cK,int aV]):=by rw[b8.2 w K,ab.aj]
     have u4:c6 A=some (.cells fF):=by rw[b8.2 A Z,ab.ah _ _ (zj S)];exact t4
     have cv:(σ.del c).Le c6:=λy x p=>by
      have w1:y≠c:=λe=>by subst e;simp[ab.del]at p
      have w0:σ y=some x:=by simpa[ab.del,w1]using p
      rw[b8.2 y w1,ab.ah _ _ (λe=>by simp_all)];exact cm y x p
     obtain⟨qn,rfl⟩:∃qn:Nat,q=(qn:Int):=⟨q.toNat,by omega⟩
     have hh:(qn:Int)<=cnt:=by omega
     have dj:=b8.1;clear b6 b7 b8 fl fc fg fi cg cm Q t4
     refine aa.loop qn (λi s=>∃env σ' a es,s=⟨env,σ',[],.no⟩/\env 0=.ref c 0/\env 4=.ref A 0/\env 5=.ref w 0/\env 6=int sp/\env 13=int ((qn:Int)-i)/\bn c nums (k+7+3*sp+11*i) σ'/\σ' A=some (.cells fF)/\σ' w=some (.cells [a,.sl 1 (M.map ints) spr,int fr,int to,int cK,int aV])/\
      Tok (σ.del c) σ' a 6 (es.map ba)/\es.length=i/\(∀e∈es,xq sp e)/\(es=[]->a=.lit (.slice none 0 0))) ⟨_,c6,.lit (.slice none 0 0),[],rfl,by simp[J],by simp[T],by simp[D],by simp[H],by simp,dj.mono (by omega),u4,u5,⟨cv,.inl ⟨rfl,rfl⟩⟩,rfl,by simp,λ_=>rfl⟩ ?_
     clear J e1 T D H e7 e9 dj u4 u5 cv
     rintro c3 i _ ho ⟨env,σ',a,es,rfl,J,T,D,H,b9,c7,q4,V,u,eb,ec,fp⟩ ih
     have L:=u.cells;have bm:∀a8:ab,Tok (σ.del c) a8 a 6 (es.map ba)->∀y l,a8 y=some (.cells l)->bH a≠some y:=λa8 hx y l p e=>by obtain⟨_,_,q⟩:=hx.bb e;grind
     have ft:∃l,σ' c=some (.cells l):=by obtain⟨_,_,_,q⟩:=c7;grind
     rcases Zb i qn with g1|g1
     . have f1 : -9223372036854775808<=(qn:Int)-i-1/\(qn:Int)-i-1<=9223372036854775807:=by omega
       apply rn;simp[J,D,H,b9,V,g1];refine⟨?_,?_⟩
       . ((
           refine cf Tryz.func25 rfl (nY (by omega) hn ⟨by omega,by omega⟩ c7 λe r he hd=>?_)
           have s5:r w=some (.cells [a,.sl 1 (M.map ints) spr,int fr,int to,int cK,int aV]):=by rw[hd.2 w K];exact V
           have s4:r A=some (.cells fF):=by rw[hd.2 A Z];exact q4
           have P:Tok (σ.del c) r a 6 (es.map ba):=qc u (by simp[ab.del]) ft hd.2
           apply pg;simp[D,s5,L.1,L.2]))
         ((
           refine aQ lay rfl rfl rfl ki rfl ki rfl uZ (by decide) (by simp;omega) (σ0:=r.off a) (es:=es.map ba) (xs:=[ba e]) (by simpa using P.here.1) (.inr ⟨_,by simp;rfl⟩) λa' g t=>?_
           have B:=t.cells;have F:∀y l,r y=some (.cells l)->g y=some (.cells l):=λy l p=>t.1 _ _ (by rw[ab.fK (bm _ P y l p)];exact p)
           have Q:=F _ _ s5;have t4:=F _ _ s4;apply pg;simp[D,Q,B.1,B.2,aH];apply rn;simp[b9,f1.1,f1.2];obtain⟨X,Y,G,E⟩:=hd.1
           have C:Tok (σ.del c) g a' 6 ((es++[e]).map ba):=by have:=t.base P.here.2;simpa using this
           refine ih _ g1 ⟨_,_,a',es++[e],rfl,by simp[J],by simp[T],by simp[D],by simp[H],by simp;omega,⟨X,Y,by omega,?_⟩,?_,ab.aj _ _ _,C.beside (by simp[ab.del,K,aL]) (λe=>by obtain⟨_,_,q⟩:=C.bb e;rw[Q]at q;cases q),by simp[eb],?_,λe=>by simp at e⟩
           . rw[ab.ah _ _ (zj K)];exact F _ _ E
           . rw[ab.ah _ _ (zj S)];exact t4
           . intro x hx
             rcases YH.1 hx with hx|hx
             . exact ec x hx
             . simp at hx;subst hx;exact he))
       . ((
           refine cf Tryz.func25 rfl (nY (by omega) hn ⟨by omega,by omega⟩ c7 λe r he hd=>?_)
           have s5:r w=some (.cells [a,.sl 1 (M.map ints) spr,int fr,int to,int cK,int aV]):=by rw[hd.2 w K];exact V
           have s4:r A=some (.cells fF):=by rw[hd.2 A Z];exact q4
           have P:Tok (σ.del c) r a 6 (es.map ba):=qc u (by simp[ab.del]) ft hd.2
           apply pg;simp[D,s5,L.1,L.2]))
         refine⟨?_,?_⟩
         . ((
             refine aQ lay rfl rfl rfl ki rfl ki rfl uZ (by decide) (by simp;omega) (σ0:=r.off a) (es:=es.map ba) (xs:=[ba e]) (by simpa using P.here.1) (.inr ⟨_,by simp;rfl⟩) λa' g t=>?_
             have B:=t.cells;have F:∀y l,r y=some (.cells l)->g y=some (.cells l):=λy l p=>t.1 _ _ (by rw[ab.fK (bm _ P y l p)];exact p)
             have Q:=F _ _ s5;have t4:=F _ _ s4;apply pg;simp[D,Q,B.1,B.2,aH];apply rn;simp[b9,f1.1,f1.2];obtain⟨X,Y,G,E⟩:=hd.1
             have C:Tok (σ.del c) g a' 6 ((es++[e]).map ba):=by have:=t.base P.here.2;simpa using this
             refine ih _ g1 ⟨_,_,a',es++[e],rfl,by simp[J],by simp[T],by simp[D],by simp[H],by simp;omega,⟨X,Y,by omega,?_⟩,?_,ab.aj _ _ _,C.beside (by simp[ab.del,K,aL]) (λe=>by obtain⟨_,_,q⟩:=C.bb e;rw[Q]at q;cases q),by simp[eb],?_,λe=>by simp at e⟩
             . rw[ab.ah _ _ (zj K)];exact F _ _ E
             . rw[ab.ah _ _ (zj S)];exact t4
             . intro x hx
               rcases YH.1 hx with hx|hx
               . exact ec x hx
               . simp at hx;subst hx;exact he))
         . ((
             refine aQ lay rfl rfl rfl ki rfl ki rfl uZ (by decide) (by simp;omega) (σ0:=r.off a) (es:=es.map ba) (xs:=[ba e]) (by simpa using P.here.1) (.inr ⟨_,by simp;rfl⟩) λa' g t=>?_
             have B:=t.cells;have F:∀y l,r y=some (.cells l)->g y=some (.cells l):=λy l p=>t.1 _ _ (by rw[ab.fK (bm _ P y l p)];exact p)
             have Q:=F _ _ s5;have t4:=F _ _ s4;apply pg;simp[D,Q,B.1,B.2,aH];apply rn;simp[b9,f1.1,f1.2];obtain⟨X,Y,G,E⟩:=hd.1
             have C:Tok (σ.del c) g a' 6 ((es++[e]).map ba):=by have:=t.base P.here.2;simpa using this
             refine ih _ g1 ⟨_,_,a',es++[e],rfl,by simp[J],by simp[T],by simp[D],by simp[H],by simp;omega,⟨X,Y,by omega,?_⟩,?_,ab.aj _ _ _,C.beside (by simp[ab.del,K,aL]) (λe=>by obtain⟨_,_,q⟩:=C.bb e;rw[Q]at q;cases q),by simp[eb],?_,λe=>by simp at e⟩
             . rw[ab.ah _ _ (zj K)];exact F _ _ E
             . rw[ab.ah _ _ (zj S)];exact t4
             . intro x hx
               rcases YH.1 hx with hx|hx
               . exact ec x hx
               . simp at hx;subst hx;exact he))
     . have gH:i=qn:=by omega
       subst gH;apply rn;simp[T,D,b9,V,L.2,q4,aH];obtain⟨X,Y,G,E⟩:=c7;obtain⟨f,hf⟩:∃f:Fr,f=⟨es,M,fr,to,cK,aV⟩:=⟨_,rfl⟩
       have gI:tK cnt f:=by
        subst hf;refine⟨ei,dy,by grind,⟨lo,gd,by grind⟩,by grind,by grind,by grind,λe he=>?_⟩
        grind
       obtain⟨a2,gP,hp⟩:∃a2,((f.aA=[]->a2=.lit (.slice none 0 0))/\(f.aA≠[]->a2=iv f.aA))/\a.W a2:=by
        by_cases e:es=[]
        . exact⟨_,⟨λ_=>rfl,λe2=>absurd (by grind) e2⟩,by rw[fp e];exact .refl _⟩
        . exact⟨_,⟨λe2=>absurd (by grind) e,λ_=>rfl⟩,by subst hf;exact u.W⟩
       refine .qk (a':=.agg [a2,rows f.roads,int f.aS,int f.ew,int f.cK,int f.aV]) (pv (by grind) λi x y x1 x2=>?_) (.less (σ':=σ.set c (.cells [ints nums,int X,.lit (.int .u64 Y)])) (λy x p=>?_) (.done (h f a2 _ gI ⟨⟨X,Y,by omega,ab.aj _ _ _⟩,λy p=>ab.ah _ _ p⟩ gP)))
       . subst hf
         match i with
         |0=>grind
         |1=>simp at x1 x2;subst x1;subst x2;exact jH 1 _ spr
         |2=>simp at x1 x2;subst x1;subst x2;exact .refl _
         |3=>simp at x1 x2;subst x1;subst x2;exact .refl _
         |4=>simp at x1 x2;subst x1;subst x2;exact .refl _
         |5=>simp at x1 x2;subst x1;subst x2;exact .refl _
         |i+6=>simp at x1
       . by_cases y1:y=c
         . subst y1
           rw[ab.aj]at p;rw[ab.ah _ _ n4,E];exact p
         . rw[ab.ah _ _ y1]at p
           have y4:y≠A:=λe=>by grind
           rw[ab.ah _ _ y4];exact u.1 y x (by simpa[ab.del,y1]using p)
end
end
section
open Go.cr Go.Conc
theorem LZ{f}(b:f.Good)  e :bS f e≠[]:=by
 unfold bS iM;have:=b.le;by_cases a:e.jr=0
 . simp[a]
 . have c:(f.ew-f.aS+1).toNat=(f.ew-f.aS).toNat+1:=by omega
   rw[YG a,c,List.range_succ_eq_map];split<;>simp
def L0(f:Fr)(l:abe):abe:=(bS f (aK f (l.getD 0 0))).filter λh=>l.all λj=>decide (h∈bS f (aK f j))
theorem CW{f l}(b:l≠[]):fI f l=L0 f l:=by
 match l,b with
 | a::r,_=>
   simp only[fI,L0,iw,aaw,List.getD_cons_zero];refine ZN λx c=>?_
   simp[c,YE]
section
variable{k:Int->Int}
abbrev CX(k:Int->Int):Int->Int->Bool:=λa b=>decide (k a<k b)
def Dn(k:Int->Int)(r:abe):Prop:=r.Pairwise λy z=>k z<=k y
theorem CY  x :∀{r},(∀z∈r,k z<=k x)->dZ (CX k) x r=x::r
 |[],_=>rfl
 | y::r,h=>by
   unfold dZ
   grind
theorem zy  x :∀{r z},z∈dZ (CX k) x r->z=x\/z∈r
 |[],z,h=>by simp[dZ]at h;exact .inl h
 | y :: r,z,h=>by
   unfold dZ at h;split at h
   . rcases YQ.1 h with rfl|h
     . simp_all
     . rcases zy x h with h|h
       . exact .inl h
       simp_all
   simp_all
theorem vt  x :∀{r},Dn k r->Dn k (dZ (CX k) x r)
 |[],_=>by simp[dZ,Dn]
 | y ::r,h=>by
   obtain⟨d,b⟩:=Zd.1 h;unfold dZ;split
   . next q=>
     have c:k x<k y:=by simp_all
     refine Zd.2 ⟨λz a=>?_,vt x b⟩;rcases zy x a with rfl|a
     . omega
     simp_all
   . next q=>
     have c:¬k x<k y:=by simp_all
     refine Zd.2 ⟨λz a=>?_,h⟩
     grind
theorem Bc{x y r}(h:k x<k y):dZ (CX k) x (y::r)=y::dZ (CX k) x r:=by simp[dZ,CX,h]
theorem Bd{x y r}(h:¬k x<k y):dZ (CX k) x (y::r)=x::y::r:=by simp[dZ,CX,h]
theorem CZ  x :∀r:abe,r.Sublist (dZ (CX k) x r)
 |[]=>List.nil_sublist _
 | y::r=>by
   unfold dZ;split
   . exact(CZ x r).cons_cons y
   simp_all
theorem L1  x  {d r}(a:d.Sublist r) (hd:Dn k r):(dZ (CX k) x d).Sublist (dZ (CX k) x r):=by
 induction a with
 |slnil=>simp_all
 | cons y a b=>
   obtain⟨e,c⟩:=Zd.1 hd;by_cases q:k x<k y
   . rw[Bc q]
     exact(b c).cons y
   . rw[Bd q,CY x (λz f=>by grind)]
     simp_all
 | cons_cons y a b=>
   obtain⟨e,c⟩:=Zd.1 hd;by_cases q:k x<k y
   . rw[Bc q,Bc q]
     exact(b c).cons_cons y
   . rw[Bd q,Bd q]
     simp_all
theorem Iq{d l:abe}(b:d.Sublist l):∀{a r},a.Sublist r->Dn k r->(d.foldl (λr x=>dZ (CX k) x r) a).Sublist (l.foldl (λr x=>dZ (CX k) x r) r):=by
 induction b with
 |slnil=>simp_all
 |cons x b c=>intro a r h hd;exact c (h.trans (CZ x r)) (vt x hd)
 |cons_cons x b c=>intro a r h hd;exact c (L1 x h hd) (vt x hd)
end
theorem mr  f   l :aY f l=(ez (CX λn=>(aK f n).hour) l).reverse:=by
 unfold aY;congr 2;funext a b;unfold tJ AY CX
 grind
theorem Be{f a l}(b:a.Sublist l):(aY f a).Sublist (aY f l):=by rw[mr,mr];exact(Iq b (List.Sublist.refl _) List.Pairwise.nil).reverse
theorem sK{f l n}:n∈aY f l↔n∈l:=by unfold aY;rw[List.mem_reverse,tH]
theorem Qo:∀a:Fin 32,∀b:Fin 32,∀c:Fin 32,bL (a.val:Int) (c.val:Int)<=bL (a.val:Int) (b.val:Int)+bL (b.val:Int) (c.val:Int):=by decide +kernel
theorem kU{l}(h:sD none l=0):∃a:Fin 32,aW l=(a.val:Int):=by have:=jT (qa h);exact⟨⟨(aW l).toNat,by omega⟩,by grind⟩
def Fit(f:Fr)(a b:Int):Prop:=gi f a b=false
theorem Fr.Good.Yo{f:Fr}(a:f.Good){i j k}(hi:i<f.roads.length)(hj:j<f.roads.length)(b:k<f.roads.length):rd f.roads i k<=rd f.roads i j+rd f.roads j k:=by
 have h:=a.IK;unfold fC at h;split at h
 . cases h
 split at h
 . cases h
 split at h
 . omega
 split at h
 . cases h
 next q=>
 simp only[Zc,YB,not_exists,not_and]at q;have c:=q i hi k b;unfold dG at c
 grind
theorem gk{f n}(h:0<=n/\n<f.aA.length):aK f n∈f.aA:=by
 have:n.toNat<f.aA.length:=by omega
 rw[sI this]
 simp_all
theorem zz{f}(d:f.Good){a b c}(q:0<=a/\a<f.aA.length)(hb:0<=b/\b<f.aA.length)(r:0<=c/\c<f.aA.length)(e:Fit f a b)(g:Fit f b c):Fit f a c:=by
 have h:=ov (d.sF _ (gk q));have l:=ov (d.sF _ (gk hb));have m:=ov (d.sF _ (gk r));have hd:=d.cK;obtain⟨A,n⟩:=kU h.2.2.2.2.2;obtain⟨B,o⟩:=kU l.2.2.2.2.2;obtain⟨C,p⟩:=kU m.2.2.2.2.2;have s:=Qo A B C;have t:=h.2.1;have u:=l.2.1;have pc:=m.2.1;have v:=d.Yo (i:=(aK f a).place.toNat) (j:=(aK f b).place.toNat) (k:=(aK f c).place.toNat) (by omega) (by omega) (by omega);unfold Fit gi at e g ⊢;rw[n,o]at e;rw[o,p]at g;rw[n,p];simp only[Zk]at e g ⊢;have w:f.cK*bL (A.val:Int) (C.val:Int)<=f.cK*(bL (A.val:Int) (B.val:Int)+bL (B.val:Int) (C.val:Int)):=Int.mul_le_mul_of_nonneg_left s (by omega)
 grind
theorem xr  f   a b   r :dp f (a::b::r)=(gi f a b||dp f (b::r)):=by
 unfold dp;rw[show(a::b::r).length-1=r.length+1 from rfl,List.range_succ_eq_map,List.any_cons,List.any_map];rfl
theorem tL{f}(e:f.Good):∀{l},(∀n∈l,0<=n/\n<f.aA.length)->dp f l=false->l.Pairwise (Fit f)
 |[],_,_=>List.Pairwise.nil
 |[a],_,_=>List.pairwise_singleton _ _
 | a::b::r,d,h=>by
   rw[xr,aaf]at h;have g:=tL e (λn i=>d n (by simp[i])) h.2;refine Zd.2 ⟨λz j=>?_,g⟩;rcases YQ.1 j with rfl|c
   . exact h.1
   . exact zz e (d a (by simp)) (d b (by simp)) (d z (by simp[c])) h.1 ((Zd.1 g).1 z c)
theorem qd{f}:∀{l},l.Pairwise (Fit f)->dp f l=false
 |[],_=>rfl
 |[a],_=>rfl
 |a::b::r,h=>by obtain⟨c,d⟩:=Zd.1 h;rw[xr,qd d,Bool.or_false];exact c b (by simp)
theorem qe{f l}(b:l≠[]){h}:h∈fI f l↔∀j∈l,h∈bS f (aK f j):=by
 rw[CW b]
 match l,b with
 | a::r,_=>
   simp only[L0,Zj,YE,KD]
   simp_all
theorem pw{f l}:jU f l=0↔dN f (aY f l)=false/\cQ f (aY f l)=false/\dp f (aY f l)=false:=by
 unfold jU
 grind
theorem Of{f}(m:f.Good){c l}(o:c.Sublist l)(p:c≠[])(q:∀n∈l,0<=n/\n<f.aA.length)(h:jU f l=0):jU f c=0:=by
 obtain⟨s,g,t⟩:=pw.1 h;have i:=Be (f:=f) o
 have b:aY f c≠[]:=λe=>by
  cases c with
  |nil=>grind
  |cons a r=>have:a∈aY f (a::r):=sK.2 (by simp);simp_all
 have d:aY f l≠[]:=λe=>b (by simp_all)
 have u:∀n∈aY f l,0<=n/\n<f.aA.length:=λn v=>q n (sK.1 v)
 generalize aY f l=S at *;refine pw.2 ⟨?_,?_,qd ((tL m u t).sublist i)⟩
 . generalize aY f c=k at *
   unfold dN at s ⊢
   grind
 . generalize aY f c=k at *
   unfold cQ at g ⊢;simp only[Zk]at g ⊢;obtain⟨x,w⟩:=ZQ _ g;have:x∈fI f k:=(qe b).2 λj y=>(qe d).1 w j (i.subset y)
   grind
theorem Qp{f}(b:f.Good)  n :jU f [n]=0:=by
 have e:aY f [n]=[n]:=by simp[aY,ez,dZ]
 refine pw.2 ?_;rw[e];refine⟨by simp[dN],?_,rfl⟩;unfold cQ;simp only[Zk];obtain⟨x,c⟩:=ZQ _ (LZ b (aK f n));exact ZV ((qe (by simp)).2 (λj a=>by simp at a;subst a;exact c))
theorem Gk{α β:Type}{B}{g:α->List β}:∀(l:List α),(∀x∈l,(g x).length<=B)->(l.flatMap g).length<=l.length*B
 |[],_=>by simp
 | a::l,h=>by
   rw[aat,YL,Zh,aav,Nat.one_mul];have c:=h a (by simp);have d:=Gk l λx b=>h x (by simp[b])
   omega
theorem C0{f}(a:f.Good)  begun :∀  fuel   cT   many   b ,(fD f begun fuel cT many b).length<=6 ^ fuel
 |0,_,_,_=>by simp[fD]
 | fuel+1,cT,many,b=>by
   unfold fD;refine YO (Gk (B:=6 ^ fuel) _ λk _=>?_) ?_
   . split
     . simp
     split
     . exact C0 a begun fuel _ _ _
     . simp
   . rw[ZI,Nat.pow_succ,Nat.mul_comm]
     have:=a.aV;exact Nat.mul_le_mul_left _ (by omega)
theorem vu{f}(a:f.Good)  begun :(aG f begun).length<=46656:=by refine YO (C0 a begun _ _ _ _) ?_;exact Nat.pow_le_pow_right (by omega) a.qo
theorem my  f   begun :∀  fuel   cT   many   a ,begun.length<=cT.length->fD f begun fuel cT many a=fD f [] fuel cT many a
 |0,_,_,_,_=>rfl
 | fuel+1,cT,many,a,h=>by
   unfold fD;congr 1;funext k;have b:¬(cT.length<begun.length/\begun.getD cT.length 0≠(k:Int)):=by omega
   have c:¬(cT.length<([]:abe).length/\([]:abe).getD cT.length 0≠(k:Int)):=by simp
   rw[YA b,YA c];split
   . exact my f begun fuel _ _ _ (by simp;omega)
   . rfl
theorem E3{f}(b:f.Good)(e:2<=f.aA.length):aG f []=aG f [0,0]++aG f [0,1]:=by
 obtain⟨n,c⟩:∃n,f.aA.length=n+2:=⟨f.aA.length-2,by omega⟩;have g:=b.aV;have d:(min ((0:Int)+1) f.aV).toNat=1:=by omega
 unfold aG;rw[c];unfold fD;rw[d];simp only[YT,aaD,aai,aat,List.flatMap_nil,Zo];simp;by_cases a:jw f (bR 0 0)=true
 . simp only[a,YD]
   unfold fD;have e2:(min (max (0:Int) 1+1) f.aV).toNat=1\/(min (max (0:Int) 1+1) f.aV).toNat=2:=by omega
   rcases e2 with e2|e2
   . rw[e2]
     simp only[YT,aaD,aai,aat,List.flatMap_nil,Zo];simp;rw[my f [0,0] n [0,0] _ _ (by simp)]
   . rw[e2]
     simp only[YT,aaD,aai];simp;rw[my f [0,0] n [0,0] _ _ (by simp),my f [0,1] n [0,1] _ _ (by simp)]
 . simp[a]
theorem L2{f}(a:f.Good)(d:f.aA.length<2):aG f []≠[]:=by
 have e:=a.aV;have b:(min ((0:Int)+1) f.aV).toNat=1:=by omega
 have c:jw f (bR 0 0)=true:=by
  have:az (bR 0 0)=[0]:=by decide +kernel
  unfold jw;rw[this,KD];exact Qp a 0
 rcases(show f.aA.length=0\/f.aA.length=1 by omega)with hn|hn
 . unfold aG;rw[hn];simp[fD]
 . unfold aG;rw[hn]
   unfold fD;rw[b];simp only[YT,aaD,aai,aat,List.flatMap_nil,Zo];simp[c,fD]
theorem E4{f}(a:f.Good)(b:2<=f.aA.length):gL f=((aG f []).length:Int):=by
 unfold gL;rw[YA (by omega),E3 a b,YL];omega
theorem zB{f}(a:f.Good):0<gL f↔aG f []≠[]:=by
 by_cases b:2<=f.aA.length
 . rw[E4 a b]
   cases aG f []<;>simp
 . have:=L2 a (by omega)
   have e:gL f=1:=by unfold gL;omega
   simp_all
theorem xu{β:Type}{G:Nat->List β}{c}:∀d ,(∀j,c<=j->j<c+d->G j=[])->(List.range (c+d)).flatMap G=(List.range c).flatMap G
 |0,_=>rfl
 | d+1,h=>by
   rw[<-Nat.add_assoc,YT,aaj,xu d λj a b=>h j a (by omega)]
   simp_all
theorem zC{α β:Type}{f g:α->List β}{l:List α}(h:∀x∈l,f x=g x):l.flatMap f=l.flatMap g:=by rw[List.flatMap_def,List.flatMap_def,ZS h]
def bj(w:abe)(k:Int):abe:=(w.zipIdx.filter λp=>decide (p.1=k)).map λp=>(p.2:Int)
def Gl(l:abe):aaK:=(List.range (bz l+1).toNat).map λk:Nat=>l++[(k:Int)]
def jC:Nat->aaK
 |0=>[[]]
 |i+1=>(jC i).flatMap Gl
def xv:Nat->abe->aaK
 |0,l=>[l]
 |n+1,l=>(List.range (bz l+1).toNat).flatMap λk:Nat=>xv n (l++[(k:Int)])
def qG(f:Fr)(l:abe):Bool:=decide (bz l<=f.aV) && (List.range (bz l).toNat).all λk:Nat=>decide (jU f (bj l k)=0)
theorem eh  w   x k :bj (w++[x]) k=bj w k++if x=k then[(w.length:Int)]else[]:=by
 unfold bj
 grind
theorem C1  w t   k :(bj w k).Sublist (bj (w++t) k):=by
 unfold bj
 grind
theorem cU{w k n}(h:n∈bj w k):0<=n/\n<w.length/\w.getD n.toNat 0=k:=by
 unfold bj at h
 grind
theorem cy  w   x :bz (w++[x])=max (bz w) (x+1):=by
 unfold bz
 simp_all
theorem qH(t:abe):∀n ,n<=t.foldl (λn k=>max n (k+1)) n:=by
 induction t with
 |nil=>simp_all
 |cons a t b=>grind
theorem jj  w t :bz w<=bz (w++t):=by unfold bz;rw[Zq];exact qH t _
theorem px  w :0<=bz w:=qH w 0
theorem xw:∀  n   w l ,l∈xv n w->∃t,l=w++t/\t.length=n
 |0,w,l,h=>by simp[xv]at h;simp_all
 | n+1,w,l,h=>by
   unfold xv at h;obtain⟨k,_,a⟩:=aae.1 h;obtain⟨t,b,c⟩:=xw n _ l a
   simp_all
theorem zE:∀n m ,(jC m).flatMap (xv n)=jC (m+n)
 | 0,m=>by
   have:xv 0=λl=>[l]:=by funext l;rfl
   simp_all
 | n+1,m=>by
   have e:∀l,xv (n+1) l=(Gl l).flatMap (xv n):=λl=>by unfold Gl;rw[List.flatMap_map];rfl
   rw[show m+(n+1)=m+1+n by omega,<-zE n (m+1),jC,List.flatMap_assoc]
   exact zC λl _=>e l
theorem L3:∀x:Fin 64,∀n:Fin 6,(∀e∈az (x.val:Int),e<(n.val:Int))->az (bR (x.val:Int) (n.val:Int))=az (x.val:Int)++[(n.val:Int)]:=by decide +kernel
theorem zF{x}{n:Nat}(b:0<=x/\x<64)(a:n<6)(h:∀e∈az x,e<n):az (bR x n)=az x++[(n:Int)]:=by
 have c:(x.toNat:Int)=x:=by omega
 have:=L3 ⟨x.toNat,by omega⟩ ⟨n,a⟩
 simp_all
theorem L4{f}(b:f.Good){w t}{k:Nat}(hlen:(w++t).length=f.aA.length)(e:(k:Int)<bz w)(a:bj w k≠[])(h:qG f (w++t)=true):jU f (bj w k)=0:=by
 unfold qG at h;rw[za,YE]at h;have g:=jj w t;have c:=h.2 k (YB.2 (by omega));refine Of b (C1 w t k) a (λn d=>?_) (ZO c);have:=cU d;omega
theorem xx{f}(p:f.Good):∀  fuel   cT b ,cT.length+fuel=f.aA.length->Hs f cT.length b->(∀k ,k<6->az (b.getD k 0)=bj cT k)->bz cT<=f.aV->(∀k:Nat,(k:Int)<bz cT->jU f (bj cT k)=0) ->
 fD f [] fuel cT (bz cT) b=(xv fuel cT).filter (qG f)
 | 0,cT,b,_,_,_,v,w=>by
   have:qG f cT=true:=by
    unfold qG
    grind
   simp[fD,xv,this]
 | fuel+1,cT,b,B,q,hb,v,w=>by
   have r:=p.aV;have C:=p.qo;have x:=px cT;rw[q8];unfold xv;rw[List.filter_flatMap];obtain⟨d,hd⟩:∃d,(bz cT+1).toNat=(min (bz cT+1) f.aV).toNat+d:=⟨(bz cT+1).toNat-(min (bz cT+1) f.aV).toNat,by omega⟩
   rw[hd,xu d λj D E=>?_]
   . refine zC λk u=>?_
     have u:=YB.1 u;have h:k<6:=by omega
     have c:k<b.length:=by rw[q.qo];exact h
     have i:b.getD k 0=b[k]:=by simp_all
     have m:cT.length<6:=by omega
     have n:az (bR b[k] cT.length)=bj (cT++[(k:Int)]) k:=by rw[zF (q.small _ (zD c)) m (q.bits _ (zD c)),<-i,hb k h,eh,YG rfl]
     unfold oy;rw[YA (by simp),i]
     by_cases o:jw f (bR b[k] cT.length)=true
     . rw [YG o,<-cy]
       unfold jw at o;rw[KD,n]at o;have y:=q.set m c;refine xx p fuel _ _ (by simp;omega) (by simp_all) (λj s=>?_) (by rw[cy];omega) λj s=>?_
       . by_cases e:j=k
         . simp_all
         . rw[zA,Zv (zj e),<-List.getD_eq_getElem?_getD,hb j s,eh,YA (by omega),Zo]
       . by_cases e:j=k
         . simp_all
         . rw[cy]at s
           rw[eh,YA (by omega),Zo]
           grind
     . rw[YA o]
       symm;rw[aaB];intro l g a;obtain⟨t,rfl,z⟩:=xw _ _ _ g;refine o ?_;unfold jw;rw[KD,n];refine L4 p (by simp;omega) (by rw[cy];omega) ?_ a
       rw[eh,YG rfl];simp
   . rw[aaB]
     intro l g a;obtain⟨t,rfl,z⟩:=xw _ _ _ g;unfold qG at a;rw[za,KD]at a;have A:=jj (cT++[(j:Int)]) t;rw[cy]at A;omega
theorem rb{f}(d:f.Good):(jC f.aA.length).filter (qG f)=aG f []:=by
 have n:=d.aV;have i:bz []=0:=rfl;have j:az 0=[]:=by decide +kernel
 have l:∀x∈([0,0,0,0,0,0]:abe),x=0:=λx g=>by simp_all
 have m:Hs f ([]:abe).length [0,0,0,0,0,0]:=⟨rfl,λx g e o=>by simp_all,λx g=>by simp_all⟩
 have c:∀k:Nat,k<6->az (([0,0,0,0,0,0]:abe).getD k 0)=bj [] k:=λk h=>by
  have:([0,0,0,0,0,0]:abe).getD k 0=0:=by
   match k,h with
   |0,_=>rfl
   |1,_=>rfl
   |2,_=>rfl
   |3,_=>rfl
   |4,_=>rfl
   |5,_=>rfl
  rw[this,j];rfl
 have a:=xx d f.aA.length [] [0,0,0,0,0,0] (by simp) m c (by omega) (λk h=>by omega);rw[i]at a;have b:=zE f.aA.length 0;rw[ZP]at b;unfold aG;rw[a,<-b];simp[jC]
theorem qf:∀  i ,∀l∈jC i,l.length=i/\(∀x∈l,0<=x/\x<i)/\bz l<=i
 |0,l,h=>by simp[jC]at h;subst h;exact⟨rfl,by simp,by decide⟩
 | i+1,l,h=>by
   unfold jC at h;obtain⟨p,c,a⟩:=aae.1 h;obtain⟨d,e,f⟩:=qf i p c;unfold Gl at a;obtain⟨k,b,rfl⟩:=YN.1 a;have b:=YB.1 b;have:=px p;refine⟨by simp[d],λx g=>?_,by rw[cy];omega⟩
   grind
end
section
open Go.cr Go.Conc
variable{m:Mo}{σ:ab}{KF:aaQ}
def toldOf(n all:Int):Int:=if n=0 then 2 else if n=all then 1 else 3
theorem ob{n all}(a:0<=n)(b:n<=all)(c:0<all):fJ n all=toldOf n all:=by unfold fJ toldOf;omega
end
section
open Go.cr Go.Conc
theorem C2{k}:∀(l r:abe),(∀z∈r,∀x∈l,k z<=k x)->l.Pairwise (λa b=>k a<=k b)->l.foldl (λr x=>dZ (CX k) x r) r=l.reverse++r
 |[],r,_,_=>rfl
 | a::l,r,d,e=>by
   obtain⟨g,f⟩:=Zd.1 e;rw[Zr,CY a (λz c=>d z c a (by simp)),C2 l (a::r) (λz c x h=>?_) f,List.reverse_cons,ZA]
   . rfl
   grind
theorem C3{f l}(h:l.Pairwise λa b=>(aK f a).hour<=(aK f b).hour):aY f l=l:=by
 rw[mr];unfold ez;rw[C2 l [] (by simp) h];simp
theorem py  k :∀(w:abe)  n ,(((w.zipIdx n).filter λp=>decide (p.1=k)).map λp=>(p.2:Int)).Pairwise (·<·)/\∀x∈(((w.zipIdx n).filter λp=>decide (p.1=k)).map λp=>(p.2:Int)),(n:Int)<=x
 |[],n=>by simp
 | a ::w,n=>by
   have b:=py k w (n+1);rw[List.zipIdx_cons,List.filter_cons];split
   . rw[aaw]
     refine⟨Zd.2 ⟨λx c=>?_,b.1⟩,λx c=>?_⟩
     . grind
     grind
   grind
theorem fj{w k}{i:Nat}(hi:i<w.length)(h:w.getD i 0=k):(i:Int)∈bj w k:=by
 unfold bj;refine YN.2 ⟨(w[i],i),Zj.2 ⟨?_,?_⟩,rfl⟩
 . grind
 simp_all
def tN:abe->abe->abe->abe × List Int
 |[],w,s=>(w,s)
 |h::l,w,s=>if h∈s then tN l (w++[(s.idxOf h:Int)]) s else tN l (w++[(s.length:Int)]) (s++[h])
structure Canon(p w s:abe):Prop where
 len:w.length=p.length
 many:bz w=s.length
 nd:s.Nodup
 sub:∀x∈s,x∈p
 xy:∀k ,(hk:k<s.length)->bj w k=bj p s[k]
 part:w∈jC p.length
theorem Canon.all{p w s}(h:Canon p w s):∀x∈p,x∈s:=λx c=>by
 obtain⟨i,d,rfl⟩:=Za.1 c;have f:=(qf _ _ h.part).2.1;have a:i<w.length:=by rw[h.len];exact d
 have g:w[i]<bz w:=by
  have e:w=w.take i++(w[i]::w.drop (i+1)):=by simp_all
  have:bz (w.take i++[w[i]])<=bz w:=by
   have:=jj (w.take i++[w[i]]) (w.drop (i+1))
   grind
  rw[cy]at this;omega
 have k:=f _ (zD a);rw[h.many]at g;have j:w[i].toNat<s.length:=by omega
 have b:(i:Int)∈bj w (w[i].toNat:Int):=fj a (by grind);rw[h.xy _ j]at b;have:=(cU b).2.2
 simp_all
theorem sL{s:abe}{h}(a:h∈s):∃b ,s[s.idxOf h]=h:=⟨List.idxOf_lt_length_iff.2 a,List.getElem_idxOf (List.idxOf_lt_length_iff.2 a)⟩
theorem xz{s:abe}(a:s.Nodup){i j hi}{hj:j<s.length}(e:s[i]=s[j]):i=j:=by
 rw[List.Nodup,List.pairwise_iff_getElem]at a
 grind
theorem tO:∀  l p w s ,Canon p w s->Canon (p++l) (tN l w s).1 (tN l w s).2
 |[],p,w,s,h=>by simpa[tN]using h
 | a :: l, p,w,s,h=>by
   have hlen:=h.len;rw[show p++a::l=(p++[a])++l by simp];unfold tN;split
   . next f=>
     obtain⟨i,t⟩:=sL f;refine tO l _ _ _ ⟨by simp[hlen],?_,h.nd,λx hx=>by simp[h.sub x hx],λk c=>?_,?_⟩
     . rw[cy,h.many];omega
     . rw[eh,eh,h.xy k c,hlen]
       by_cases e:k=s.idxOf a
       . simp_all
       . rw[YA (by omega),YA (λj=>e (xz h.nd (hi:=c) (hj:=i) (by omega)))]
     . rw[YL,Zy,jC,aae]
       exact⟨w,h.part,YN.2 ⟨_,YB.2 (by rw[h.many];omega),rfl⟩⟩
   . next f=>
     refine tO l _ _ _ ⟨by simp[hlen],?_,?_,λx hx=>?_,λk c=>?_,?_⟩
     . rw[cy,h.many,YL];simp;omega
     . rw[aau]
       exact⟨h.nd,by simp,λx hx y u=>by grind⟩
     . rcases YH.1 hx with hx|hx
       . simp[h.sub x hx]
       simp_all
     . rw [eh,eh,hlen]
       rw[YL,Zy]at c;by_cases e:k=s.length
       . subst e
         rw[YG rfl];have m:(s++[a])[s.length]=a:=by simp
         rw[m,YG rfl];congr 1
         have n:bj w (s.length:Int)=[]:=by
          rw[List.eq_nil_iff_forall_not_mem];intro x hx;obtain⟨o,q,g⟩:=cU hx;have b:x.toNat<w.length:=by omega
          rw[zA,zR b,Zt]at g;have e:w=w.take x.toNat++(w[x.toNat]::w.drop (x.toNat+1)):=by rw[<-List.drop_eq_getElem_cons b,List.take_append_drop]
          have:=jj (w.take x.toNat++[w[x.toNat]]) (w.drop (x.toNat+1));rw[ZA,aaF,<-e,cy,h.many]at this;omega
         have r:bj p a=[]:=by
          rw[List.eq_nil_iff_forall_not_mem];intro x hx;obtain⟨o,q,g⟩:=cU hx;have b:x.toNat<p.length:=by omega
          rw[zA,zR b,Zt]at g;exact f (g ▸ h.all _ (zD b))
         rw[n,r]
       . have d:k<s.length:=by omega
         rw[YA (by omega),List.getElem_append_left d,YA (λj=>f (by simp_all)),h.xy k d]
     . rw[YL,Zy,jC,aae]
       exact⟨w,h.part,YN.2 ⟨_,YB.2 (by rw[h.many];omega),rfl⟩⟩
theorem C4  p :∃w s,Canon p w s:=⟨_,_,by
 have:=tO p [] [] [] ⟨rfl,rfl,aar,by simp,λk a=>by simp at a,by simp[jC]⟩;simpa using this⟩
theorem tP:∀(m:Nat) (s:abe),s.Nodup->(∀x∈s,0<=x/\x<m)->s.length<=m
 | 0,s,_,h=>by
   cases s with
   |nil=>simp_all
   |cons a s=>have:=h a (by simp);omega
 | m+1,s,b,h=>by
   have c:=tP m (s.erase (m:Int)) (b.erase _) λx d=>by grind
   grind
abbrev rf:u6:=⟨0,0,0,[],0,0⟩
def L5(f:Fr)(a b:u6):Prop:=rd f.roads a.place.toNat b.place.toNat+f.cK*bL (aW a.marks) (aW b.marks)<=b.hour-a.hour
structure Seen(f0:Fr)(aV:Nat)(C H:abe)(ks:abe)(es last:List u6):Prop where
 len:ks.length=es.length
 Qq:∀x∈ks,0<=x/\x<aV
 sF:∀e∈es,cG f0.roads.length e=0
 cP:∀i,i<es.length->(es.getD i rf).cP=C.getD (ks.getD i 0).toNat 0
 Rv:∀i,i<es.length->H.getD (ks.getD i 0).toNat 0∈bS f0 (es.getD i rf)
 fit:∀i j,i<j->j<es.length->ks.getD i 0=ks.getD j 0->(∀m,i<m->m<j->ks.getD m 0≠ks.getD i 0)->L5 f0 (es.getD i rf) (es.getD j rf)
 Vo:∀i,i<es.length->(∀m,i<m->m<es.length->ks.getD m 0≠ks.getD i 0)->last.getD (ks.getD i 0).toNat rf=es.getD i rf
 Gm:∀k,k<aV->(last.getD k rf).cP=C.getD k 0
 Qr:last.length=aV
theorem Rw{α:Type}  l  (x d:α)  i :(l++[x]).getD i d=if i<l.length then l.getD i d else if i=l.length then x else d:=by grind
theorem Seen.push{f0 aV C H ks es last}(h:Seen f0 aV C H ks es last){k n}(v:k<aV)(A:cG f0.roads.length n=0)(s:n.cP=(last.getD k rf).cP)(B:H.getD k 0∈bS f0 n)(D:(k:Int)∈ks->L5 f0 (last.getD k rf) n):
 Seen f0 aV C H (ks++[(k:Int)]) (es++[n]) (last.set k n):=by
 have hlen:=h.len;have w:=h.Qr;have d:∀i,i<es.length->(es++[n]).getD i rf=es.getD i rf:=λi a=>by grind
 have y:(es++[n]).getD es.length rf=n:=by simp_all
 have c:∀i,i<es.length->(ks++[(k:Int)]).getD i 0=ks.getD i 0:=λi a=>by grind
 have l:(ks++[(k:Int)]).getD es.length 0=(k:Int):=by simp_all
 have o:∀i,i<es.length->0<=ks.getD i 0/\ks.getD i 0<aV:=λi a=>by
  have f:i<ks.length:=by omega
  rw[zA,zR f];exact h.Qq _ (zD f)
 refine⟨by simp[hlen],λx hx=>?_,λe he=>?_,λi a=>?_,λi a=>?_,λi j p g he q=>?_,λi a q=>?_,λj g=>?_,by simp_all⟩
 . rcases YH.1 hx with hx|hx
   . exact h.Qq x hx
   simp_all
 . rcases YH.1 he with he|he
   . exact h.sF e he
   simp_all
 . rw[YL,Zy]at a
   by_cases e:i=es.length
   . subst e;rw[y,l,s,aaa];exact h.Gm k v
   . rw[d i (by omega),c i (by omega)];exact h.cP i (by omega)
 . rw[YL,Zy]at a
   by_cases e:i=es.length
   . simp_all
   . rw[d i (by omega),c i (by omega)];exact h.Rv i (by omega)
 . rw [YL,Zy]at g
   have a:i<es.length:=by omega
   by_cases e:j=es.length
   . subst e
     rw[c i a,l]at he;have z:=h.Vo i a λm t u=>by simp_all
     rw[he,aaa]at z
     grind
   . rw[c i a,c j (by omega)]at he
     rw[d i a,d j (by omega)];refine h.fit i j p (by omega) he λm t u=>?_
     grind
 . rw[YL,Zy]at a q
   by_cases e:i=es.length
   . simp_all
   . have b:i<es.length:=by omega
     have r:=q es.length b (by omega);rw[l,c i b]at r;have E:=o i b;rw[d i b,c i b,zA,Zv (by omega),<-List.getD_eq_getElem?_getD];refine h.Vo i b λm t u=>?_
     grind
 . by_cases e:j=k
   . subst e
     rw[zA,Zx (by omega),Zt,s];exact h.Gm j g
   . rw[zA,Zv (zj e),<-List.getD_eq_getElem?_getD]
     exact h.Gm j g
section
variable{f:Fr}{aV:Nat}{C H ks:abe}{last:List u6}
theorem TN(a:f.Good){i j}(hi:i<f.roads.length)(hj:j<f.roads.length):0<=rd f.roads i j:=by
 obtain⟨c,d⟩:=a.row hi;have b:j<f.roads[i].length:=by omega
 unfold rd
 simp_all
theorem L6(c:f.Good){a b:Int}(d:0<=a/\a<f.aA.length)(hb:0<=b/\b<f.aA.length)(h:Fit f a b):(aK f a).hour<=(aK f b).hour:=by
 have e:=ov (c.sF _ (gk d));have g:=ov (c.sF _ (gk hb));have hd:=c.cK;have l:=TN c (i:=(aK f a).place.toNat) (j:=(aK f b).place.toNat) (by omega) (by omega);have k:=(Gf (jT (qa e.2.2.2.2.2)) (jT (qa g.2.2.2.2.2))).2.1;have m:=Int.mul_nonneg (show 0<=f.cK by omega) k;unfold Fit gi at h
 grind
theorem Seen.pair(h:Seen f aV C H ks f.aA last)(b:f.Good):∀  d i j ,j-i<=d->i<j->j<f.aA.length->ks.getD i 0=ks.getD j 0->Fit f i j
 |0,i,j,hd,a,_,_=>by omega
 | d + 1,i,j,hd,a,k,l=>by
   by_cases q:∃m,i<m/\m<j/\ks.getD m 0=ks.getD i 0
   . obtain⟨m,c,e,g⟩:=q
     have n:=h.pair b d i m (by omega) c (by omega) g.symm;have o:=h.pair b d m j (by omega) e k (by omega);exact zz b (by omega) (by omega) (by omega) n o
   . have:=h.fit i j a k l λm c e g=>q ⟨m,c,e,g⟩
     unfold L5 at this;unfold Fit gi;rw[show aK f (i:Int)=f.aA.getD i rf from rfl,show aK f (j:Int)=f.aA.getD j rf from rfl]
     simp_all
theorem Seen.one(h:Seen f aV C H ks f.aA last)(m:f.Good){k}(l:bj ks k≠[]):jU f (bj ks k)=0:=by
 have c:∀n∈bj ks k,0<=n/\n<f.aA.length/\ks.getD n.toNat 0=k:=λn e=>by have:=cU e;rw[h.len]at this;exact this
 have d:(bj ks k).Pairwise (Fit f):=by
  refine((py k ks 0).1).imp_of_mem λ{a b} i hb g=>?_
  have j:=c a i;have p:=c b hb;have:=h.pair m (b.toNat-a.toNat) a.toNat b.toNat (YF _) (by omega) (by omega) (by omega)
  grind
 have o:aY f (bj ks k)=bj ks k:=C3 (d.imp_of_mem λ{a b} i hb g=>L6 m ⟨(c a i).1,(c a i).2.1⟩ ⟨(c b hb).1,(c b hb).2.1⟩ g);refine pw.2 ?_;rw[o];refine⟨?_,?_,qd d⟩
 . have q:∀n∈bj ks k,(aK f n).cP=C.getD k.toNat 0:=λn e=>by
    have j:=c n e;have:=h.cP n.toNat (by omega);rw[j.2.2]at this;exact this
   unfold dN
   grind
 . unfold cQ
   simp only[Zk]
   have:H.getD k.toNat 0∈fI f (bj ks k):=(qe l).2 λn e=>by
    have j:=c n e;have:=h.Rv n.toNat (by omega);rw[j.2.2]at this;exact this
   grind
theorem Seen.cT(h:Seen f aV C H ks f.aA last)(c:f.Good)(l:(aV:Int)<=f.aV):∃w s,Canon ks w s/\w∈aG f []:=by
 obtain⟨w,s,a⟩:=C4 ks;refine⟨w,s,a,?_⟩;rw[<-rb c,Zj,<-h.len];refine⟨a.part,?_⟩;unfold qG;rw[za,YE,a.many];have m:=tP aV s a.nd λx g=>h.Qq x (a.sub x g)
 refine⟨decide_eq_true (by omega),λk d=>?_⟩;have d:=YB.1 d;have b:k<s.length:=by omega
 rw[KD,a.xy k b];refine h.one c ?_;obtain⟨i,j,e⟩:=Za.1 (a.sub _ (zD b));exact ZV (fj j (by simp_all))
end
theorem E5{n all}(h:0<all):toldOf n all=2↔n=0:=by unfold toldOf;omega
theorem Ir{n all}(h:0<all):toldOf n all=1↔n=all:=by unfold toldOf;omega
theorem C5{α:Type}  p :∀l:List α,(l.filter p).length=l.length↔∀x∈l,p x=true
 |[]=>by simp
 | a::l=>by
   have b:=C5 p l
   grind
theorem Is{α:Type}  p  (l:List α):(l.filter p).length=0↔∀x∈l,p x=false:=by simp_all
section
variable{L:aaK}{n:Nat}
def tQ(L:aaK)(x y:Nat):Int:=fJ ((L.filter (fE x y)).length:Int) L.length
theorem xA(a:0<L.length){x y}:tQ L x y=2↔∀w∈L,fE x y w=false:=by
 have:=Zf (fE (x:Int) y) L;unfold tQ;rw[ob (by omega) (by omega) (by omega),E5 (by omega),<-Is];omega
theorem tR(a:0<L.length){x y}:tQ L x y=1↔∀w∈L,fE x y w=true:=by
 have:=Zf (fE (x:Int) y) L;unfold tQ;rw[ob (by omega) (by omega) (by omega),Ir (by omega),<-C5];omega
end
theorem Fr.Good.Dv{f}(h:f.Good):check f=0:=by
 have c:=h.fr;have d:=h.to;have e:=h.le;have g:=h.cK;have i:=h.aV;have j:=h.qo;have a:(bE f.aS 0 3 && bE f.ew 0 3)=true:=by simp[bE];omega
 have b:(bE f.cK 1 6 && bE f.aV 1 6)=true:=by simp[bE];omega
 unfold Go.Proofs.YtabmephejpgigaaGreatDoor.check;rw[YA (by simp[h.IK]),a,YA (by simp),YA (by omega),b,YA (by simp),YA (by omega)]
 exact nZ h.sF
section
variable{L:aaK}{n:Nat}
theorem xB{p w s}(h:Canon p w s){i j}(hi:i<p.length)(hj:j<p.length)(e:p.getD i 0=p.getD j 0):fE i j w=true:=by
 have d:i<w.length:=by rw[h.len];exact hi
 have f:j<w.length:=by rw[h.len];exact hj
 have g:p.getD i 0=p[i]:=by simp_all
 have k:p.getD i 0∈s:=h.all _ (by simp_all)
 obtain⟨l,m⟩:=sL k;have a:=h.xy _ l;rw[m]at a;have n:(i:Int)∈bj w ((s.idxOf (p.getD i 0):Nat):Int):=by rw[a];exact fj hi rfl
 have o:(j:Int)∈bj w ((s.idxOf (p.getD i 0):Nat):Int):=by rw[a];exact fj hj e.symm
 have b:=(cU n).2.2;have c:=(cU o).2.2;rw[aaa]at b c;simp only[fE,KD,aaa,b,c]
end
theorem zI  lt   x :∀r ,(dZ lt x r).Perm (x::r)
 |[]=>List.Perm.refl _
 | y::r=>by
   unfold dZ;split
   . exact((zI lt x r).cons y).trans (List.Perm.swap x y r)
   simp_all
theorem E6  lt   l :(ez lt l).Perm l:=by
 have key:∀(l r:abe),(l.foldl (λr x=>dZ lt x r) r).Perm (l++r):=by
  intro l;induction l with
  |nil=>simp_all
  | cons a l b=>
    intro r;rw[Zr];refine(b _).trans (((zI lt a r).append_left l).trans ?_)
    simp_all
 simpa[ez]using key l []
theorem yw  f   l :(aY f l).Perm l:=(List.reverse_perm _).trans (E6 _ _)
theorem C6  f   l :(aY f l).Pairwise λa b=>(aK f a).hour<=(aK f b).hour:=by
 rw[mr,List.pairwise_reverse]
 have key:∀(l r:abe),Dn (λn=>(aK f n).hour) r->Dn (λn=>(aK f n).hour) (l.foldl (λr x=>dZ (CX λn=>(aK f n).hour) x r) r):=by
  intro l;induction l with
  |nil=>simp_all
  |cons a l c=>intro r h;exact c _ (vt a h)
 exact key l [] List.Pairwise.nil
theorem uJ{R}:∀{l:abe},l.Pairwise R->∀a∈l,∀b∈l,a≠b->R a b\/R b a
 |[],_,a,d,_,_,_=>by cases d
 | c ::l,h,a,d,b,hb,e=>by
   obtain⟨j,i⟩:=Zd.1 h;rcases YQ.1 d with rfl|f
   . grind
   . rcases YQ.1 hb with rfl|g
     . simp_all
     . exact uJ i a f b g e
theorem Og:∀a:Fin 32,∀b:Fin 32,bL (a.val:Int) (b.val:Int)=bL (b.val:Int) (a.val:Int):=by decide +kernel
theorem Fr.Good.symm{f:Fr}(a:f.Good){i j}(hi:i<f.roads.length)(hj:j<f.roads.length):rd f.roads i j=rd f.roads j i:=by
 have h:=a.IK;unfold fC at h;split at h
 . cases h
 split at h
 . cases h
 split at h
 . omega
 split at h
 . cases h
 next q=>
 simp only[Zc,YB,not_exists,not_and]at q;have b:=q i hi j hj;unfold dG at b
 simp_all
theorem Oh:∀a:Fin 32,bL (a.val:Int) (a.val:Int)=0:=by decide +kernel
theorem L7{f}(a:f.Good){x}(b:0<=x/\x<f.aA.length):gi f x x=false:=by
 have e:=ov (a.sF _ (gk b));obtain⟨A,c⟩:=kU e.2.2.2.2.2;have p:=e.2.1
 have d:rd f.roads (aK f x).place.toNat (aK f x).place.toNat=0:=by
  have h:=a.IK;unfold fC at h;split at h
  . cases h
  split at h
  . cases h
  split at h
  . omega
  split at h
  . cases h
  next q=>
  simp only[Zc,YB,not_exists,not_and]at q;have g:=q (aK f x).place.toNat (by omega) (aK f x).place.toNat (by omega);unfold dG at g
  simp_all
 unfold gi;rw[c,Oh,d];simp
theorem L8{f}(c:f.Good){a b}(g:0<=a/\a<f.aA.length)(hb:0<=b/\b<f.aA.length)(k:(aK f a).hour<=(aK f b).hour)(h:Fit f b a):Fit f a b:=by
 have d:=ov (c.sF _ (gk g));have e:=ov (c.sF _ (gk hb));have hd:=c.cK;obtain⟨A,l⟩:=kU d.2.2.2.2.2;obtain⟨B,m⟩:=kU e.2.2.2.2.2;have n:=d.2.1;have o:=e.2.1;have p:=Og A B;have q:=c.symm (i:=(aK f a).place.toNat) (j:=(aK f b).place.toNat) (by omega) (by omega);unfold Fit gi at h ⊢
 grind
structure Qs  f  (l:abe):Prop where
 cP:∀a∈l,∀b∈l,(aK f a).cP=(aK f b).cP
 Rv:∃h,∀j∈l,h∈bS f (aK f j)
 fit:∀a∈l,∀b∈l,a≠b->Fit f a b\/Fit f b a
theorem Gn{f}(u:f.Good){l}(y:l≠[])(o:l.Nodup)(p:∀n∈l,0<=n/\n<f.aA.length):jU f l=0↔Qs f l:=by
 have v:=yw f l;have c:∀n,n∈aY f l↔n∈l:=λn=>v.mem_iff
 have r:=C6 f l;have m:(aY f l).Nodup:=v.nodup_iff.2 o;have g:aY f l≠[]:=λe=>by simp_all
 rw[pw];generalize aY f l=S at *;have z:S.getD 0 0∈S:=by grind
 constructor
 . rintro⟨w,s,A⟩
   unfold dN at w;rw[ZM]at w;have B:∀x∈S,(aK f x).cP=(aK f (S.getD 0 0)).cP:=λx k=>by simp_all
   refine⟨λa i b hb=>by simp_all,?_,λa i b hb d=>uJ (tL u (λn C=>p n ((c n).1 C)) A) a ((c a).2 i) b ((c b).2 hb) d⟩;unfold cQ at s;simp only[Zk]at s;obtain⟨x,k⟩:=ZQ _ s;exact⟨x,λj t=>(qe g).1 k j ((c j).2 t)⟩
 . intro h
   refine⟨?_,?_,qd ?_⟩
   . unfold dN
     rw[ZM];intro x k;rw[h.cP x ((c x).1 k) _ ((c _).1 z)];simp
   . unfold cQ
     simp only[Zk];obtain⟨x,k⟩:=h.Rv;have:x∈fI f S:=(qe g).2 λj t=>k j ((c j).1 t)
     grind
   . refine(r.and m).imp_of_mem λ{a b} i hb d=>?_
     have i:=(c a).1 i;have hb:=(c b).1 hb;rcases h.fit a i b hb d.2 with q|q
     . exact q
     . exact L8 u (p a i) (p b hb) d.1 q
theorem qI  w   k :(bj w k).Nodup:=(py k w 0).1.imp λh=>by omega
theorem It  L   x y  (a:0<L.length):tQ L x y=1\/tQ L x y=2\/tQ L x y=3:=by
 have:=Zf (fE (x:Int) y) L;unfold tQ;rw[ob (by omega) (by omega) (by omega)];unfold toldOf;omega
theorem rk{w x}(h:x∈w):x<bz w:=by obtain⟨a,b,rfl⟩:=List.append_of_mem h;have:=jj (a++[x]) b;rw[ZA,aaF,cy]at this;omega
section
variable{f x:Fr}{π ρ:abg}
theorem xC{p w s}(h:Canon p w s){i j}(hi:i<p.length)(hj:j<p.length)(e:fE i j w=true):p.getD i 0=p.getD j 0:=by
 have a:i<w.length:=by rw[h.len];exact hi
 have b:j<w.length:=by rw[h.len];exact hj
 simp only[fE,KD,aaa]at e;have f:w.getD i 0=w[i]:=by simp_all
 have m:=((qf _ _ h.part).2.1 _ (zD a)).1;have g:=rk (zD a);rw[h.many]at g;have k:w[i].toNat<s.length:=by omega
 have l:=h.xy _ k;have c:(i:Int)∈bj w ((w[i].toNat:Nat):Int):=fj a (by omega)
 have d:(j:Int)∈bj w ((w[i].toNat:Nat):Int):=fj b (by omega)
 rw[l]at c d;have n:=(cU c).2.2;have o:=(cU d).2.2
 simp_all
end
theorem gn{l:abe}{i}(h:i<l.length):l.getD i 0∈l:=by simp_all
theorem Oi{l:abe}{x}(h:x∈l):∃i,i<l.length/\l.getD i 0=x:=by obtain⟨i,a,e⟩:=Za.1 h;exact⟨i,a,by simp_all⟩
structure od(f x:Fr)(L:abe):Prop where
 roads:x.roads=f.roads
 fr:x.aS=f.aS
 to:x.ew=f.ew
 cK:x.cK=f.cK
 aV:f.aV<=x.aV
 Qq:∀i∈L,0<=i/\i<f.aA.length
 sF:x.aA=L.map (aK f)
section
variable{f x:Fr}{L:abe}
theorem od.len(h:od f x L):x.aA.length=L.length:=by rw[h.sF,YV]
theorem od.at(h:od f x L){j:Int}(b:0<=j/\j<L.length):aK x j=aK f (L.getD j.toNat 0):=by
 have a:j.toNat<L.length:=by omega
 unfold aK;rw[h.sF,zA,YY,zR a,zA (l:=L),zR a];rfl
theorem od.bS(h:od f x L)(e:u6):bS x e=bS f e:=by unfold Go.Proofs.YtabmephejpgigaaGreatDoor.bS iM;rw[h.fr,h.to]
theorem od.one(h:od f x L)(n:x.Good){l i:abe}(e:∀j∈i,(0<=j/\j<L.length)/\L.getD j.toNat 0∈l)(k:Qs f l):Qs x i:=by
 have c:∀j∈i,aK x j=aK f (L.getD j.toNat 0):=λj m=>h.at (e j m).1
 refine⟨λa d b hb=>?_,?_,λa d b hb o=>?_⟩
 . rw[c a d,c b hb];exact k.cP _ (e a d).2 _ (e b hb).2
 . obtain⟨z,q⟩:=k.Rv
   exact⟨z,λj m=>by rw[h.bS,c j m];simp_all⟩
 . by_cases g:L.getD a.toNat 0=L.getD b.toNat 0
   . have r:=L7 n (x:=b) (by rw[h.len];simp_all)
     have p:=c a d;rw[g,<-c b hb]at p;refine .inl ?_;unfold Fit gi at *
     simp_all
   have:=k.fit _ (e a d).2 _ (e b hb).2 g;unfold Fit gi at this ⊢;rw[c a d,c b hb,h.roads,h.cK];exact this
theorem od.cT(h:od f x L)(E:f.Good)(u:x.Good){w}(F:w∈aG f []):∃v∈aG x [],∀i j ,i<L.length->j<L.length->fE i j v=fE (L.getD i 0) (L.getD j 0) w:=by
 rw[<-rb E,Zj]at F;obtain⟨y,z⟩:=F;obtain⟨wl,G,_⟩:=qf _ _ y;obtain⟨p,R⟩:∃p,p=L.map λj=>w.getD j.toNat 0:=⟨_,rfl⟩
 have g:p.length=L.length:=by simp_all
 have o:∀j,j<L.length->0<=L.getD j 0/\(L.getD j 0).toNat<w.length:=λj l=>by have:=h.Qq _ (gn l);omega
 have m:∀j,j<L.length->p.getD j 0=w.getD (L.getD j 0).toNat 0:=λj l=>by simp_all
 have r:∀c∈p,∃j,j<L.length/\p.getD j 0=c/\c∈w:=λc d=>by
  obtain⟨j,l,H⟩:=Oi d
  grind
 obtain⟨v,s,d⟩:=C4 p;have A:=z;unfold qG at A;rw[za,YE,KD]at A;refine⟨v,?_,λi j n l=>?_⟩
 . rw[<-rb u,Zj,h.len,<-g]
   refine⟨d.part,?_⟩;unfold qG;rw[za,YE,d.many];have J:=px w
   have S:=tP (bz w).toNat s d.nd λc B=>by obtain⟨_,_,_,a⟩:=r c (d.sub c B);have:=G c a;have:=rk a;omega
   refine⟨decide_eq_true (by have:=h.aV;omega),λk T=>?_⟩
   have t:k<s.length:=by grind
   rw[KD,d.xy k t];obtain⟨j,l,e,a⟩:=r _ (d.sub _ (zD t));generalize s[k]=c at *;have K:=G c a;have M:=rk a;have b:=ZO (A.2 c.toNat (YB.2 (by omega)))
   rw[show(c.toNat:Int)=c by omega]at b
   have C:bj w c≠[]:=ZV (fj (i:=(L.getD j 0).toNat) (o j l).2 (by grind))
   have D:bj p c≠[]:=ZV (fj (i:=j) (by omega) e)
   rw[Gn E C (qI w c) λi n=>by have:=cU n;omega]at b
   rw[Gn u D (qI p c) λi n=>by have:=cU n;rw[g,<-h.len]at this;omega]
   refine h.one u (λi n=>?_) b
   obtain⟨N,I,O⟩:=cU n;rw[g]at I;have P:=o i.toNat (by omega)
   refine⟨⟨N,I⟩,?_⟩;have:=fj (w:=w) (k:=c) (i:=(L.getD i.toNat 0).toNat) P.2 (by rw[<-m _ (by omega)];exact O)
   rwa [show((L.getD i.toNat 0).toNat:Int)=L.getD i.toNat 0 by omega]at this
 . have Q:=m i n
   have H:=m j l;rw[aaC];constructor
   . intro q
     have:=xC d (by omega) (by omega) q
     rw[Q,H]at this;simp only[fE,KD];exact this
   . intro q
     simp only[fE,KD]at q;exact xB d (by omega) (by omega) (by omega)
end
end
section
open Go.cr Go.Conc
variable{m:Mo}{σ:ab}{KF:aaQ}
structure Way where
 a:Int
 b:Int
 ck:Int
 aS:Int
 ew:Int
 deriving DecidableEq
structure Oj where
 lost:u6
 town:Int
 hour:Int
 deriving DecidableEq
structure gO where
 fair:Fr
 bq:Int
 ways:List Way
 aF:List Oj
 deriving DecidableEq
abbrev lG(x:Way):AV:=.agg [int x.a,int x.b,int x.ck,int x.aS,int x.ew]
abbrev kj(c:Oj):AV:=.agg [int c.lost.hour,int c.lost.place,int c.lost.cP,ints c.lost.marks,int c.lost.bp,int c.lost.jr,int c.town,int c.hour]
abbrev xD(l:List Way):AV:=.sl 5 (l.map lG) .any
abbrev qJ(l:List Oj):AV:=.sl 8 (l.map kj) .any
abbrev Vp(w:gO):abj:=[iv w.fair.aA,rows w.fair.roads,int w.fair.aS,int w.fair.ew,int w.fair.cK,int w.fair.aV,int w.bq,xD w.ways,qJ w.aF]
abbrev ia(w:gO):AV:=.agg (Vp w)
abbrev Ok(b mb:Nat)(w:gO)(a c d:AV)(hole:abf)(o:Nat):AV:=.kp b [iv w.fair.aA,rows w.fair.roads,int w.fair.aS,int w.fair.ew,int w.fair.cK,int w.fair.aV,int w.bq,xD w.ways,qJ w.aF,.lit (.int .i32 0),.lit (.int .u32 0),a,c,d,.map mb] hole o
def xE(bq:Int)(x:Way):Prop:=(0<=x.a/\x.a<bq)/\(0<=x.b/\x.b<bq)/\(1<=x.ck/\x.ck<=12)/\(0<=x.aS/\x.aS<=72)/\0<=x.ew/\x.ew<=72
def pz(h:Int)(x:Way):Int:=if h<x.aS then x.aS else h
def L9(h a b:Int)(x:Way)(c:Int):Int:=if(x.a≠a\/x.b≠b)/\(x.a≠b\/x.b≠a)then c else if pz h x<=x.ew then(if pz h x+x.ck<c then pz h x+x.ck else c)else c
def m9(l:List Way)(h a b:Int):Int:=l.foldl (λc x=>L9 h a b x c) 1048576
theorem Qt{h a b c x}(d:1<=x.ck/\x.ck<=12)(e:0<=h)(hb:0<=c/\c<=1048576):0<=L9 h a b x c/\L9 h a b x c<=1048576:=by
 have:0<=pz h x:=by unfold pz;omega
 unfold L9;omega
theorem C7{l h a b}(e:∀x∈l,1<=x.ck/\x.ck<=12)(f:0<=h):0<=m9 l h a b/\m9 l h a b<=1048576:=by
 have key:∀(l:List Way) (c:Int),(∀x∈l,1<=x.ck/\x.ck<=12)->(0<=c/\c<=1048576)->0<=l.foldl (λc x=>L9 h a b x c) c/\l.foldl (λc x=>L9 h a b x c) c<=1048576:=λl=>by
  induction l with
  |nil=>simp_all
  |cons x l g=>exact λc d i=>g _ (λy j=>d y (by simp[j])) (Qt (d x (by simp)) f i)
 exact key l _ e ⟨by omega,by omega⟩
theorem eG{σ:ab}{d x}(h:σ d=none):(σ.set d x).del d=σ:=by
 funext c;by_cases e:c=d
 . subst e;simp[ab.del,h]
 . simp[ab.set,ab.del,e]
theorem Ma{fb mb w E F G hole h a b}(R:∀i∈hole,9<=i)(S:w.ways.length<1152921504606846976)(z:∀x∈w.ways,xE w.bq x)(H:0<=h/\h<=1048576)(I:KF (.val (int (m9 w.ways h a b))) σ):aB prog m 89 [Ok fb mb w E F G hole 0,int h,int a,int b] σ KF:=by
 have J:7∉hole:=λq=>by grind
 refine fs [] Tryz.func89 rfl (by kernel_rfl) ?_
 simp[Tryz.f89,J];apply rn;simp;refine aa.loop w.ways.length (λk s=>∃env,s=⟨env,σ,[],.no⟩/\env 1=int h/\env 2=int a/\env 3=int b/\env 9=int (m9 (w.ways.take k) h a b)/\env 17=xD w.ways/\env 18=int w.ways.length/\env 19=int k) ⟨_,rfl,by simp[m9]⟩ ?_
 rintro T k _ U ⟨env,rfl,o,r,t,u,c,f,g⟩ v
 refine aa.runN lay [] 17 ?_;simp[f,g];apply aI.intro<;>intro j<;>simp at j<;>simp[u,c,g,j]
 . refine cz.intro λd hd=>?_
   simp
   change aa _ _ _ _ _ _ _ _ _
   refine aa.bu 11 (b:=d) (lG w.ways[k]) (ab.aj _ _ _) (by simp) rfl ?_
   rw[eG hd];obtain⟨⟨V,W⟩,⟨X,Y⟩,⟨Z,x6⟩,⟨x7,x8⟩,x9,K⟩:=z _ (zD j);have L:=C7 (l:=w.ways.take k) (h:=h) (a:=a) (b:=b) (λx M=>(z x (List.mem_of_mem_take M)).2.2.1) H.1
   have y:m9 (w.ways.take (k+1)) h a b=L9 h a b w.ways[k] (m9 (w.ways.take k) h a b):=by unfold m9;rw[Yz j,Zq];rfl
   obtain⟨N,A⟩:∃p,(w.ways[k].a !=a)=p:=⟨_,rfl⟩;obtain⟨O,B⟩:∃p,(w.ways[k].b !=b)=p:=⟨_,rfl⟩;obtain⟨P,C⟩:∃p,(w.ways[k].a !=b)=p:=⟨_,rfl⟩;obtain⟨Q,D⟩:∃p,(w.ways[k].b !=a)=p:=⟨_,rfl⟩;cases N<;>cases O<;>cases P<;>cases Q
   all_goals
    apply rn;simp[o,r,t,g,A,B,C,D]
   all_goals simp at A B C D
   all_goals try refine⟨by omega,v _ j ⟨_,rfl,?_⟩⟩
   all_goals try
    simp[o,r,t,u,c,f];rw[y,L9,YG (by omega)]
   all_goals
    rw[show(if h<w.ways[k].aS then w.ways[k].aS else h)=pz h w.ways[k]from rfl]
    have f0:0<=pz h w.ways[k]/\pz h w.ways[k]<=1048576:=by unfold pz;split<;>omega
    refine aI.intro (λn=>?_) (λn=>?_)<;>(try simp[-Int.not_lt,-Int.not_le]at n)<;>(try simp[u,g,n])
    . have f1:-9223372036854775808<=pz h w.ways[k]+w.ways[k].ck/\pz h w.ways[k]+w.ways[k].ck<=9223372036854775807:=by omega
      simp[f1.1,f1.2];refine⟨by omega,v _ j ⟨_,rfl,?_⟩⟩
      simp[o,r,t,c,f];rw[y];exact (show L9 h a b w.ways[k] (m9 (w.ways.take k) h a b)=_ by rw[L9,YA (by omega),YG n]).symm
    . refine⟨by omega,v _ j ⟨_,rfl,?_⟩⟩
      simp[o,r,t,u,c,f];rw[y,L9,YA (by omega)]
      simp[n]
 . have e:k=w.ways.length:=by omega
   subst e;rw[YZ];exact .done I
def lH(l:List Way)(a b:Nat)(t:abe):abe:=if t.getD a 0<1048576 then t.set b (if m9 l (t.getD a 0) a b<t.getD b 0 then m9 l (t.getD a 0) a b else t.getD b 0)else t
def sM(l:List Way)(n a:Nat)(t:abe):abe:=(List.range n).foldl (λt b=>lH l a b t) t
def pass(l:List Way)(n:Nat)(t:abe):abe:=(List.range n).foldl (λt a=>sM l n a t) t
def gM(l:List Way)(n:Nat):Nat->abe->abe
 |0,t=>t
 |k+1,t=>if pass l n t=t then t else gM l n k (pass l n t)
def pD(t:abe):Nat:=(t.foldl (·+·) 0).toNat
def begun(town hour:Int):abe:=[1048576,1048576,1048576,1048576].set town.toNat hour
def qg(l:List Way)(n:Nat)(town hour:Int):abe:=gM l n (pD (begun town hour)+1) (begun town hour)
theorem lI{α:Type}(P:abe->Prop)  f  (a:∀t x,P t->P (f t x)):∀(l:List α)  t ,P t->P (l.foldl f t)
 |[],_,h=>h
 |x::l,t,h=>lI P f a l _ (a t x h)
def yb(t:abe):Prop:=t.length=4/\∀i,0<=t.getD i 0/\t.getD i 0<=1048576
theorem C8{t:abe}{b i v}:(t.set b v).getD i 0=if i=b/\b<t.length then v else t.getD i 0:=by grind
theorem yb.to{l}(c:∀x∈l,1<=x.ck/\x.ck<=12){a b t}(h:yb t):yb (lH l a b t):=by
 unfold lH;split
 . refine⟨by rw[ZT];exact h.1,λi=>?_⟩
   rw[C8];split
   . have:=C7 (h:=t.getD a 0) (a:=a) (b:=b) c (h.2 a).1
     split
     . exact this
     . exact h.2 b
   . exact h.2 i
 . exact h
theorem yb.from{l}(b:∀x∈l,1<=x.ck/\x.ck<=12){n a t}(h:yb t):yb (sM l n a t):=lI yb _ (λ_ _ h=>h.to b) _ _ h
theorem yb.pass{l:List Way}(a:∀x∈l,1<=x.ck/\x.ck<=12){n:Nat}{t:abe}(h:yb t):yb (pass l n t):=lI yb _ (λ_ _ h=>h.from a) _ _ h
def mJ(a t:abe):Prop:=a.length=t.length/\∀i,a.getD i 0<=t.getD i 0
theorem mJ.trans{a b c}(h:mJ a b)(d:mJ b c):mJ a c:=⟨h.1.trans d.1,λi=>Int.le_trans (h.2 i) (d.2 i)⟩
theorem Iu  l   a b   t :mJ (lH l a b t) t:=by
 unfold lH;split
 . refine⟨ZT,λi=>?_⟩
   grind
 . exact⟨rfl,λi=>aas _⟩
theorem C9  l   n a   t :mJ (sM l n a t) t:=lI (mJ · t) _ (λu b h=>(Iu l a b u).trans h) _ _ ⟨rfl,λi=>aas _⟩
theorem pF  l   n   t :mJ (pass l n t) t:=lI (mJ · t) _ (λu a h=>(C9 l n a u).trans h) _ _ ⟨rfl,λi=>aas _⟩
theorem Bf{a t}(h:mJ a t)(d:yb a)(c:yb t)(e:a≠t):pD a<pD t:=by
 obtain⟨f,b⟩:=d;obtain⟨g,q⟩:=c
 match a,t,f,g with
 | [r,s,u,v],[w,x,y,z],_,_=>
   have i:=h.2 0;have j:=h.2 1;have k:=h.2 2;have l:=h.2 3;have m:=b 0;have n:=b 1;have o:=b 2;have p:=b 3;simp at i j k l m n o p;unfold pD
   grind
theorem oe{l}(a:∀x∈l,1<=x.ck/\x.ck<=12){n}:∀  k   t ,yb t->pD t<k->gM l n k t=gM l n (pD t+1) t
 |0,t,_,h=>by omega
 | k+1,t,b,h=>by
   show(if pass l n t=t then t else gM l n k (pass l n t))=if pass l n t=t then t else gM l n (pD t) (pass l n t);split
   . rfl
   . next c=>have d:=Bf (pF l n t) (b.pass a) b c;rw[oe a k _ (b.pass a) (by omega),oe a (pD t) _ (b.pass a) d]
 termination_by k=>k
theorem C'{l}(a:∀x∈l,1<=x.ck/\x.ck<=12){n t}(b:yb t):gM l n (pD t+1) t=if pass l n t=t then t else gM l n (pD (pass l n t)+1) (pass l n t):=by
 show(if pass l n t=t then t else gM l n (pD t) (pass l n t))=_;split
 . rfl
 . next c=>exact oe a _ _ (b.pass a) (Bf (pF l n t) (b.pass a) b c)
theorem zJ{town hour}(a:0<=hour/\hour<=72):yb (begun town hour):=by
 refine⟨by simp[begun],λi=>?_⟩;unfold begun;rw[C8];split
 . omega
 . match i with
   |0=>simp
   |1=>simp
   |2=>simp
   |3=>simp
   |i+4=>simp
theorem uK{l}(a:∀x∈l,1<=x.ck/\x.ck<=12){n}:∀  k   t ,yb t->yb (gM l n k t)
 |0,_,h=>h
 | k+1,t,h=>by
   unfold gM;split
   . exact h
   . exact uK a k _ (h.pass a)
theorem Bg{l}(e:∀x∈l,1<=x.ck/\x.ck<=12){n town hour}(f:0<=hour/\hour<=72):∃a b c d,qg l n town hour=[a,b,c,d]:=by
 have:=(uK e (n:=n) (pD (begun town hour)+1) _ (zJ (town:=town) f)).1;unfold qg
 match gM l n (pD (begun town hour)+1) (begun town hour),this with
 |[a,b,c,d],_=>simp_all
theorem TO:Ph prog 141 3:=⟨by kernel_rfl,by kernel_rfl,by kernel_rfl⟩
theorem E7{fb mb w U V W hole town hour}(hh:∀i∈hole,9<=i)(hl:w.ways.length<1152921504606846976)(hw:∀x∈w.ways,xE w.bq x)(hn:1<=w.bq/\w.bq<=4)(ht:0<=town/\town<w.bq)(h0:0<=hour/\hour<=72)
 (hK:∀σ',σ.Le σ'->KF (.val (.agg ((qg w.ways w.bq.toNat town hour).map int))) σ'):aB prog m 55 [Ok fb mb w U V W hole 0,int town,int hour] σ KF:=by
 have n6:6∉hole:=λq=>by grind
 refine aB.start lay [6,7,9] Vk 3 Tryz.func55 rfl rfl (by rfl) (by kernel_rfl) ?_
 simp[Tryz.f55];refine cz.intro λr hr=>?_
 simp;refine cz.intro λd hd=>?_
 obtain⟨n1,n2,hd⟩:=ab.aP hd;simp;have b4:town<4:=by omega
 have b5:town.toNat<4:=by omega
 have b6:town<=3:=by omega
 refine aa.tE ?_;refine aa.run lay [6,7,9] ?_;simp;refine aa.again (by kernel_rfl) ?_
 refine aa.run lay [6,7,9] ?_;simp;refine aa.again (by kernel_rfl) ?_
 refine aa.run lay [6,7,9] ?_;simp;refine aa.again (by kernel_rfl) ?_
 refine aa.run lay [6,7,9] ?_;simp;refine aa.again (by kernel_rfl) ?_
 refine aa.runN lay [6,7,9] 16 ?_;simp[ht.1,b4,b5,b6]
 change aa _ _ _ _ _ _ _ _ _
 obtain⟨X,J⟩:∃T,T=begun town hour:=⟨_,rfl⟩;have hc:([int 1048576,int 1048576,int 1048576,int 1048576]:abj).set town.toNat (int hour)=X.map int:=by rw[J];simp[begun,aal]
 rw[hc];have a7:yb X:=J ▸ zJ h0;have N:∀x∈w.ways,1<=x.ck/\x.ck<=12:=λx hx=>(hw x hx).2.2.1
 refine aa.lower (λa s=>∃env t,s=⟨env,(σ.set r (.cells [int 0,int 0,int 0,int 0])).set d (.cells (t.map int)),[],.no⟩/\env 0=Ok fb mb w U V W hole 0/\env 6=.ref r 0/\env 7=.ref d 0/\yb t/\pD t=a/\gM w.ways w.bq.toNat (pD t+1) t=qg w.ways w.bq.toNat town hour) (pD X) ⟨_,X,rfl,by simp,by simp,by simp,a7,rfl,by rw[J];rfl⟩ ?_
 rintro a _ ⟨env,t,rfl,E,F,g,Y,rfl,I⟩ ih
 obtain⟨h,l,p,y,rfl⟩:∃h l p y,t=[h,l,p,y]:=by
  match t,Y.1 with
  |[h,l,p,y],_=>grind
 refine aa.runN lay [6,7,9] 5 ?_;simp[g];refine cz.intro λo Z=>?_
 obtain⟨m1,m2,Z⟩:=ab.aP Z;obtain⟨m3,m4,Z⟩:=ab.aP Z;simp
 change aa _ _ _ _ _ _ _ _ _
 refine aa.bu 9 (b:=o) (.agg [int h,int l,int p,int y]) (ab.aj _ _ _) (by simp) rfl ?_
 rw[eG (by omega)]
 refine aa.run lay [6,7,9] ?_;simp[E,n6];refine aa.loop w.bq.toNat (λk s=>∃env u,s=⟨env,(σ.set r (.cells [int 0,int 0,int 0,int 0])).set d (.cells (u.map int)),[],.no⟩/\env 0=Ok fb mb w U V W hole 0/\env 6=.ref r 0/\env 7=.ref d 0/\env 9=.cp (.agg [int h,int l,int p,int y]) 0/\env 26=int w.bq/\env 27=int k/\yb u/\u=(List.range k).foldl (λt a=>sM w.ways w.bq.toNat a t) [h,l,p,y]) ⟨_,[h,l,p,y],rfl,by simp[E],by simp[F],by simp[g],by simp,by simp,by simp,Y,rfl⟩ ?_
 rintro cc k _ hk ⟨env,u,rfl,E,F,g,M,z,f,hU,hu⟩ a8
 refine aa.runN lay [6,7] 17 ?_;simp[z,f];apply aI.intro<;>intro g1<;>simp at g1<;>simp[E,g,M,f,g1]
 . change aa _ _ _ _ _ _ _ _ _
   refine aa.run lay [6,7,9] ?_;simp[n6];refine aa.loop w.bq.toNat (λj s=>∃env v,s=⟨env,(σ.set r (.cells [int 0,int 0,int 0,int 0])).set d (.cells (v.map int)),[],.no⟩/\env 0=Ok fb mb w U V W hole 0/\env 6=.ref r 0/\env 7=.ref d 0/\env 9=.cp (.agg [int h,int l,int p,int y]) 0/\env 10=int k/\env 26=int w.bq/\env 27=int k/\env 34=int w.bq/\env 35=int j/\yb v/\v=(List.range j).foldl (λt b=>lH w.ways k b t) u) ⟨_,u,rfl,by simp[E],by simp[F],by simp[g],by simp[M],by simp,by simp[z],by simp[f],by simp,by simp,hU,rfl⟩ ?_
   rintro cc j _ hj ⟨env,v,rfl,E,F,g,M,bc,z,f,K,G,H,hv⟩ O
   refine aa.runN lay [6,7] 17 ?_;simp[K,G];apply aI.intro<;>intro g2<;>simp at g2<;>simp[bc,f,G,g2]
   . have k4:k<4:=by omega
     have j4:j<4:=by omega
     have k5:k<v.length:=by rw[H.1];exact k4
     have j5:j<v.length:=by rw[H.1];exact j4
     have L:v.getD k 0=v[k]:=by simp[k5]
     have a9:v.getD j 0=v[j]:=by simp[j5]
     have i4:(k:Int)<4:=by omega
     have l4:(j:Int)<4:=by omega
     have j3:j<=3:=by omega
     refine aa.runN lay [6,7] 5 ?_;simp[g,H.1,k4,i4];apply aI.intro<;>intro g3<;>simp at g3<;>(try simp[g3])
     . change aa _ _ _ _ _ _ _ _ _
       refine aa.run lay [6,7] ?_;simp[E,g,bc,H.1,k4,j4,i4,l4];have P:=H.2 k;rw[L]at P;have Q:(v.map int).set j (int (if m9 w.ways v[k] k j<v[j]then m9 w.ways v[k] k j else v[j]))=(lH w.ways k j v).map int:=by rw[lH,L,a9,YG g3,aal]
       refine⟨?_,?_,?_⟩
       all_goals
        refine cf Tryz.func89 rfl (Ma hh hl hw P ?_);refine aN.go lay [6,7] ?_;simp[H.1,j4,j3];rw[Q];refine aa.run lay [6,7] ?_;simp[G];refine⟨by omega,O _ (by omega) ⟨_,lH w.ways k j v,rfl,?_,?_,?_,?_,?_,?_,?_,?_,?_,H.to N,?_⟩⟩
        rotate_right
        . rw[YT,Zq,<-hv];rfl
        all_goals simp[E,F,g,M,bc,z,f,K]
     . change aa _ _ _ _ _ _ _ _ _
       refine aa.run lay [6,7] ?_;simp[G];refine⟨by omega,O _ (by omega) ⟨_,v,rfl,?_,?_,?_,?_,?_,?_,?_,?_,?_,H,?_⟩⟩
       rotate_right
       . rw[YT,Zq,<-hv]
         show v=lH w.ways k j v;rw[lH,L,YA (by omega)]
       all_goals simp[E,F,g,M,bc,z,f,K]
   . have ej:j=w.bq.toNat:=by omega
     subst ej;refine⟨by omega,a8 _ (by omega) ⟨_,v,rfl,?_,?_,?_,?_,?_,?_,H,?_⟩⟩
     rotate_right
     . rw[YT,Zq,<-hu]
       exact hv
     all_goals simp[E,F,g,M,z]
 . have ek:k=w.bq.toNat:=by omega
   subst ek
   obtain⟨A,B,C,D,rfl⟩:∃A B C D,u=[A,B,C,D]:=by
    match u,hU.1 with
    |[A,B,C,D],_=>exact⟨A,B,C,D,rfl⟩
   have R:=C' N (n:=w.bq.toNat) Y;rw[show pass w.ways w.bq.toNat [h,l,p,y]=[A,B,C,D]from hu.symm]at R
   refine⟨by simp,?_⟩
   refine EB lay TO uI rfl rfl (a:=A) (b:=B) (c:=C) (d:=D) (a':=h) (b':=l) (c':=p) (d':=y) rfl (by simp) (by simp) ?_
   cases e:(A==h && (B==l && (C==p && D==y)))
   . have S:¬([A,B,C,D]=[h,l,p,y]):=λq=>by simp at q;simp[q]at e
     rw[YA S,I]at R;refine aa.runN lay [6,7] 2 ?_;simp
     change aa _ _ _ _ _ _ _ _ _
     refine aa.goto rfl (by kernel_rfl) ?_
     refine aa.runN lay [6,7,9] 2 ?_;simp;refine ih (pD [A,B,C,D]) _ (Bf (hu.symm ▸ pF w.ways w.bq.toNat [h,l,p,y]) hU Y S) ⟨_,[A,B,C,D],rfl,?_,?_,?_,hU,rfl,R.symm⟩<;>simp[E,F,g]
   . simp at e
     obtain⟨rfl,rfl,rfl,rfl⟩:=e;rw[YG rfl,I]at R;refine aa.run lay [6,7,9] ?_;simp[F,g,n2,ab.ah];refine .done ?_;have:=hK _ (ab.fW (b:=r) (x:=.cells [int A,int B,int C,int D]) (ab.fW (b:=d) (x:=.cells [int A,int B,int C,int D]) (ab.fW (b:=r) (x:=.cells [int 0,int 0,int 0,int 0]) (ab.le_refl σ) hr) hd) hr);rw[R]at this;exact this
theorem dO{a lo hi}(h:KF (.val (bool (bE a lo hi))) σ):aB prog m 30 [int a,int lo,int hi] σ KF:=by
 refine fs [] Tryz.func30 rfl (by kernel_rfl) ?_;simp[Tryz.f30];unfold bE at h;by_cases g:lo<=a
 . simp[g]
   refine .done ?_
   simp_all
 . simp[g]
   refine .done ?_
   simp_all
theorem jV{x}(h:KF (.val (ints (az x))) σ):aB prog m 34 [u8 x] σ KF:=by
 refine fs [] Tryz.func34 rfl (by kernel_rfl) ?_;simp[Tryz.f34];refine aa.loop 6 (λk s=>∃env b,s=⟨env,b,[],.no⟩/\env 0=u8 x/\env 5=int k/\Tok σ b (env 3) 1 ((((List.range k).map λn:Nat=>(n:Int)).filter λn=>fh x n).map int)) ⟨_,_,rfl,by simp,by simp,.nil σ 1⟩ ?_;rintro l k _ o ⟨env,b,rfl,d,c,a⟩ f;rcases Zb k 6 with g1|g1
 . have e:(k:Int)<6:=by omega
   have p:(((List.range k).map λn:Nat=>(n:Int)).filter λn=>fh x n).length<=k:=by grind
   have q:(((List.range (k+1)).map λn:Nat=>(n:Int)).filter λn=>fh x n)=(((List.range k).map λn:Nat=>(n:Int)).filter λn=>fh x n)++if fh x k then[(k:Int)]else[]:=by
    rw[YT,YS,ZF]
    grind
   apply rn;simp[d,c,e,tF];have g:fh x k=(CH (x.fdiv (2 ^ min k IntKind.u8.bits)) 1==1):=by simp[fh]
   rw[<-g];cases hb:fh x k
   . simp[c]
     refine⟨by omega,f _ g1 ⟨_,_,rfl,by simp[d],by simp,?_⟩⟩
     simp_all
   . simp
     refine aQ lay rfl rfl rfl eC rfl eC rfl uI (by decide) (by grind) (σ0:=σ) (es:=(((List.range k).map λn:Nat=>(n:Int)).filter λn=>fh x n).map int) (xs:=[int k]) (by simp_all) (.inr ⟨_,rfl⟩) λr i j=>?_
     apply rn;simp[c];refine⟨by omega,f _ g1 ⟨_,_,rfl,by simp[d],by simp,?_⟩⟩
     simp_all
 . have:k=6:=by omega
   subst this;apply rn;simp[c];exact .qk a.W (.less a.1 (.done h))
abbrev rp(n:Nat):abe:=(List.range n).map λn:Nat=>(n:Int)
theorem Iv{n}(j:n<=1000)(h:KF (.val (ints (rp n))) σ):aB prog m 42 [int n] σ KF:=by
 refine fs [] Tryz.func42 rfl (by kernel_rfl) ?_;simp[Tryz.f42];refine aa.loop n (λk s=>∃env b,s=⟨env,b,[],.no⟩/\env 5=int n/\env 6=int k/\Tok σ b (env 3) 1 ((rp k).map int)) ⟨_,_,rfl,by simp,by simp,.nil σ 1⟩ ?_;rintro l k _ o ⟨env,b,rfl,c,d,a⟩ g;rcases Zb k n with g1|g1
 . have e:(k:Int)<n:=by omega
   have f1:-9223372036854775808<=(k:Int)+1/\(k:Int)+1<=9223372036854775807:=by omega
   apply rn;simp[c,d,e];refine aQ lay rfl rfl rfl eC rfl eC rfl uI (by decide) (by grind) (σ0:=σ) (es:=(rp k).map int) (xs:=[int k]) (by simp_all) (.inr ⟨_,rfl⟩) λp i f=>?_
   apply rn;simp[d];refine⟨by omega,g _ g1 ⟨_,_,rfl,by simp[c],by simp,?_⟩⟩;rw[show rp (k+1)=rp k++[(k:Int)]by unfold rp;rw[YT,YS];rfl,YS];exact f
 . have:k=n:=by omega
   subst this;apply rn;simp[c,d];exact .qk a.W (.less a.1 (.done h))
theorem Mb(h:KF (.val (.agg [u8 1,u8 2,u8 4])) σ):aB prog m 65 [] σ KF:=by
 refine aB.Ey lay [] [] 3 0 Tryz.func65 rfl rfl (by rfl) (by kernel_rfl) ?_;simp[Tryz.f65];refine cz.intro λc a=>?_
 simp;change aa _ _ _ _ _ _ _ _ _;refine aa.runN lay [] 3 ?_;simp;change aa _ _ _ _ _ _ _ _ _;refine aa.op rfl (bU rfl) (by simp) (λc=>by simp) (po lay rfl Tm rfl Kv (l:=[u8 1,u8 2,u8 4]) (by simp) rfl ?_);apply rn;simp;refine .less ?_ (.done h);exact ab.fW (ab.le_refl _) a
theorem E8{n}{t:Nat}(a:t=if n=1 then 71 else if n=3 then 191 else 108)(h:KF (.val (.kz t (.agg []))) σ):aB prog m 62 [int n] σ KF:=by
 subst a;refine fs [] Tryz.func62 rfl (by kernel_rfl) ?_;simp[Tryz.f62];by_cases g:n=1
 . subst g
   simp;exact .done h
 . by_cases b:n=3
   . subst b
     simp;exact .done h
   . have c:(n==1)=false:=by grind
     have d:(n==3)=false:=by simp_all
     simp[c,d];refine .done ?_
     simp_all
abbrev xH(l:List Oj):List u6:=l.map (·.lost)
theorem Mc{l}(p:l.length<=1000)(h:KF (.val (iv (xH l))) σ):aB prog m 51 [qJ l] σ KF:=by
 refine fs [] Tryz.func51 rfl (by kernel_rfl) ?_;simp[Tryz.f51];refine aa.loop l.length (λk s=>∃env c,s=⟨env,c,[],.no⟩/\env 6=qJ l/\env 7=int l.length/\env 8=int k/\Tok σ c (env 3) 6 ((xH (l.take k)).map ba)) ⟨_,_,rfl,by simp,by simp,by simp,.nil σ 6⟩ ?_;rintro q k _ r ⟨env,c,rfl,j,e,f,a⟩ n;rcases Zb k l.length with g1|g1
 . have g:(k:Int)<l.length:=by omega
   refine aa.runN lay [] 17 ?_;simp[j,e,f,g1,g];refine cz.intro λd hd=>?_
   simp;change aa _ _ _ _ _ _ _ _ _;refine aa.runN lay [] 1 ?_;simp;change aa _ _ _ _ _ _ _ _ _;refine aa.bu 5 (b:=d) (kj l[k]) (ab.aj _ _ _) (by simp) rfl ?_;rw[eG hd];apply rn;simp;refine aQ lay rfl rfl rfl ki rfl ki rfl uZ (by decide) (by grind) (σ0:=σ) (es:=(xH (l.take k)).map ba) (xs:=[ba l[k].lost]) (by simp_all) (.inr ⟨_,rfl⟩) λt o i=>?_
   apply rn;simp[f];refine⟨by omega,n _ g1 ⟨_,_,rfl,by simp[j],by simp[e],by simp,?_⟩⟩;rw[show(xH (l.take (k+1))).map ba=(xH (l.take k)).map ba++[ba l[k].lost]by unfold xH;rw[Yz g1,YS,YS];rfl];exact i
 . have:k=l.length:=by omega
   subst this;apply rn;simp[e,f];rw[YZ]at a;exact .qk a.W (.less a.1 (.done h))
theorem yx{l}(f:l.length<=1000)(h:∀a σ',Tok σ σ' a 6 (l.map ba)->KF (.val a) σ'):aB prog m 75 [iv l] σ KF:=by
 refine fs [] Tryz.func75 rfl (by kernel_rfl) ?_;simp[Tryz.f75];refine Ai (es:=l.map ba) (sp:=.any) (kk:=6) lay rfl ki rfl rfl (by simp) (.inl rfl) (λb=>?_) ?_
 . have:l=[]:=by simp_all
   subst this;have c:(BinOp.eql==BinOp.eql)=true:=rfl;apply rn;simp;exact .done (h _ _ (.nil σ 6))
 . have c:(BinOp.eql==BinOp.neq)=false:=rfl
   apply rn;simp[c];refine aQ lay rfl rfl rfl ki rfl ki rfl uZ (by decide) (by grind) (σ0:=σ) (es:=[]) (xs:=l.map ba) ⟨ab.le_refl _,.inr (.inl (by simp))⟩ (.inr ⟨_,rfl⟩) λg d e=>?_
   apply rn;simp;exact .done (h _ _ (by simp_all))
theorem Da{f l}(u:f.aA.length+l.length<=1000)(h:KF (.val (cj {f with aA:=f.aA++l})) σ):aB prog m 50 [cj f,iv l] σ KF:=by
 refine aB.start lay [2] [] 2 Tryz.func50 rfl rfl (by rfl) (by kernel_rfl) ?_;simp[Tryz.f50];refine cz.intro λb hb=>?_
 simp;refine cz.intro λd hd=>?_
 obtain⟨o,j,hd⟩:=ab.aP hd;simp[j,ab.ah];refine cf Tryz.func75 rfl (yx (by omega) λa p q=>?_);refine aa.run lay [2] ?_;simp;refine aQ lay rfl rfl rfl ki rfl ki rfl uZ (by decide) (by grind) (es:=f.aA.map ba) (xs:=l.map ba) q (.inr ⟨_,rfl⟩) λa' i g=>?_
 rw[<-List.map_append]at g;generalize f.aA++l=L at h g;refine aa.MZ 9 (a':=iv L) (by simpa using g.W) ?_;have r:i b=some (.cells (CE f)):=g.1 _ _ (by simp[j,ab.ah]);have s:i d=some (.cells [.lit (.slice none 0 0),.lit (.slice none 0 0),int 0,int 0,int 0,int 0]):=g.1 _ _ (by simp);refine aa.run lay [2] ?_;simp[r,s,o,ab.ah];refine .less (λc x t=>?_) (.done h);have k:c≠b:=λe=>by simp_all
 have n:c≠d:=λe=>by simp_all
 rw[ab.ah _ _ n,ab.ah _ _ k];exact g.1 _ _ (by rw[ab.ah _ _ n,ab.ah _ _ k];exact t)
theorem xI(h:KF (.val (int 0)) σ):aB prog m 45 [.lit .nilIface] σ KF:=by
 refine fs [] Tryz.func45 rfl (by kernel_rfl) ?_;simp[Tryz.f45];refine cz.intro λb hb=>?_
 simp;refine cf Tryz.func73 rfl (TE ?_);apply rn;simp;exact .less (by repeat (first|exact ab.le_refl _|assumption|refine ab.fW ?_ (by assumption)|refine ab.nB ?_ (by assumption))) (.done h)
theorem qK{f}(a:f.Fits)(b:check f=0)(h:KF (.val (.lit .nilIface)) σ):aB prog m 46 [cj f] σ KF:=by
 refine fs [] Tryz.func46 rfl (by kernel_rfl) ?_;simp[Tryz.f46];refine cf Tryz.func66 rfl (CJ a ?_);apply rn;simp[b];exact .done h
def pG(t:Int)(x:Way):Int:=if bE x.a 0 (t-1)=false then 3 else if bE x.b 0 (t-1)=false then 3 else if x.a=x.b then 8 else if bE x.ck 1 12=false then 1 else if bE x.aS 0 72=false then 1 else if bE x.ew 0 72=false then 1 else if x.aS>x.ew then 5 else 0
theorem Bh{x t}(i:0<=t/\t<=100)(h:KF (.val (int (pG t x))) σ):aB prog m 47 [lG x,int t] σ KF:=by
 unfold pG at h;refine fs [] Tryz.func47 rfl (by kernel_rfl) ?_;simp[Tryz.f47];refine⟨by omega,?_⟩;refine cf Tryz.func30 rfl (dO ?_);apply rn;simp;refine yi.intro (λa=>?_) (λa=>?_)<;>(try simp at a)<;>(try simp[a]at h)<;>(try simp[a])<;>(try exact .done h);refine⟨by omega,?_⟩;refine cf Tryz.func30 rfl (dO ?_);apply rn;simp;refine aI.intro (λb=>?_) (λb=>?_)<;>(try simp at b)<;>(try simp[b]at h)<;>(try simp[b])<;>(try exact .done h);refine aI.intro (λc=>?_) (λc=>?_)<;>(try simp at c)<;>(try simp[c]at h)<;>(try simp[c])<;>(try exact .done h);refine cf Tryz.func30 rfl (dO ?_);apply rn;simp;refine yi.intro (λd=>?_) (λd=>?_)<;>(try simp at d)<;>(try simp[d]at h)<;>(try simp[d])<;>(try exact .done h)
 refine cf Tryz.func30 rfl (dO ?_);apply rn;simp;refine yi.intro (λe=>?_) (λe=>?_)<;>(try simp at e)<;>(try simp[e]at h)<;>(try simp[e])<;>(try exact .done h);refine cf Tryz.func30 rfl (dO ?_);apply rn;simp;refine aI.intro (λf=>?_) (λf=>?_)<;>(try simp at f)<;>(try simp[f]at h)<;>(try simp[f])<;>(try exact .done h);refine aI.intro (λg=>?_) (λg=>?_)<;>(try simp[-Int.not_lt,-Int.not_le]at g)<;>(try simp[g]at h)<;>(try simp[g])<;>(try exact .done h)
def fq{α:Type}(g:α->Int):List α->Int
 |[]=>0
 |x::l=>if g x=0 then fq g l else g x
theorem zK{α}  g  (l:List α)  i   h :fq g (l.drop i)=if g l[i]=0 then fq g (l.drop (i+1))else g l[i]:=by rw[Zg h,fq]
abbrev lone(f:Fr)(e:u6):Fr:={f with aA:=[e]}
abbrev iN(w:gO):Fr:={w.fair with aA:=w.fair.aA++xH w.aF}
def yy(w:gO)(c:Oj):Int:=if bE c.town 0 (w.bq-1)=false then 3 else if bE c.hour 0 72=false then 1 else if c.hour<c.lost.hour then 5 else 0
def lJ(w:gO):Int:=if bE w.bq 1 4=false then 1 else if(6:Int)<w.ways.length then 6 else if fq (pG w.bq) w.ways≠0 then fq (pG w.bq) w.ways else if(3:Int)<w.aF.length then 6 else if fq (yy w) w.aF≠0 then fq (yy w) w.aF
 else if(6:Int)<(w.fair.aA.length:Int)+w.aF.length then 6 else if gL (iN w)=0 then 9 else 0
structure gO.xJ(w:gO):Prop where
 fits:w.fair.Fits
 Dv:check w.fair=0
 TP:∀c∈w.aF,(lone w.fair c.lost).Fits/\check (lone w.fair c.lost)=0
 ways:w.ways.length<1152921504606846976
 aF:w.aF.length<1152921504606846976
theorem Qu{es sp l}:(AV.agg (.sl 6 es sp::l)).W (.agg (.sl 6 es .any::l)):=pv rfl λi x y b a=>by
 cases i with
 |zero=>simp at b a;subst b;subst a;exact jH _ _ _
 |succ i=>simp at b a;rw[b]at a;cases a;exact .refl _
theorem Bi{w c}(j:0<=w.bq/\w.bq<=100)(f:(lone w.fair c.lost).Fits)(g:check (lone w.fair c.lost)=0)(h:KF (.val (int (yy w c))) σ):aB prog m 48 [ia w,kj c] σ KF:=by
 unfold yy at h;have i:Wl [AV.agg [.sl 6 [ba c.lost] .exact,rows w.fair.roads,int w.fair.aS,int w.fair.ew,int w.fair.cK,int w.fair.aV]] [cj (lone w.fair c.lost)]:=.cons Qu .nil;refine aB.thaw ?_;refine fs [] Tryz.func48 rfl (by kernel_rfl) ?_;simp[Tryz.f48];refine cz.intro λb hb=>?_
 simp;refine dQ Tryz.func46 rfl rfl i (qK f g ?_);apply rn;simp;refine cf Tryz.func45 rfl (xI ?_);apply rn;simp
 replace h:=mO.less (ab.fW (b:=b) (x:=.cells [.sl 6 [ba c.lost] .exact,rows w.fair.roads,int w.fair.aS,int w.fair.ew,int w.fair.cK,int w.fair.aV]) (ab.le_refl _) hb) (.done h)
 refine⟨by omega,?_⟩;refine cf Tryz.func30 rfl (dO ?_);apply rn;simp;refine aI.intro (λa=>?_) (λa=>?_)<;>(try simp at a)<;>(try simp[a]at h)<;>(try simp[a])<;>(try exact .done h);refine cf Tryz.func30 rfl (dO ?_);apply rn;simp;refine aI.intro (λd=>?_) (λd=>?_)<;>(try simp at d)<;>(try simp[d]at h)<;>(try simp[d])<;>(try exact .done h);refine aI.intro (λe=>?_) (λe=>?_)<;>(try simp[-Int.not_lt,-Int.not_le]at e)<;>(try simp[e]at h)<;>(try simp[e])<;>(try exact .done h)
theorem lK{w}(b:w.xJ)(f:w.fair.aA.length+w.aF.length<=6):(iN w).Good:=by
 have a:=Fr.pq b.fits b.Dv;refine⟨⟨?_,a.fits.roads,a.fits.row,λe he=>?_⟩,a.fr,a.to,a.le,a.cK,a.aV,?_,λe he=>?_,a.IK⟩
 . grind
 . rcases YH.1 he with he|he
   . exact a.fits.marks e he
   . obtain⟨c,d,rfl⟩:=YN.1 he
     exact(b.TP c d).1.marks _ (lb.2 rfl)
 . simp_all
 . rcases YH.1 he with he|he
   . exact a.sF e he
   . obtain⟨c,d,rfl⟩:=YN.1 he
     exact(Fr.pq (b.TP c d).1 (b.TP c d).2).sF _ (lb.2 rfl)
theorem E9{w}(D:m.solo=true)(e:w.xJ)(h:KF (.val (int (lJ w))) σ):aB prog m 29 [ia w] σ KF:=by
 have E:=e.ways;have F:=e.aF;unfold lJ at h;refine fs Vh Tryz.func29 rfl (by kernel_rfl) ?_;simp[Tryz.f29];refine cf Tryz.func46 rfl (qK e.fits e.Dv ?_);apply rn;simp;refine cf Tryz.func45 rfl (xI ?_);apply rn;simp;refine cf Tryz.func30 rfl (dO ?_);apply rn;simp;refine aI.intro (λj=>?_) (λj=>?_)<;>(try simp at j)<;>(try simp[j]at h)<;>(try simp[j])<;>(try exact .done h);have I:=dt j;refine aI.intro (λv=>?_) (λv=>?_)<;>(try simp[-Int.not_lt,-Int.not_le]at v)<;>(try simp[v]at h)<;>(try simp[v])<;>(try exact .done h);refine aa.loop w.ways.length (λk s=>∃env,s=⟨env,σ,[],.no⟩/\env 1=.cp (ia w) 0/\env 28=xD w.ways/\env 29=int w.ways.length/\env 30=int k/\fq (pG w.bq) w.ways=fq (pG w.bq) (w.ways.drop k)) ⟨_,rfl,by simp⟩ ?_;rintro G k _ H ⟨env,rfl,c,l,o,g,a⟩ B;refine aa.runN lay [] 17 ?_;simp[o,g];apply aI.intro<;>intro C<;>simp at C<;>simp[c,l,g,C]
 . rw[zK _ _ k C]at a
   refine cz.intro λd hd=>?_
   simp;change aa _ _ _ _ _ _ _ _ _;refine aa.runN lay [] 1 ?_;simp;change aa _ _ _ _ _ _ _ _ _;refine aa.bu 5 (b:=d) (lG w.ways[k]) (ab.aj _ _ _) (by simp) rfl ?_;rw[eG hd];apply rn;simp[c];refine cf Tryz.func47 rfl (Bh (by omega) ?_);apply rn;simp;apply aI.intro<;>intro p<;>simp at p<;>simp[g,p]
   . rw[YA p]at a
     simp[a,p]at h;exact .done h
   . rw[YG p]at a
     refine⟨by omega,B _ (by omega) ⟨_,rfl,?_,?_,?_,?_,a⟩⟩<;>simp[c,l,o]
 . have ek:k=w.ways.length:=by omega
   subst ek;rw[aad]at a;rw[show fq (pG w.bq) []=0 from rfl]at a;simp[a]at h;refine aI.intro (λx=>?_) (λx=>?_)<;>(try simp[-Int.not_lt,-Int.not_le]at x)<;>(try simp[x]at h)<;>(try simp[x])<;>(try exact .done h)
   . apply rn
     simp;exact .done h
   apply rn;simp[c];refine aa.loop w.aF.length (λk s=>∃env,s=⟨env,σ,[],.no⟩/\env 1=.cp (ia w) 0/\env 47=qJ w.aF/\env 48=int w.aF.length/\env 49=int k/\fq (yy w) w.aF=fq (yy w) (w.aF.drop k)) ⟨_,rfl,by simp[c]⟩ ?_;rintro G k _ H ⟨env,rfl,c,q,r,i,a⟩ B;refine aa.runN lay [] 17 ?_;simp[r,i];apply aI.intro<;>intro t<;>simp at t<;>simp[c,q,i,t]
   . rw[zK _ _ k t]at a
     refine cz.intro λd hd=>?_
     simp;change aa _ _ _ _ _ _ _ _ _;refine aa.runN lay [] 1 ?_;simp;change aa _ _ _ _ _ _ _ _ _;refine aa.bu 8 (b:=d) (kj w.aF[k]) (ab.aj _ _ _) (by simp) rfl ?_;rw[eG hd];apply rn;simp[c];refine cf Tryz.func48 rfl (Bi (by omega) (e.TP _ (zD t)).1 (e.TP _ (zD t)).2 ?_);apply rn;simp;apply aI.intro<;>intro u<;>simp at u<;>simp[i,u]
     . rw[YA u]at a
       simp[a,u]at h;exact .done h
     . rw[YG u]at a
       refine⟨by omega,B _ (by omega) ⟨_,rfl,?_,?_,?_,?_,a⟩⟩<;>simp[c,q,r]
   . have ek:k=w.aF.length:=by omega
     subst ek;rw[aad]at a;rw[show fq (yy w) []=0 from rfl]at a;simp[a]at h;have J:=(Fr.pq e.fits e.Dv).qo;have f1:-9223372036854775808<=(w.fair.aA.length:Int)+w.aF.length/\(w.fair.aA.length:Int)+w.aF.length<=9223372036854775807:=by omega
     apply rn;simp[f1.1,f1.2];refine aI.intro (λy=>?_) (λy=>?_)<;>(try simp[-Int.not_lt,-Int.not_le]at y)<;>(try simp[y]at h)<;>(try simp[c,y])<;>(try exact .done h);have z:=lK e (by omega);refine cf Tryz.func51 rfl (Mc (by omega) ?_);apply pg;simp;refine cf Tryz.func50 rfl (Da (by grind) ?_);apply pg;simp;refine cf Tryz.func49 rfl (LV (f:=iN w) D z.fits z.Dv ⟨Nat.lt_of_le_of_lt (vu z _) (by decide),Nat.lt_of_le_of_lt (vu z _) (by decide)⟩ ?_);apply pg;simp;obtain⟨n,a⟩:∃n,n=gL (iN w):=⟨_,rfl⟩;rw[<-a]at h;change aa _ _ _ _ _ _ _ _ _;simp only[<-a];apply rn;simp;refine aI.intro (λA=>?_) (λA=>?_)<;>(try simp at A)<;>(try simp[A]at h)<;>(try simp[A])<;>(try exact .done h)
end
open Go.cr Go.Conc
theorem xK{m fb mb A j w c o p q hole}(B:∀i∈hole,9<=i)(C:A.fb=fb/\A.mb=mb/\A.fo=9/\A.nm=nn/\A.ng=ng/\A.dir=true)(hj:j<3)(r:∀x,A.GI x↔x=.map [])(D:w.ways.length<1152921504606846976)(s:∀x∈w.ways,xE w.bq x)(E:1<=w.bq/\w.bq<=4)(F:0<=c.town/\c.town<w.bq)(t:0<=c.hour/\c.hour<=72)
 (G:A.val j=.int .i64 ((qg w.ways w.bq.toNat c.town c.hour).getD 0 0)){body}(hb:Tryz.f53.body=some body):
 aa prog (gW prog A j) 53 25 none Ts [.code body] ⟨dh [.ref A.gb 0,.cp (Ok fb mb w o p q hole 0) 0,.cp (kj c) 0,.cp (int j) 0],jv A.fb,[],.told .deferred [cA prog] m⟩ (Qc prog A j Tryz.f53):=by
 obtain⟨rfl,rfl,a,e,H,d⟩:=C;simp only[Tryz.f53,kn]at hb;subst hb;apply rn;simp;refine aa.defer rfl rfl rfl rfl (by simp) rfl ?_
 apply rn;simp;obtain⟨I,L,M,N,y⟩:=Bg (l:=w.ways) (n:=w.bq.toNat) (town:=c.town) (λx g=>(s x g).2.2.1) t
 rw[y]at G;refine cf Tryz.func55 rfl (E7 B D s E F t λh k=>?_)
 have J:h A.fb=some .gu:=k _ _ (by simp[jv])
 rw[y];apply rn;simp;have cell:A.cell j=11+j:=by unfold bJ.cell;rw[a]
 have z:=@Ez prog A j d;rw[a,e]at z;refine cf Tryz.func56 rfl (z (by rw[cell];simp<;>omega) J λx v g O=>?_)
 obtain rfl:=(r x).1 g;apply rn;simp;refine aa.defer rfl rfl rfl rfl (by simp) rfl ?_
 have K:(j:Int)<3:=by omega
 have P:j<=2:=by omega
 refine aa.runN lay [] 1 ?_;simp
 change aa _ _ _ _ _ _ _ _ _
 refine aa.draw lay (.take [0,1,2,3,4,5] false (.one 6 (.done))) rfl ?_;refine aN.take lay [] ?_;simp[Ak,K];refine aN.one rfl (by kernel_rfl) rfl (by simp) ?_
 refine Hm lay (b:=A.fb) (off:=11+j) (u:=.int .i64 I) (v0:=v) (f:=A.own j v) rfl uI rfl ?_ (by simp) rfl (by simp) (by simp[bJ.own,cell]) ?_
 . simp
   exact p9 _ _ _ _
 . refine iC.done ?_
   apply rn;simp;exact⟨rfl,.inl rfl,⟨m,rfl⟩,Ok A.fb A.mb w o p q hole 9,_,.map [],by rw[a];exact p9 _ _ _ _,by grind,ab.aj _ _ _,by simp_all,(ab.ah _ _ (zj A.d5)).trans (ab.aj _ _ _),(r _).2 rfl,rfl⟩
