import Derived.Test.YtkcceaplmgdnfaaGreatDoorC17
set_option linter.all false
set_option maxHeartbeats 2000000
set_option maxRecDepth 4000
namespace Go.Proofs.YtkcceaplmgdnfaaGreatDoor
open Go.Proofs.Tryz (prog)
section
open Go.cC Go.Conc
variable{m:Mo}{σ:ab}{KF:ach}
theorem sU{l:acz}(h:l.Nodup){i j hi}{hj:j<l.length}(a:i≠j):l[i]≠l[j]:=by
 rw[List.Nodup,List.pairwise_iff_getElem]at h
 grind
def iS(rs:acz)(M:aca)(n j:Nat):acE:=(List.range rs.length).map λl=>if l<j then ints (M.getD l [])else AV.gk (rs.getD l 0) 0 n n
theorem oz  rs   M   n j :(iS rs M n j).length=rs.length:=by rw[iS,ZZ,abr]
theorem oA{rs M n j l}(a:l<rs.length):(iS rs M n j)[l]?=some (if l<j then ints (M.getD l [])else AV.gk (rs.getD l 0) 0 n n):=by rw[iS,aan,List.getElem?_range a];rfl
theorem DG{fid r ro hold K todo env D rc d n at_ rs M}{cs:acE}{spr}(σ0:ab)(k:rs.Nodup)(s:∀l,l<rs.length->(M.getD l []).length=n)(o:at_<cs.length)(hd:d∉rs)
 (w:∀σ',σ' d=some (.cells (cs.set at_ (.sl 1 (iS rs M n rs.length) spr)))->(∀y,y≠d->y∉rs->σ' y=σ0 y)->aa prog m fid r ro hold todo ⟨env,σ',D,rc⟩ K):
 ∀  f j ,j+f=rs.length->∀σ,σ d=some (.cells (cs.set at_ (.sl 1 (iS rs M n j) spr)))->(∀  l   h ,j<=l->σ rs[l]=some (.cells ((M.getD l []).map int)))->(∀y,y≠d->y∉rs->σ y=σ0 y)->aa prog m fid r ro hold todo ⟨env,σ,D,rc⟩ K
 | 0,j,x,σ,t,_,z=>by
   have:j=rs.length:=by omega
   simp_all
 | f + 1,j,x,σ,t,A,z=>by
   have a:j<rs.length:=by omega
   have B:=s j a;have q:d≠rs[j]:=λe=>hd (e ▸ zA a)
   have c:∀e∈iS rs M n j,e.cells=[e]:=λe p=>by unfold iS at p;obtain⟨l,_,rfl⟩:=aad.1 p;split<;>rfl
   have hlen:(iS rs M n j).length=rs.length:=oz _ _ _ _;have u:∀l,l<rs.length->(iS rs M n j)[l]?=some (if l<j then ints (M.getD l [])else AV.gk (rs.getD l 0) 0 n n):=λl h=>oA h
   have g:(iS rs M n j).set j (.sl 1 ((M.getD j []).map int) .any)=iS rs M n (j+1):=by
    apply List.ext_getElem?;intro l
    by_cases h:l<rs.length
    . have G:(iS rs M n (j+1))[l]?=some (if l<j+1 then ints (M.getD l [])else AV.gk (rs.getD l 0) 0 n n):=oA h
      grind
    . rw[aaK (by simp_all),aaK (by rw[oz];omega)]
   refine aa.O5 (b:=rs[j]) (d:=d) (i:=j) (l:=(M.getD j []).map int) (at_:=at_) q (A j a (ZX _)) (λe p=>by obtain⟨_,_,rfl⟩:=aad.1 p;rfl) t (by rw[aaM o]) c (by simp_all) ?_
   rw[List.set_set,g];refine DG σ0 k s o hd w f (j+1) (by omega) _ (ab.ai _ _ _) (λl h v=>?_) (λy C E=>?_)
   . have F:rs[l]≠d:=λe=>hd (e ▸ zA h)
     rw[ab.ah _ _ F];simp only[ab.del,sU k (show l≠j by omega),Rp]
     grind
   . rw[ab.ah _ _ C]
     have:y≠rs[j]:=λe=>E (e ▸ zA a)
     simp only[ab.del,this,Rp]
     simp_all
section
variable{c k:Nat}{nums:acy}
abbrev fU:acE:=[.lit (.slice none 0 0),.lit (.slice none 0 0),int 0,int 0,int 0,int 0]
theorem FT{cnt}(hk:k+20+11*cnt.toNat<1000000)(hn:nums.length<1152921504606846976)(gI:0<=cnt/\cnt<=1000)(hb:bg c nums k σ)(h:∀  f   a  σ',uf cnt f->ov c nums (k+20+11*cnt.toNat) σ σ'->(f.aD=[]->a=.lit (.slice none 0 0))/\(f.aD≠[]->a=iZ f.aD)->KF (.val (.agg [a,rows f.roads,int f.aP,int f.dH,int f.cL,int f.aW])) σ'):az prog m 83 [.ref c 0,int cnt] σ KF:=by
 obtain⟨n0,s0,_,ft⟩:=id hb;refine fs Wq Tryz.func83 rfl (by kernel_rfl) ?_
 simp[Tryz.f83];refine bI.intro λA h4=>?_
 have n4:c≠A:=λe=>by simp_all
 have G:∀x,bg c nums k (σ.set A x):=λx=>⟨n0,s0,by assumption,by rw[ab.ah _ _ n4];exact ft⟩
 simp;refine cf Tryz.func19 rfl (dM (by omega) hn ⟨by omega,by omega⟩ ⟨by omega,by omega⟩ (G _) λcL gR fu dr=>?_)
 apply rn;simp;refine cf Tryz.func54 rfl (mJ (l:=[1,2,2,3,3,6]) (by omega) hn (by simp) dr.1 λaW r fv bw=>?_)
 apply rn;simp;refine bI.intro λw h5=>?_
 have Z:A≠c:=za n4;have ax:ov c nums (k+2) (σ.set A (.cells fU)) r:=dr.trans bw;have ee:r A=some (.cells fU):=by rw[ax.2 A Z,ab.ai]
 have K:w≠c:=λe=>by subst e;obtain⟨_,_,_,q⟩:=bw.1;simp_all
 have S:w≠A:=λe=>by simp_all
 have aL:σ w=none:=by rw[ax.2 w K,ab.ah _ _ S]at h5;exact h5
 simp[aG]
 have eg:∀x,bg c nums (k+2) (r.set w x):=λx=>by obtain⟨n,z,h1,h2⟩:=bw.1;exact⟨n,z,by omega,by rw[ab.ah _ _ (za K)];exact h2⟩
 refine cf Tryz.func19 rfl (dM (by omega) hn ⟨by omega,by omega⟩ ⟨by omega,by omega⟩ (eg _) λdS g fw dx=>?_)
 apply rn;simp;refine cf Tryz.func18 rfl (eh (by omega) hn ⟨by omega,by omega⟩ dx.1 λlo aO fx dy=>?_)
 apply rn;simp;have ay:ov c nums (k+4) (r.set w (.cells [.lit (.slice none 0 0),.lit (.slice none 0 0),int 0,int 0,int cL,int aW])) aO:=dx.trans dy;obtain⟨sp,rfl⟩:∃sp:Nat,dS=(sp:Int):=⟨dS.toNat,by omega⟩
 have gU:1<=sp/\sp<=3:=by omega
 have fO:0<=lo/\lo<=4:=by omega
 have ei:1<=cL/\cL<=4:=by omega
 have ea:aW=1\/aW=2\/aW=3\/aW=6:=by simp_all
 have ej:aO w=some (.cells [.lit (.slice none 0 0),.lit (.slice none 0 0),int 0,int 0,int cL,int aW]):=by rw[ay.2 w K,ab.ai]
 have ep:aO A=some (.cells fU):=by rw[ay.2 A Z,ab.ah _ _ (za S)];exact ee
 have ca:(σ.del c).Le aO:=λy x p=>by
  have y1:y≠c:=λe=>by subst e;simp[ab.del]at p
  have y0:σ y=some x:=by simpa[ab.del,y1]using p
  have y5:y≠w:=λe=>by simp_all
  have y4:y≠A:=λe=>by simp_all
  rw[ay.2 y y1,ab.ah _ _ y5,ax.2 y y1,ab.ah _ _ y4];exact y0
 have b2:=dy.1;clear dr bw dx dy ax ay G eg h5 ee fu fv fw fx
 refine aa.loop sp (λi s=>∃env σ' a rs,s=⟨env,σ',[],.no⟩/\env 0=.ref c 0/\env 1=int cnt/\env 4=.ref A 0/\env 5=.ref w 0/\env 6=int sp/\env 7=int lo/\env 8=int i/\bg c nums (k+4) σ'/\σ' A=some (.cells fU)/\σ' w=some (.cells [.lit (.slice none 0 0),a,int 0,int 0,int cL,int aW])/\
  Tok (σ.del c) σ' a 1 (rs.map λb:Nat=>AV.gk b 0 sp sp)/\rs.length=i/\rs.Nodup/\(∀b∈rs,σ b=none/\b≠c/\b≠A/\b≠w/\σ' b=some (.cells (List.replicate sp (int 0))))) ⟨_,aO,.lit (.slice none 0 0),[],rfl,by simp,by simp,by simp,by simp,by simp,by simp,by simp,b2,ep,ej,⟨ca,.inl ⟨rfl,rfl⟩⟩,rfl,abH,by simp⟩ ?_
 rintro c0 i _ hi ⟨env,σ',a,rs,rfl,J,e1,T,D,H,e7,e8,I,q4,V,u,b3,a7,b0⟩ ih
 have L:=u.cells
 rcases aap i sp with g1|g1
 . have gd:(i:Int)<sp:=by omega
   have f1:-9223372036854775808<=(i:Int)+1/\(i:Int)+1<=9223372036854775807:=by omega
   have eb:∀a8:ab,Tok (σ.del c) a8 a 1 (rs.map λb:Nat=>AV.gk b 0 sp sp)->∀y l,a8 y=some (.cells l)->bp a≠some y:=λa8 hx y l p e=>by obtain⟨_,_,q⟩:=hx.aR e;rw[p]at q;cases q
   have fresh:∀b,σ' b=none->σ b=none/\b≠c/\b≠A/\b≠w/\w≠b/\b∉rs:=λb U=>by
    have n1:b≠c:=λe=>by subst e;obtain⟨_,_,_,q⟩:=I;simp_all
    refine⟨?_,n1,λe=>(by subst e;simp_all),λe=>(by subst e;simp_all),λe=>(by simp_all),λe=>(by rw[(b0 b e).2.2.2.2]at U;cases U)⟩
    cases e:σ b with
    |none=>rfl
    |some x=>have:=u.1 b x (by simp[ab.del,n1,e]);rw[U]at this;cases this
   apply rn;simp[D,H,e8,V,gd];refine⟨?_,?_⟩
   . ((
       refine oo lay rfl dG rfl rA rfl (by decide) rfl rfl (n:=sp) (by simp[H]) (by simp[H]) ⟨by omega,by omega⟩ λb U=>?_
       obtain⟨bA,a9,ad,al,b4,av⟩:=fresh b U;have up:=u.up (ab.iN (x:=.cells (List.replicate sp (int 0))) (ab.le_refl _) U);have b1:(σ'.set b (.cells (List.replicate sp (int 0)))) w=some (.cells [.lit (.slice none 0 0),a,int 0,int 0,int cL,int aW]):=(ab.ah _ _ b4).trans V;apply pg;simp[D,H,b1,L.1,L.2]))
     ((
       refine aN lay rfl rfl rfl oX rfl oX rfl dG (by decide) (by simp;omega) (σ0:=(σ'.set b (.cells (List.replicate sp (int 0)))).off a) (es:=rs.map λb:Nat=>AV.gk b 0 sp sp) (xs:=[AV.gk b 0 sp sp]) (by simpa using up.here.1) (.inr ⟨_,by simp;rfl⟩) λa' g t=>?_
       have B:=t.cells;have F:∀y l,(σ'.set b (.cells (List.replicate sp (int 0)))) y=some (.cells l)->g y=some (.cells l):=λy l p=>t.1 _ _ (by rw[ab.du (eb _ up y l p)];exact p)
       have Q:=F _ _ b1;apply pg;simp[D,Q,B.1,B.2,aG];apply rn;simp[e8,f1.1,f1.2];obtain⟨X,Y,G,E⟩:=I
       have C:Tok (σ.del c) g a' 1 ((rs++[b]).map λb:Nat=>AV.gk b 0 sp sp):=by have:=t.base up.here.2;simpa using this
       refine ih _ g1 ⟨_,_,a',rs++[b],rfl,by simp[J],by simp[e1],by simp[T],by simp[D],by simp[H],by simp[e7],by simp,⟨X,Y,G,?_⟩,?_,ab.ai _ _ _,C.beside (by simp[ab.del,K,aL]) (λe=>by obtain⟨_,_,q⟩:=C.aR e;rw[Q]at q;cases q),by simp[b3],?_,?_⟩
       . rw[ab.ah _ _ (za K)];exact F _ _ ((ab.ah _ _ (za a9)).trans E)
       . rw[ab.ah _ _ (za S)];exact F _ _ ((ab.ah _ _ (za ad)).trans q4)
       . rw[abJ]
         exact⟨a7,by simp,λx hx y p=>by simp at p;subst p;exact λe=>av (e ▸ hx)⟩
       . intro d hd
         rcases ZQ.1 hd with hd|hd
         . obtain⟨p1,p2,p3,p4,p5⟩:=b0 d hd
           have b5:d≠b:=λe=>av (e ▸ hd)
           exact⟨p1,p2,p3,p4,by rw[ab.ah _ _ p4];exact F _ _ ((ab.ah _ _ b5).trans p5)⟩
         . simp at hd
           subst hd;exact⟨bA,a9,ad,al,by rw[ab.ah _ _ al];exact F _ _ (ab.ai _ _ _)⟩))
   . ((
       refine oo lay rfl dG rfl rA rfl (by decide) rfl rfl (n:=sp) (by simp[H]) (by simp[H]) ⟨by omega,by omega⟩ λb U=>?_
       obtain⟨bA,a9,ad,al,b4,av⟩:=fresh b U;have up:=u.up (ab.iN (x:=.cells (List.replicate sp (int 0))) (ab.le_refl _) U);have b1:(σ'.set b (.cells (List.replicate sp (int 0)))) w=some (.cells [.lit (.slice none 0 0),a,int 0,int 0,int cL,int aW]):=(ab.ah _ _ b4).trans V;apply pg;simp[D,H,b1,L.1,L.2]))
     refine⟨?_,?_⟩
     . ((
         refine aN lay rfl rfl rfl oX rfl oX rfl dG (by decide) (by simp;omega) (σ0:=(σ'.set b (.cells (List.replicate sp (int 0)))).off a) (es:=rs.map λb:Nat=>AV.gk b 0 sp sp) (xs:=[AV.gk b 0 sp sp]) (by simpa using up.here.1) (.inr ⟨_,by simp;rfl⟩) λa' g t=>?_
         have B:=t.cells;have F:∀y l,(σ'.set b (.cells (List.replicate sp (int 0)))) y=some (.cells l)->g y=some (.cells l):=λy l p=>t.1 _ _ (by rw[ab.du (eb _ up y l p)];exact p)
         have Q:=F _ _ b1;apply pg;simp[D,Q,B.1,B.2,aG];apply rn;simp[e8,f1.1,f1.2];obtain⟨X,Y,G,E⟩:=I
         have C:Tok (σ.del c) g a' 1 ((rs++[b]).map λb:Nat=>AV.gk b 0 sp sp):=by have:=t.base up.here.2;simpa using this
         refine ih _ g1 ⟨_,_,a',rs++[b],rfl,by simp[J],by simp[e1],by simp[T],by simp[D],by simp[H],by simp[e7],by simp,⟨X,Y,G,?_⟩,?_,ab.ai _ _ _,C.beside (by simp[ab.del,K,aL]) (λe=>by obtain⟨_,_,q⟩:=C.aR e;rw[Q]at q;cases q),by simp[b3],?_,?_⟩
         . rw[ab.ah _ _ (za K)];exact F _ _ ((ab.ah _ _ (za a9)).trans E)
         . rw[ab.ah _ _ (za S)];exact F _ _ ((ab.ah _ _ (za ad)).trans q4)
         . rw[abJ]
           exact⟨a7,by simp,λx hx y p=>by simp at p;subst p;exact λe=>av (e ▸ hx)⟩
         . intro d hd
           rcases ZQ.1 hd with hd|hd
           . obtain⟨p1,p2,p3,p4,p5⟩:=b0 d hd
             have b5:d≠b:=λe=>av (e ▸ hd)
             exact⟨p1,p2,p3,p4,by rw[ab.ah _ _ p4];exact F _ _ ((ab.ah _ _ b5).trans p5)⟩
           . simp at hd
             subst hd;exact⟨bA,a9,ad,al,by rw[ab.ah _ _ al];exact F _ _ (ab.ai _ _ _)⟩))
     . ((
         refine aN lay rfl rfl rfl oX rfl oX rfl dG (by decide) (by simp;omega) (σ0:=(σ'.set b (.cells (List.replicate sp (int 0)))).off a) (es:=rs.map λb:Nat=>AV.gk b 0 sp sp) (xs:=[AV.gk b 0 sp sp]) (by simpa using up.here.1) (.inr ⟨_,by simp;rfl⟩) λa' g t=>?_
         have B:=t.cells;have F:∀y l,(σ'.set b (.cells (List.replicate sp (int 0)))) y=some (.cells l)->g y=some (.cells l):=λy l p=>t.1 _ _ (by rw[ab.du (eb _ up y l p)];exact p)
         have Q:=F _ _ b1;apply pg;simp[D,Q,B.1,B.2,aG];apply rn;simp[e8,f1.1,f1.2];obtain⟨X,Y,G,E⟩:=I
         have C:Tok (σ.del c) g a' 1 ((rs++[b]).map λb:Nat=>AV.gk b 0 sp sp):=by have:=t.base up.here.2;simpa using this
         refine ih _ g1 ⟨_,_,a',rs++[b],rfl,by simp[J],by simp[e1],by simp[T],by simp[D],by simp[H],by simp[e7],by simp,⟨X,Y,G,?_⟩,?_,ab.ai _ _ _,C.beside (by simp[ab.del,K,aL]) (λe=>by obtain⟨_,_,q⟩:=C.aR e;rw[Q]at q;cases q),by simp[b3],?_,?_⟩
         . rw[ab.ah _ _ (za K)];exact F _ _ ((ab.ah _ _ (za a9)).trans E)
         . rw[ab.ah _ _ (za S)];exact F _ _ ((ab.ah _ _ (za ad)).trans q4)
         . rw[abJ]
           exact⟨a7,by simp,λx hx y p=>by simp at p;subst p;exact λe=>av (e ▸ hx)⟩
         . intro d hd
           rcases ZQ.1 hd with hd|hd
           . obtain⟨p1,p2,p3,p4,p5⟩:=b0 d hd
             have b5:d≠b:=λe=>av (e ▸ hd)
             exact⟨p1,p2,p3,p4,by rw[ab.ah _ _ p4];exact F _ _ ((ab.ah _ _ b5).trans p5)⟩
           . simp at hd
             subst hd;exact⟨bA,a9,ad,al,by rw[ab.ah _ _ al];exact F _ _ (ab.ai _ _ _)⟩))
 . have gf:sp=i:=by omega
   subst gf;clear ih b2 ej ep ca
   obtain⟨spr,rfl⟩:∃spr,a=.sl 1 (rs.map λb:Nat=>AV.gk b 0 sp sp) spr:=by
    rcases u.2 with⟨_,e⟩|e|⟨_,_,_,e,_⟩
    . have:=congrArg List.length e
      grind
    . simp_all
    simp_all
   have N:=u.1;clear u
   have bB:∀(j:Nat) (hj:j<rs.length),σ rs[j]=none/\rs[j]≠c/\rs[j]≠A/\rs[j]≠w:=λj hj=>by simp_all
   apply rn;simp[H,e8]
   have o:∀(j:Nat) (hj:j<rs.length),σ' rs[j]=some (.cells (((List.replicate sp (List.replicate sp (0:Int))).getD j []).map int)):=λj hj=>by
    rw[(b0 _ (zA hj)).2.2.2.2]
    simp_all
   clear b0
   refine aa.loop sp (λi s=>∃env σ' M,s=⟨env,σ',[],.no⟩/\env 0=.ref c 0/\env 1=int cnt/\env 4=.ref A 0/\env 5=.ref w 0/\env 6=int sp/\env 7=int lo/\env 9=int i/\bg c nums (k+4+3*i) σ'/\σ' A=some (.cells fU)/\σ' w=some (.cells [.lit (.slice none 0 0),.sl 1 (rs.map λb:Nat=>AV.gk b 0 sp sp) spr,int 0,int 0,int cL,int aW])/\
    (σ.del c).Le σ'/\He sp lo i 0 M/\∀(j:Nat) (hj:j<rs.length),σ' rs[j]=some (.cells ((M.getD j []).map int))) ⟨_,σ',_,rfl,by simp[J],by simp[e1],by simp[T],by simp[D],by simp[H],by simp[e7],by simp,I,q4,V,N,He.start sp lo,o⟩ ?_
   clear J e1 T D H e7 e8 I q4 V N o
   rintro c1 i _ h3 ⟨env,σ',M,rfl,J,e1,T,D,H,e7,e9,I,q4,V,N,hM,o⟩ ih
   rcases aap i sp with g2|g2
   . have E0:(i:Int)<sp:=by omega
     apply rn;simp[H,e9,E0]
     refine aa.loop i (λj s=>∃env σ' M,s=⟨env,σ',[],.no⟩/\env 0=.ref c 0/\env 1=int cnt/\env 4=.ref A 0/\env 5=.ref w 0/\env 6=int sp/\env 7=int lo/\env 9=int i/\env 10=int j/\bg c nums (k+4+3*i+j) σ'/\σ' A=some (.cells fU)/\σ' w=some (.cells [.lit (.slice none 0 0),.sl 1 (rs.map λb:Nat=>AV.gk b 0 sp sp) spr,int 0,int 0,int cL,int aW])/\
      (σ.del c).Le σ'/\He sp lo i j M/\∀(j:Nat) (hj:j<rs.length),σ' rs[j]=some (.cells ((M.getD j []).map int))) ⟨_,σ',M,rfl,by simp[J],by simp[e1],by simp[T],by simp[D],by simp[H],by simp[e7],by simp[e9],by simp,I,q4,V,N,hM,o⟩ ?_
     clear J e1 T D H e7 e9 I q4 V N hM o
     rintro c2 j _ hj ⟨env,σ',M,rfl,J,e1,T,D,H,e7,e9,cd,I,q4,V,N,hM,o⟩ et
     rcases aap j i with g3|g3
     . have GM:(j:Int)<i:=by omega
       have f1:-9223372036854775808<=(j:Int)+1/\(j:Int)+1<=9223372036854775807:=by omega
       have f2:-9223372036854775808<=2*lo/\2*lo<=9223372036854775807:=by omega
       apply rn;simp[J,e7,e9,cd,GM,f2.1,f2.2];refine cf Tryz.func19 rfl (dM (by omega) hn ⟨by omega,by omega⟩ ⟨by omega,by omega⟩ I λv r hv hd=>?_)
       have s5:r w=some (.cells [.lit (.slice none 0 0),.sl 1 (rs.map λb:Nat=>AV.gk b 0 sp sp) spr,int 0,int 0,int cL,int aW]):=by rw[hd.2 w K];exact V
       have s4:r A=some (.cells fU):=by rw[hd.2 A Z];exact q4
       have cb:i<rs.length:=by omega
       have cg:j<rs.length:=by omega
       obtain⟨z1,z2,z3,z4⟩:=bB i cb;obtain⟨y1,y2,y3,y4⟩:=bB j cg;have si:r rs[i]=some (.cells ((M.getD i []).map int)):=by rw[hd.2 _ z2];exact o i cb
       have sj:r rs[j]=some (.cells ((M.getD j []).map int)):=by rw[hd.2 _ y2];exact o j cg
       have gj:rs[i]≠rs[j]:=sU a7 (by omega)
       have ev:=za gj;obtain⟨Ri,ey⟩:∃R,R=M.getD i []:=⟨_,rfl⟩;obtain⟨Rj,eA⟩:∃R,R=M.getD j []:=⟨_,rfl⟩;have li:=hM.row i (by omega)
       have lj:=hM.row j (by omega)
       rw[<-ey]at si li;rw[<-eA]at sj lj;have gl:j+1<=sp:=by omega
       have gp:i+1<=sp:=by omega
       have g4:j<sp:=by omega
       have gw:(j:Int)<sp:=by omega
       have eB:(i:Int)<sp:=by omega
       have hF:∀g,g=(r.set rs[i] (.cells ((Ri.map int).set j (int v)))).set rs[j] (.cells ((Rj.map int).set i (int v)))->bg c nums (k+4+3*i+(j+1)) g/\g A=some (.cells fU)/\g w=some (.cells [.lit (.slice none 0 0),.sl 1 (rs.map λb:Nat=>AV.gk b 0 sp sp) spr,int 0,int 0,int cL,int aW])/\(σ.del c).Le g/\∀(l:Nat) (hl:l<rs.length),g rs[l]=some (.cells (((yZ M i j v).getD l []).map int)):=λg e3=>by
        subst e3;refine⟨?_,?_,?_,λy x p=>?_,λl hl=>?_⟩
        . obtain⟨X,Y,G,E⟩:=hd.1
          exact⟨X,Y,by omega,by rw[ab.ah _ _ (za y2),ab.ah _ _ (za z2)];exact E⟩
        . rw[ab.ah _ _ (za y3),ab.ah _ _ (za z3)];exact s4
        . rw[ab.ah _ _ (za y4),ab.ah _ _ (za z4)];exact s5
        . have w1:y≠c:=λe=>by subst e;simp[ab.del]at p
          have w0:σ y=some x:=by simpa[ab.del,w1]using p
          have w2:y≠rs[i]:=λe=>by rw[e,z1]at w0;cases w0
          have w3:y≠rs[j]:=λe=>by rw[e,y1]at w0;cases w0
          rw[ab.ah _ _ w3,ab.ah _ _ w2,hd.2 y w1];exact N y x p
        . rw [Ag (by rw[hM.len];omega) (by rw[hM.len];omega) (by omega),<-ey,<-eA]
          by_cases q1:l=j
          . subst q1
            rw[ZS rfl,ab.ai,abt]
          . rw[ZM q1,ab.ah _ _ (sU a7 q1)]
            by_cases q2:l=i
            . subst q2
              rw[ZS rfl,ab.ai,abt]
            . rw[ZM q2,ab.ah _ _ (sU a7 q2),hd.2 _ (bB l hl).2.1]
              exact o l hl
       have O:=hF _ rfl;clear hF;apply rn;simp[D,e9,cd,s5,b3,g2,g4,gw,eB,gl,gp,li,lj,si,sj,ab.ah,ev];refine⟨?_,?_⟩
       . apply rn
         simp[cd,f1.1,f1.2];refine et _ g3 ⟨_,_,yZ M i j v,rfl,?_,?_,?_,?_,?_,?_,?_,?_,O.1,O.2.1,O.2.2.1,O.2.2.2.1,hM.next (by omega) g3 ⟨hv.1,by omega⟩,O.2.2.2.2⟩<;>simp[J,e1,T,D,H,e7,e9]
       . apply rn
         simp[cd,f1.1,f1.2];refine et _ g3 ⟨_,_,yZ M i j v,rfl,?_,?_,?_,?_,?_,?_,?_,?_,O.1,O.2.1,O.2.2.1,O.2.2.2.1,hM.next (by omega) g3 ⟨hv.1,by omega⟩,O.2.2.2.2⟩<;>simp[J,e1,T,D,H,e7,e9]
     . have gx:i=j:=by omega
       subst gx;have f1:-9223372036854775808<=(i:Int)+1/\(i:Int)+1<=9223372036854775807:=by omega
       apply rn;simp[e9,cd,f1.1,f1.2];refine ih _ g2 ⟨_,_,M,rfl,?_,?_,?_,?_,?_,?_,?_,I.mono (by omega),q4,V,N,hM.line,o⟩<;>simp[J,e1,T,D,H,e7]
   . have gA:sp=i:=by omega
     subst gA;clear ih;have eK:∀l,l<rs.length->(M.getD l []).length=sp:=λl hl=>hM.row l (by omega)
     have eN:w∉rs:=λe=>by
      obtain⟨l,hl,e'⟩:=aak.1 e
      grind
     have aC:rs.map (λb:Nat=>AV.gk b 0 sp sp)=iS rs M sp 0:=by
      apply List.ext_getElem?;intro l
      by_cases hl:l<rs.length
      . rw[oA hl,ZM (by omega),aan,KD hl]
        grind
      . rw[aaK (by simp_all),aaK (by rw[oz];omega)]
     have aE:iS rs M sp rs.length=M.map ints:=by
      have gB:=hM.len;apply List.ext_getElem?;intro l
      by_cases hl:l<rs.length
      . have gC:l<M.length:=by omega
        rw[oA hl,ZS hl,aan,KD gC]
        simp_all
      . rw[aaK (by rw[oz];omega),aaK (by simp_all)]
     rw[aC]at V;refine DG (d:=w) (n:=sp) (at_:=1) (rs:=rs) (M:=M) (cs:=[.lit (.slice none 0 0),.cy,int 0,int 0,int cL,int aW]) (spr:=spr) σ' a7 eK (by simp) eN (λg eR eW=>?_) rs.length 0 (by omega) σ' (by simp_all) (λl hl _=>o l hl) (λ_ _ _=>rfl)
     rw[aE]at eR;have gP:=hM.fin;have gB:=hM.len
     have F:∀(j:Nat),j≠w->(∀(l:Nat) (hl:l<rs.length),rs[l]≠j)->g j=σ' j:=λj h1 h2=>eW j h1 λe=>by
      obtain⟨l,hl,e'⟩:=aak.1 e
      grind
     have eX:bg c nums (k+4+3*sp) g:=by obtain⟨X,Y,G,E⟩:=I;exact⟨X,Y,G,by grind⟩
     have fc:g A=some (.cells fU):=by grind
     have fg:g w=some (.cells [.lit (.slice none 0 0),.sl 1 (M.map ints) spr,int 0,int 0,int cL,int aW]):=by grind
     have cm:(σ.del c).Le g:=λy x p=>by
      have w1:y≠c:=λe=>by subst e;simp[ab.del]at p
      have w0:σ y=some x:=by simpa[ab.del,w1]using p
      rw[F y (λe=>by grind) (λl hl e=>by grind)]
      exact N y x p
     clear eR eW o aC aE I q4 V N hM eK eN F bB a7 b3;apply rn;simp[J,H,e9];refine cf Tryz.func18 rfl (eh (by omega) hn ⟨by omega,by omega⟩ eX λfr aO h6 b6=>?_)
     apply rn;simp[J];refine cf Tryz.func19 rfl (dM (by omega) hn ⟨by omega,by omega⟩ ⟨by omega,by omega⟩ b6.1 λto c6 h7 b7=>?_)
     have Q:c6 w=some (.cells [.lit (.slice none 0 0),.sl 1 (M.map ints) spr,int 0,int 0,int cL,int aW]):=by rw[b7.2 w K,b6.2 w K];exact fg
     apply rn;simp[J,e1,D,Q,aG];have t4:c6 A=some (.cells fU):=by rw[b7.2 A Z,b6.2 A Z];exact fc
     have cv:(σ.del c).Le c6:=λy x p=>by
      have w1:y≠c:=λe=>by subst e;simp[ab.del]at p
      rw[b7.2 y w1,b6.2 y w1];exact cm y x p
     have fi:∀x,bg c nums (k+6+3*sp) (c6.set w x):=λx=>by obtain⟨n,z,h1,h2⟩:=b7.1;exact⟨n,z,by omega,by rw[ab.ah _ _ (za K)];exact h2⟩
     refine cf Tryz.func18 rfl (eh (by omega) hn ⟨by omega,by omega⟩ (fi _) λq c7 h8 b8=>?_)
     apply rn;simp;have u5:c7 w=some (.cells [.lit (.slice none 0 0),.sl 1 (M.map ints) spr,int fr,int to,int cL,int aW]):=by rw[b8.2 w K,ab.ai]
     have u4:c7 A=some (.cells fU):=by rw[b8.2 A Z,ab.ah _ _ (za S)];exact t4
     have dj:(σ.del c).Le c7:=λy x p=>by
      have w1:y≠c:=λe=>by subst e;simp[ab.del]at p
      have w0:σ y=some x:=by simpa[ab.del,w1]using p
      rw[b8.2 y w1,ab.ah _ _ (λe=>by simp_all)];exact cv y x p
     obtain⟨qn,rfl⟩:∃qn:Nat,q=(qn:Int):=⟨q.toNat,by omega⟩
     have h9:(qn:Int)<=cnt:=by omega
     have dm:=b8.1;clear b6 b7 b8 fi eX fc fg cm cv Q t4
     refine aa.loop qn (λi s=>∃env σ' a es,s=⟨env,σ',[],.no⟩/\env 0=.ref c 0/\env 4=.ref A 0/\env 5=.ref w 0/\env 6=int sp/\env 13=int ((qn:Int)-i)/\bg c nums (k+7+3*sp+11*i) σ'/\σ' A=some (.cells fU)/\σ' w=some (.cells [a,.sl 1 (M.map ints) spr,int fr,int to,int cL,int aW])/\
      Tok (σ.del c) σ' a 6 (es.map bn)/\es.length=i/\(∀e∈es,xY sp e)/\(es=[]->a=.lit (.slice none 0 0))) ⟨_,c7,.lit (.slice none 0 0),[],rfl,by simp[J],by simp[T],by simp[D],by simp[H],by simp,dm.mono (by omega),u4,u5,⟨dj,.inl ⟨rfl,rfl⟩⟩,rfl,by simp,λ_=>rfl⟩ ?_
     clear J e1 T D H e7 e9 dm u4 u5 dj
     rintro c3 i _ ha ⟨env,σ',a,es,rfl,J,T,D,H,b9,c9,q4,V,u,ec,ed,fl⟩ ih
     have L:=u.cells;have bm:∀a8:ab,Tok (σ.del c) a8 a 6 (es.map bn)->∀y l,a8 y=some (.cells l)->bp a≠some y:=λa8 hx y l p e=>by obtain⟨_,_,q⟩:=hx.aR e;grind
     have fp:∃l,σ' c=some (.cells l):=by obtain⟨_,_,_,q⟩:=c9;grind
     rcases aap i qn with g1|g1
     . have f1 : -9223372036854775808<=(qn:Int)-i-1/\(qn:Int)-i-1<=9223372036854775807:=by omega
       apply rn;simp[J,D,H,b9,V,g1];refine⟨?_,?_⟩
       . ((
           refine cf Tryz.func84 rfl (ow (by omega) hn ⟨by omega,by omega⟩ c9 λe r he hd=>?_)
           have s5:r w=some (.cells [a,.sl 1 (M.map ints) spr,int fr,int to,int cL,int aW]):=by rw[hd.2 w K];exact V
           have s4:r A=some (.cells fU):=by rw[hd.2 A Z];exact q4
           have P:Tok (σ.del c) r a 6 (es.map bn):=qv u (by simp[ab.del]) fp hd.2
           apply pg;simp[D,s5,L.1,L.2]))
         ((
           refine aN lay rfl rfl rfl lM rfl lM rfl xN (by decide) (by simp;omega) (σ0:=r.off a) (es:=es.map bn) (xs:=[bn e]) (by simpa using P.here.1) (.inr ⟨_,by simp;rfl⟩) λa' g t=>?_
           have B:=t.cells;have F:∀y l,r y=some (.cells l)->g y=some (.cells l):=λy l p=>t.1 _ _ (by rw[ab.du (bm _ P y l p)];exact p)
           have Q:=F _ _ s5;have t4:=F _ _ s4;apply pg;simp[D,Q,B.1,B.2,aG];apply rn;simp[b9,f1.1,f1.2];obtain⟨X,Y,G,E⟩:=hd.1
           have C:Tok (σ.del c) g a' 6 ((es++[e]).map bn):=by have:=t.base P.here.2;simpa using this
           refine ih _ g1 ⟨_,_,a',es++[e],rfl,by simp[J],by simp[T],by simp[D],by simp[H],by simp;omega,⟨X,Y,by omega,?_⟩,?_,ab.ai _ _ _,C.beside (by simp[ab.del,K,aL]) (λe=>by obtain⟨_,_,q⟩:=C.aR e;rw[Q]at q;cases q),by simp[ec],?_,λe=>by simp at e⟩
           . rw[ab.ah _ _ (za K)];exact F _ _ E
           . rw[ab.ah _ _ (za S)];exact t4
           . intro x hx
             rcases ZQ.1 hx with hx|hx
             . exact ed x hx
             . simp at hx;subst hx;exact he))
       . ((
           refine cf Tryz.func84 rfl (ow (by omega) hn ⟨by omega,by omega⟩ c9 λe r he hd=>?_)
           have s5:r w=some (.cells [a,.sl 1 (M.map ints) spr,int fr,int to,int cL,int aW]):=by rw[hd.2 w K];exact V
           have s4:r A=some (.cells fU):=by rw[hd.2 A Z];exact q4
           have P:Tok (σ.del c) r a 6 (es.map bn):=qv u (by simp[ab.del]) fp hd.2
           apply pg;simp[D,s5,L.1,L.2]))
         refine⟨?_,?_⟩
         . ((
             refine aN lay rfl rfl rfl lM rfl lM rfl xN (by decide) (by simp;omega) (σ0:=r.off a) (es:=es.map bn) (xs:=[bn e]) (by simpa using P.here.1) (.inr ⟨_,by simp;rfl⟩) λa' g t=>?_
             have B:=t.cells;have F:∀y l,r y=some (.cells l)->g y=some (.cells l):=λy l p=>t.1 _ _ (by rw[ab.du (bm _ P y l p)];exact p)
             have Q:=F _ _ s5;have t4:=F _ _ s4;apply pg;simp[D,Q,B.1,B.2,aG];apply rn;simp[b9,f1.1,f1.2];obtain⟨X,Y,G,E⟩:=hd.1
             have C:Tok (σ.del c) g a' 6 ((es++[e]).map bn):=by have:=t.base P.here.2;simpa using this
             refine ih _ g1 ⟨_,_,a',es++[e],rfl,by simp[J],by simp[T],by simp[D],by simp[H],by simp;omega,⟨X,Y,by omega,?_⟩,?_,ab.ai _ _ _,C.beside (by simp[ab.del,K,aL]) (λe=>by obtain⟨_,_,q⟩:=C.aR e;rw[Q]at q;cases q),by simp[ec],?_,λe=>by simp at e⟩
             . rw[ab.ah _ _ (za K)];exact F _ _ E
             . rw[ab.ah _ _ (za S)];exact t4
             . intro x hx
               rcases ZQ.1 hx with hx|hx
               . exact ed x hx
               . simp at hx;subst hx;exact he))
         . ((
             refine aN lay rfl rfl rfl lM rfl lM rfl xN (by decide) (by simp;omega) (σ0:=r.off a) (es:=es.map bn) (xs:=[bn e]) (by simpa using P.here.1) (.inr ⟨_,by simp;rfl⟩) λa' g t=>?_
             have B:=t.cells;have F:∀y l,r y=some (.cells l)->g y=some (.cells l):=λy l p=>t.1 _ _ (by rw[ab.du (bm _ P y l p)];exact p)
             have Q:=F _ _ s5;have t4:=F _ _ s4;apply pg;simp[D,Q,B.1,B.2,aG];apply rn;simp[b9,f1.1,f1.2];obtain⟨X,Y,G,E⟩:=hd.1
             have C:Tok (σ.del c) g a' 6 ((es++[e]).map bn):=by have:=t.base P.here.2;simpa using this
             refine ih _ g1 ⟨_,_,a',es++[e],rfl,by simp[J],by simp[T],by simp[D],by simp[H],by simp;omega,⟨X,Y,by omega,?_⟩,?_,ab.ai _ _ _,C.beside (by simp[ab.del,K,aL]) (λe=>by obtain⟨_,_,q⟩:=C.aR e;rw[Q]at q;cases q),by simp[ec],?_,λe=>by simp at e⟩
             . rw[ab.ah _ _ (za K)];exact F _ _ E
             . rw[ab.ah _ _ (za S)];exact t4
             . intro x hx
               rcases ZQ.1 hx with hx|hx
               . exact ed x hx
               . simp at hx;subst hx;exact he))
     . have gD:i=qn:=by omega
       subst gD;apply rn;simp[T,D,b9,V,L.2,q4,aG];obtain⟨X,Y,G,E⟩:=c9;obtain⟨f,hf⟩:∃f:Fr,f=⟨es,M,fr,to,cL,aW⟩:=⟨_,rfl⟩
       have gG:uf cnt f:=by
        subst hf;refine⟨ei,ea,by grind,⟨lo,fO,by grind⟩,by grind,by grind,by grind,λe he=>?_⟩
        grind
       obtain⟨a2,gH,hh⟩:∃a2,((f.aD=[]->a2=.lit (.slice none 0 0))/\(f.aD≠[]->a2=iZ f.aD))/\a.W a2:=by
        by_cases e:es=[]
        . exact⟨_,⟨λ_=>rfl,λe2=>absurd (by grind) e2⟩,by rw[fl e];exact .refl _⟩
        . exact⟨_,⟨λe2=>absurd (by grind) e,λ_=>rfl⟩,by subst hf;exact u.W⟩
       refine .na (a':=.agg [a2,rows f.roads,int f.aP,int f.dH,int f.cL,int f.aW]) (lR (by grind) λi x y x1 x2=>?_) (.less (σ':=σ.set c (.cells [ints nums,int X,.lit (.int .u64 Y)])) (λy x p=>?_) (.done (h f a2 _ gG ⟨⟨X,Y,by omega,ab.ai _ _ _⟩,λy p=>ab.ah _ _ p⟩ gH)))
       . subst hf
         match i with
         |0=>grind
         |1=>simp at x1 x2;subst x1;subst x2;exact ik 1 _ spr
         |2=>simp at x1 x2;subst x1;subst x2;exact .refl _
         |3=>simp at x1 x2;subst x1;subst x2;exact .refl _
         |4=>simp at x1 x2;subst x1;subst x2;exact .refl _
         |5=>simp at x1 x2;subst x1;subst x2;exact .refl _
         |i+6=>simp at x1
       . by_cases y1:y=c
         . subst y1
           rw[ab.ai]at p;rw[ab.ah _ _ n4,E];exact p
         . rw[ab.ah _ _ y1]at p
           have y4:y≠A:=λe=>by grind
           rw[ab.ah _ _ y4];exact u.1 y x (by simpa[ab.del,y1]using p)
end
end
section
open Go.cC Go.Conc
theorem M8{f}(b:f.Good)  e :bS f e≠[]:=by
 unfold bS ja;have:=b.le;by_cases a:e.jD=0
 . simp[a]
 . have c:(f.dH-f.aP+1).toNat=(f.dH-f.aP).toNat+1:=by omega
   rw[ZS a,c,List.range_succ_eq_map];split<;>simp
def M9(f:Fr)(l:acy):acy:=(bS f (aX f (l.getD 0 0))).filter λh=>l.all λj=>decide (h∈bS f (aX f j))
theorem DH{f l}(b:l≠[]):fX f l=M9 f l:=by
 match l,b with
 | a::r,_=>
   simp only[fX,M9,iH,abK,List.getD_cons_zero];refine aba λx c=>?_
   simp[c,ZT]
section
variable{k:Int->Int}
abbrev DI(k:Int->Int):Int->Int->Bool:=λa b=>decide (k a<k b)
def Dn(k:Int->Int)(r:acy):Prop:=r.Pairwise λy z=>k z<=k y
theorem DJ  x :∀{r},(∀z∈r,k z<=k x)->eM (DI k) x r=x::r
 |[],_=>rfl
 | y::r,h=>by
   unfold eM
   grind
theorem Ah  x :∀{r z},z∈eM (DI k) x r->z=x\/z∈r
 |[],z,h=>by simp[eM]at h;exact .inl h
 | y :: r,z,h=>by
   unfold eM at h;split at h
   . rcases aae.1 h with rfl|h
     . simp_all
     . rcases Ah x h with h|h
       . exact .inl h
       simp_all
   simp_all
theorem vP  x :∀{r},Dn k r->Dn k (eM (DI k) x r)
 |[],_=>by simp[eM,Dn]
 | y ::r,h=>by
   obtain⟨d,b⟩:=aas.1 h;unfold eM;split
   . next q=>
     have c:k x<k y:=by simp_all
     refine aas.2 ⟨λz a=>?_,vP x b⟩;rcases Ah x a with rfl|a
     . omega
     simp_all
   . next q=>
     have c:¬k x<k y:=by simp_all
     refine aas.2 ⟨λz a=>?_,h⟩
     grind
theorem BL{x y r}(h:k x<k y):eM (DI k) x (y::r)=y::eM (DI k) x r:=by simp[eM,DI,h]
theorem BM{x y r}(h:¬k x<k y):eM (DI k) x (y::r)=x::y::r:=by simp[eM,DI,h]
theorem DK  x :∀r:acy,r.Sublist (eM (DI k) x r)
 |[]=>List.nil_sublist _
 | y::r=>by
   unfold eM;split
   . exact(DK x r).cons_cons y
   simp_all
theorem Na  x  {d r}(a:d.Sublist r) (hd:Dn k r):(eM (DI k) x d).Sublist (eM (DI k) x r):=by
 induction a with
 |slnil=>simp_all
 | cons y a b=>
   obtain⟨e,c⟩:=aas.1 hd;by_cases q:k x<k y
   . rw[BL q]
     exact(b c).cons y
   . rw[BM q,DJ x (λz f=>by grind)]
     simp_all
 | cons_cons y a b=>
   obtain⟨e,c⟩:=aas.1 hd;by_cases q:k x<k y
   . rw[BL q,BL q]
     exact(b c).cons_cons y
   . rw[BM q,BM q]
     simp_all
theorem Jq{l' l:acy}(b:l'.Sublist l):∀{a r},a.Sublist r->Dn k r->(l'.foldl (λr x=>eM (DI k) x r) a).Sublist (l.foldl (λr x=>eM (DI k) x r) r):=by
 induction b with
 |slnil=>simp_all
 |cons x b c=>intro a r h hd;exact c (h.trans (DK x r)) (vP x hd)
 |cons_cons x b c=>intro a r h hd;exact c (Na x h hd) (vP x hd)
end
theorem mK  f   l :aY f l=(eV (DI λn=>(aX f n).hour) l).reverse:=by
 unfold aY;congr 2;funext a b;unfold ub BE DI
 grind
theorem BN{f l' l}(a:l'.Sublist l):(aY f l').Sublist (aY f l):=by rw[mK,mK];exact(Jq a (List.Sublist.refl _) List.Pairwise.nil).reverse
theorem sV{f l n}:n∈aY f l↔n∈l:=by unfold aY;rw[List.mem_reverse,ua]
theorem Ru:∀a:Fin 32,∀b:Fin 32,∀c:Fin 32,bL (a.val:Int) (c.val:Int)<=bL (a.val:Int) (b.val:Int)+bL (b.val:Int) (c.val:Int):=by decide +kernel
theorem ln{l}(h:sN none l=0):∃a:Fin 32,bf l=(a.val:Int):=by have:=kg (qu h);exact⟨⟨(bf l).toNat,by omega⟩,by grind⟩
def Fit(f:Fr)(a b:Int):Prop:=gW f a b=false
theorem Fr.Good.ZC{f:Fr}(a:f.Good){i j k}(hi:i<f.roads.length)(hj:j<f.roads.length)(b:k<f.roads.length):rd f.roads i k<=rd f.roads i j+rd f.roads j k:=by
 have h:=a.LH;unfold fS at h;split at h
 . cases h
 split at h
 . cases h
 split at h
 . omega
 split at h
 . cases h
 next q=>
 simp only[aar,ZN,not_exists,not_and]at q;have c:=q i hi k b;unfold dP at c
 grind
theorem iI{f n}(h:0<=n/\n<f.aD.length):aX f n∈f.aD:=by
 have:n.toNat<f.aD.length:=by omega
 rw[sS this]
 simp_all
theorem Ai{f}(d:f.Good){a b c}(q:0<=a/\a<f.aD.length)(hb:0<=b/\b<f.aD.length)(r:0<=c/\c<f.aD.length)(e:Fit f a b)(g:Fit f b c):Fit f a c:=by
 have h:=oR (d.u6 _ (iI q));have l:=oR (d.u6 _ (iI hb));have m:=oR (d.u6 _ (iI r));have hd:=d.cL;obtain⟨A,n⟩:=ln h.2.2.2.2.2;obtain⟨B,o⟩:=ln l.2.2.2.2.2;obtain⟨C,p⟩:=ln m.2.2.2.2.2;have s:=Ru A B C;have t:=h.2.1;have u:=l.2.1;have pc:=m.2.1;have v:=d.ZC (i:=(aX f a).place.toNat) (j:=(aX f b).place.toNat) (k:=(aX f c).place.toNat) (by omega) (by omega) (by omega);unfold Fit gW at e g ⊢;rw[n,o]at e;rw[o,p]at g;rw[n,p];simp only[aam]at e g ⊢;have w:f.cL*bL (A.val:Int) (C.val:Int)<=f.cL*(bL (A.val:Int) (B.val:Int)+bL (B.val:Int) (C.val:Int)):=Int.mul_le_mul_of_nonneg_left s (by omega)
 grind
theorem xZ  f   a b   r :dw f (a::b::r)=(gW f a b||dw f (b::r)):=by
 unfold dw;rw[show(a::b::r).length-1=r.length+1 from rfl,List.range_succ_eq_map,List.any_cons,List.any_map];rfl
theorem ug{f}(e:f.Good):∀{l},(∀n∈l,0<=n/\n<f.aD.length)->dw f l=false->l.Pairwise (Fit f)
 |[],_,_=>List.Pairwise.nil
 |[a],_,_=>List.pairwise_singleton _ _
 | a::b::r,d,h=>by
   rw[xZ,aby]at h;have g:=ug e (λn i=>d n (by simp[i])) h.2;refine aas.2 ⟨λz j=>?_,g⟩;rcases aae.1 j with rfl|c
   . exact h.1
   . exact Ai e (d a (by simp)) (d b (by simp)) (d z (by simp[c])) h.1 ((aas.1 g).1 z c)
theorem qw{f}:∀{l},l.Pairwise (Fit f)->dw f l=false
 |[],_=>rfl
 |[a],_=>rfl
 |a::b::r,h=>by obtain⟨c,d⟩:=aas.1 h;rw[xZ,qw d,Bool.or_false];exact c b (by simp)
theorem qx{f l}(b:l≠[]){h}:h∈fX f l↔∀j∈l,h∈bS f (aX f j):=by
 rw[DH b]
 match l,b with
 | a::r,_=>
   simp only[M9,aaX,ZT,ZL]
   simp_all
theorem pL{f l}:lZ f l=0↔dW f (aY f l)=false/\cS f (aY f l)=false/\dw f (aY f l)=false:=by
 unfold lZ
 grind
theorem Ps{f}(k:f.Good){l' l}(m:l'.Sublist l)(o:l'≠[])(p:∀n∈l,0<=n/\n<f.aD.length)(h:lZ f l=0):lZ f l'=0:=by
 obtain⟨q,d,s⟩:=pL.1 h;have g:=BN (f:=f) m
 have b:aY f l'≠[]:=λe=>by
  cases l' with
  |nil=>grind
  |cons a r=>have:a∈aY f (a::r):=sV.2 (by simp);simp_all
 have c:aY f l≠[]:=λe=>b (by simp_all)
 have t:∀n∈aY f l,0<=n/\n<f.aD.length:=λn u=>p n (sV.1 u)
 generalize aY f l=S at *;refine pL.2 ⟨?_,?_,qw ((ug k t s).sublist g)⟩
 . generalize aY f l'=i at *
   unfold dW at q ⊢
   grind
 . generalize aY f l'=i at *
   unfold cS at d ⊢;simp only[aam]at d ⊢;obtain⟨x,v⟩:=abI _ d;have:x∈fX f i:=(qx b).2 λj w=>(qx c).1 v j (g.subset w)
   grind
theorem Rv{f}(b:f.Good)  n :lZ f [n]=0:=by
 have e:aY f [n]=[n]:=by simp[aY,eV,eM]
 refine pL.2 ?_;rw[e];refine⟨by simp[dW],?_,rfl⟩;unfold cS;simp only[aam];obtain⟨x,c⟩:=abI _ (M8 b (aX f n));exact abi ((qx (by simp)).2 (λj a=>by simp at a;subst a;exact c))
theorem Hf{α β:Type}{B}{g:α->List β}:∀(l:List α),(∀x∈l,(g x).length<=B)->(l.flatMap g).length<=l.length*B
 |[],_=>by simp
 | a::l,h=>by
   rw[abp,ZU,aao,abb,Nat.one_mul];have c:=h a (by simp);have d:=Hf l λx b=>h x (by simp[b])
   omega
theorem DL{f}(a:f.Good)  begun :∀  fuel   cT   many   b ,(fT f begun fuel cT many b).length<=6 ^ fuel
 |0,_,_,_=>by simp[fT]
 | fuel+1,cT,many,b=>by
   unfold fT;refine ZV (Hf (B:=6 ^ fuel) _ λk _=>?_) ?_
   . split
     . simp
     split
     . exact DL a begun fuel _ _ _
     . simp
   . rw[abr,Nat.pow_succ,Nat.mul_comm]
     have:=a.aW;exact Nat.mul_le_mul_left _ (by omega)
theorem BO{f}(a:f.Good)  begun :(aI f begun).length<=46656:=by refine ZV (DL a begun _ _ _ _) ?_;exact Nat.pow_le_pow_right (by omega) a.tZ
theorem mL  f   begun :∀  fuel   cT   many   a ,begun.length<=cT.length->fT f begun fuel cT many a=fT f [] fuel cT many a
 |0,_,_,_,_=>rfl
 | fuel+1,cT,many,a,h=>by
   unfold fT;congr 1;funext k;have b:¬(cT.length<begun.length/\begun.getD cT.length 0≠(k:Int)):=by omega
   have c:¬(cT.length<([]:acy).length/\([]:acy).getD cT.length 0≠(k:Int)):=by simp
   rw[ZM b,ZM c];split
   . exact mL f begun fuel _ _ _ (by simp;omega)
   . rfl
theorem FU{f}(b:f.Good)(e:2<=f.aD.length):aI f []=aI f [0,0]++aI f [0,1]:=by
 obtain⟨n,c⟩:∃n,f.aD.length=n+2:=⟨f.aD.length-2,by omega⟩;have g:=b.aW;have d:(min ((0:Int)+1) f.aW).toNat=1:=by omega
 unfold aI;rw[c];unfold fT;rw[d];simp only[aai,abS,abC,abp,List.flatMap_nil,aay];simp;by_cases a:jG f (bR 0 0)=true
 . simp only[a,ZR]
   unfold fT;have e2:(min (max (0:Int) 1+1) f.aW).toNat=1\/(min (max (0:Int) 1+1) f.aW).toNat=2:=by omega
   rcases e2 with e2|e2
   . rw[e2]
     simp only[aai,abS,abC,abp,List.flatMap_nil,aay];simp;rw[mL f [0,0] n [0,0] _ _ (by simp)]
   . rw[e2]
     simp only[aai,abS,abC];simp;rw[mL f [0,0] n [0,0] _ _ (by simp),mL f [0,1] n [0,1] _ _ (by simp)]
 . simp[a]
theorem Nb{f}(a:f.Good)(d:f.aD.length<2):aI f []≠[]:=by
 have e:=a.aW;have b:(min ((0:Int)+1) f.aW).toNat=1:=by omega
 have c:jG f (bR 0 0)=true:=by
  have:aA (bR 0 0)=[0]:=by decide +kernel
  unfold jG;rw[this,ZL];exact Rv a 0
 rcases(show f.aD.length=0\/f.aD.length=1 by omega)with hn|hn
 . unfold aI;rw[hn];simp[fT]
 . unfold aI;rw[hn]
   unfold fT;rw[b];simp only[aai,abS,abC,abp,List.flatMap_nil,aay];simp[c,fT]
theorem FV{f}(a:f.Good)(b:2<=f.aD.length):gJ f=((aI f []).length:Int):=by
 unfold gJ;rw[ZM (by omega),FU a b,ZU];omega
theorem Aj{f}(a:f.Good):0<gJ f↔aI f []≠[]:=by
 by_cases b:2<=f.aD.length
 . rw[FV a b]
   cases aI f []<;>simp
 . have:=Nb a (by omega)
   have e:gJ f=1:=by unfold gJ;omega
   simp_all
theorem ya{β:Type}{G:Nat->List β}{c}:∀d ,(∀j,c<=j->j<c+d->G j=[])->(List.range (c+d)).flatMap G=(List.range c).flatMap G
 |0,_=>rfl
 | d+1,h=>by
   rw[<-Nat.add_assoc,aai,abe,ya d λj a b=>h j a (by omega)]
   simp_all
theorem Ak{α β:Type}{f g:α->List β}{l:List α}(h:∀x∈l,f x=g x):l.flatMap f=l.flatMap g:=by rw[List.flatMap_def,List.flatMap_def,List.map_congr_left h]
def bo(w:acy)(k:Int):acy:=(w.zipIdx.filter λp=>decide (p.1=k)).map λp=>(p.2:Int)
def Hg(l:acy):aca:=(List.range (bE l+1).toNat).map λk:Nat=>l++[(k:Int)]
def jO:Nat->aca
 |0=>[[]]
 |i+1=>(jO i).flatMap Hg
def yb:Nat->acy->aca
 |0,l=>[l]
 |n+1,l=>(List.range (bE l+1).toNat).flatMap λk:Nat=>yb n (l++[(k:Int)])
def qS(f:Fr)(l:acy):Bool:=decide (bE l<=f.aW) && (List.range (bE l).toNat).all λk:Nat=>decide (lZ f (bo l k)=0)
theorem eP  w   x k :bo (w++[x]) k=bo w k++if x=k then[(w.length:Int)]else[]:=by
 unfold bo
 grind
theorem DN  w t   k :(bo w k).Sublist (bo (w++t) k):=by
 unfold bo
 grind
theorem c8{w k n}(h:n∈bo w k):0<=n/\n<w.length/\w.getD n.toNat 0=k:=by
 unfold bo at h
 grind
theorem cA  w   x :bE (w++[x])=max (bE w) (x+1):=by
 unfold bE
 simp_all
theorem qT(t:acy):∀n ,n<=t.foldl (λn k=>max n (k+1)) n:=by
 induction t with
 |nil=>simp_all
 |cons a t b=>grind
theorem jA  w t :bE w<=bE (w++t):=by unfold bE;rw[aaE];exact qT t _
theorem pM  w :0<=bE w:=qT w 0
theorem yc:∀  n   w l ,l∈yb n w->∃t,l=w++t/\t.length=n
 |0,w,l,h=>by simp[yb]at h;simp_all
 | n+1,w,l,h=>by
   unfold yb at h;obtain⟨k,_,a⟩:=abc.1 h;obtain⟨t,b,c⟩:=yc n _ l a
   simp_all
theorem Al:∀n m ,(jO m).flatMap (yb n)=jO (m+n)
 | 0,m=>by
   have:yb 0=λl=>[l]:=by funext l;rfl
   simp_all
 | n+1,m=>by
   have e:∀l,yb (n+1) l=(Hg l).flatMap (yb n):=λl=>by unfold Hg;rw[List.flatMap_map];rfl
   rw[show m+(n+1)=m+1+n by omega,<-Al n (m+1),jO,List.flatMap_assoc]
   exact Ak λl _=>e l
theorem Nc:∀x:Fin 64,∀n:Fin 6,(∀e∈aA (x.val:Int),e<(n.val:Int))->aA (bR (x.val:Int) (n.val:Int))=aA (x.val:Int)++[(n.val:Int)]:=by decide +kernel
theorem Jr{x}{n:Nat}(b:0<=x/\x<64)(a:n<6)(h:∀e∈aA x,e<n):aA (bR x n)=aA x++[(n:Int)]:=by
 have c:(x.toNat:Int)=x:=by omega
 have:=Nc ⟨x.toNat,by omega⟩ ⟨n,a⟩
 simp_all
theorem Nd{f}(b:f.Good){w t}{k:Nat}(hlen:(w++t).length=f.aD.length)(e:(k:Int)<bE w)(a:bo w k≠[])(h:qS f (w++t)=true):lZ f (bo w k)=0:=by
 unfold qS at h;rw[zj,ZT]at h;have g:=jA w t;have c:=h.2 k (ZN.2 (by omega));refine Ps b (DN w t k) a (λn d=>?_) (abu c);have:=c8 d;omega
theorem yd{f}(p:f.Good):∀  fuel   cT b ,cT.length+fuel=f.aD.length->Hs f cT.length b->(∀k ,k<6->aA (b.getD k 0)=bo cT k)->bE cT<=f.aW->(∀k:Nat,(k:Int)<bE cT->lZ f (bo cT k)=0) ->
 fT f [] fuel cT (bE cT) b=(yb fuel cT).filter (qS f)
 | 0,cT,b,_,_,_,v,w=>by
   have:qS f cT=true:=by
    unfold qS
    grind
   simp[fT,yb,this]
 | fuel+1,cT,b,B,q,hb,v,w=>by
   have r:=p.aW;have C:=p.tZ;have x:=pM cT;rw[rB];unfold yb;rw[List.filter_flatMap];obtain⟨d,hd⟩:∃d,(bE cT+1).toNat=(min (bE cT+1) f.aW).toNat+d:=⟨(bE cT+1).toNat-(min (bE cT+1) f.aW).toNat,by omega⟩
   rw[hd,ya d λj D E=>?_]
   . refine Ak λk u=>?_
     have u:=ZN.1 u;have h:k<6:=by omega
     have c:k<b.length:=by rw[q.tZ];exact h
     have i:b.getD k 0=b[k]:=by simp_all
     have m:cT.length<6:=by omega
     have n:aA (bR b[k] cT.length)=bo (cT++[(k:Int)]) k:=by rw[Jr (q.small _ (zA c)) m (q.bits _ (zA c)),<-i,hb k h,eP,ZS rfl]
     unfold oT;rw[ZM (by simp),i]
     by_cases o:jG f (bR b[k] cT.length)=true
     . rw [ZS o,<-cA]
       unfold jG at o;rw[ZL,n]at o;have y:=q.set m c;refine yd p fuel _ _ (by simp;omega) (by simp_all) (λj s=>?_) (by rw[cA];omega) λj s=>?_
       . by_cases e:j=k
         . simp_all
         . rw[zG,aaF (za e),<-List.getD_eq_getElem?_getD,hb j s,eP,ZM (by omega),aay]
       . by_cases e:j=k
         . simp_all
         . rw[cA]at s
           rw[eP,ZM (by omega),aay]
           grind
     . rw[ZM o]
       symm;rw[abQ];intro l g a;obtain⟨t,rfl,z⟩:=yc _ _ _ g;refine o ?_;unfold jG;rw[ZL,n];refine Nd p (by simp;omega) (by rw[cA];omega) ?_ a
       rw[eP,ZS rfl];simp
   . rw[abQ]
     intro l g a;obtain⟨t,rfl,z⟩:=yc _ _ _ g;unfold qS at a;rw[zj,ZL]at a;have A:=jA (cT++[(j:Int)]) t;rw[cA]at A;omega
theorem rC{f}(d:f.Good):(jO f.aD.length).filter (qS f)=aI f []:=by
 have n:=d.aW;have i:bE []=0:=rfl;have j:aA 0=[]:=by decide +kernel
 have l:∀x∈([0,0,0,0,0,0]:acy),x=0:=λx g=>by simp_all
 have m:Hs f ([]:acy).length [0,0,0,0,0,0]:=⟨rfl,λx g e o=>by simp_all,λx g=>by simp_all⟩
 have c:∀k:Nat,k<6->aA (([0,0,0,0,0,0]:acy).getD k 0)=bo [] k:=λk h=>by
  have:([0,0,0,0,0,0]:acy).getD k 0=0:=by
   match k,h with
   |0,_=>rfl
   |1,_=>rfl
   |2,_=>rfl
   |3,_=>rfl
   |4,_=>rfl
   |5,_=>rfl
  rw[this,j];rfl
 have a:=yd d f.aD.length [] [0,0,0,0,0,0] (by simp) m c (by omega) (λk h=>by omega);rw[i]at a;have b:=Al f.aD.length 0;rw[aaW]at b;unfold aI;rw[a,<-b];simp[jO]
theorem qy:∀  i ,∀l∈jO i,l.length=i/\(∀x∈l,0<=x/\x<i)/\bE l<=i
 |0,l,h=>by simp[jO]at h;subst h;exact⟨rfl,by simp,by decide⟩
 | i+1,l,h=>by
   unfold jO at h;obtain⟨p,c,a⟩:=abc.1 h;obtain⟨d,e,f⟩:=qy i p c;unfold Hg at a;obtain⟨k,b,rfl⟩:=aad.1 a;have b:=ZN.1 b;have:=pM p;refine⟨by simp[d],λx g=>?_,by rw[cA];omega⟩
   grind
theorem DO{k}:∀(l r:acy),(∀z∈r,∀x∈l,k z<=k x)->l.Pairwise (λa b=>k a<=k b)->l.foldl (λr x=>eM (DI k) x r) r=l.reverse++r
 |[],r,_,_=>rfl
 | a::l,r,d,e=>by
   obtain⟨g,f⟩:=aas.1 e;rw[aaB,DJ a (λz c=>d z c a (by simp)),DO l (a::r) (λz c x h=>?_) f,List.reverse_cons,aaV]
   . rfl
   grind
theorem DQ{f l}(h:l.Pairwise λa b=>(aX f a).hour<=(aX f b).hour):aY f l=l:=by
 rw[mK];unfold eV;rw[DO l [] (by simp) h];simp
theorem pN  k :∀(w:acy)  n ,(((w.zipIdx n).filter λp=>decide (p.1=k)).map λp=>(p.2:Int)).Pairwise (·<·)/\∀x∈(((w.zipIdx n).filter λp=>decide (p.1=k)).map λp=>(p.2:Int)),(n:Int)<=x
 |[],n=>by simp
 | a ::w,n=>by
   have b:=pN k w (n+1);rw[List.zipIdx_cons,List.filter_cons];split
   . rw[abK]
     refine⟨aas.2 ⟨λx c=>?_,b.1⟩,λx c=>?_⟩
     . grind
     grind
   grind
theorem fM{w k}{i:Nat}(hi:i<w.length)(h:w.getD i 0=k):(i:Int)∈bo w k:=by
 unfold bo;refine aad.2 ⟨(w[i],i),aaX.2 ⟨?_,?_⟩,rfl⟩
 . grind
 simp_all
def uh:acy->acy->acy->acy × List Int
 |[],w,s=>(w,s)
 |h::l,w,s=>if h∈s then uh l (w++[(s.idxOf h:Int)]) s else uh l (w++[(s.length:Int)]) (s++[h])
structure Canon(p w s:acy):Prop where
 len:w.length=p.length
 many:bE w=s.length
 nd:s.Nodup
 sub:∀x∈s,x∈p
 ye:∀k ,(hk:k<s.length)->bo w k=bo p s[k]
 part:w∈jO p.length
theorem Canon.all{p w s}(h:Canon p w s):∀x∈p,x∈s:=λx c=>by
 obtain⟨i,d,rfl⟩:=aak.1 c;have f:=(qy _ _ h.part).2.1;have a:i<w.length:=by rw[h.len];exact d
 have g:w[i]<bE w:=by
  have e:w=w.take i++(w[i]::w.drop (i+1)):=by simp_all
  have:bE (w.take i++[w[i]])<=bE w:=by
   have:=jA (w.take i++[w[i]]) (w.drop (i+1))
   grind
  rw[cA]at this;omega
 have k:=f _ (zA a);rw[h.many]at g;have j:w[i].toNat<s.length:=by omega
 have b:(i:Int)∈bo w (w[i].toNat:Int):=fM a (by grind);rw[h.ye _ j]at b;have:=(c8 b).2.2
 simp_all
theorem DR{s:acy}{h}(a:h∈s):∃b ,s[s.idxOf h]=h:=⟨List.idxOf_lt_length_iff.2 a,List.getElem_idxOf (List.idxOf_lt_length_iff.2 a)⟩
theorem Nf{s:acy}(a:s.Nodup){i j hi}{hj:j<s.length}(e:s[i]=s[j]):i=j:=by
 rw[List.Nodup,List.pairwise_iff_getElem]at a
 grind
theorem ui:∀  l p w s ,Canon p w s->Canon (p++l) (uh l w s).1 (uh l w s).2
 |[],p,w,s,h=>by simpa[uh]using h
 | a :: l, p,w,s,h=>by
   have hlen:=h.len;rw[show p++a::l=(p++[a])++l by simp];unfold uh;split
   . next f=>
     obtain⟨i,t⟩:=DR f;refine ui l _ _ _ ⟨by simp[hlen],?_,h.nd,λx hx=>by simp[h.sub x hx],λk c=>?_,?_⟩
     . rw[cA,h.many];omega
     . rw[eP,eP,h.ye k c,hlen]
       by_cases e:k=s.idxOf a
       . simp_all
       . rw[ZM (by omega),ZM (λj=>e (Nf h.nd (hi:=c) (hj:=i) (by omega)))]
     . rw[ZU,aaO,jO,abc]
       exact⟨w,h.part,aad.2 ⟨_,ZN.2 (by rw[h.many];omega),rfl⟩⟩
   . next f=>
     refine ui l _ _ _ ⟨by simp[hlen],?_,?_,λx hx=>?_,λk c=>?_,?_⟩
     . rw[cA,h.many,ZU];simp;omega
     . rw[abJ]
       exact⟨h.nd,by simp,λx hx y u=>by grind⟩
     . rcases ZQ.1 hx with hx|hx
       . simp[h.sub x hx]
       simp_all
     . rw [eP,eP,hlen]
       rw[ZU,aaO]at c;by_cases e:k=s.length
       . subst e
         rw[ZS rfl];have m:(s++[a])[s.length]=a:=by simp
         rw[m,ZS rfl];congr 1
         have n:bo w (s.length:Int)=[]:=by
          rw[List.eq_nil_iff_forall_not_mem];intro x hx;obtain⟨o,q,g⟩:=c8 hx;have b:x.toNat<w.length:=by omega
          rw[zG,KD b,aaD]at g;have e:w=w.take x.toNat++(w[x.toNat]::w.drop (x.toNat+1)):=by rw[<-List.drop_eq_getElem_cons b,List.take_append_drop]
          have:=jA (w.take x.toNat++[w[x.toNat]]) (w.drop (x.toNat+1));rw[aaV,abU,<-e,cA,h.many]at this;omega
         have r:bo p a=[]:=by
          rw[List.eq_nil_iff_forall_not_mem];intro x hx;obtain⟨o,q,g⟩:=c8 hx;have b:x.toNat<p.length:=by omega
          rw[zG,KD b,aaD]at g;exact f (g ▸ h.all _ (zA b))
         rw[n,r]
       . have d:k<s.length:=by omega
         rw[ZM (by omega),List.getElem_append_left d,ZM (λj=>f (by simp_all)),h.ye k d]
     . rw[ZU,aaO,jO,abc]
       exact⟨w,h.part,aad.2 ⟨_,ZN.2 (by rw[h.many];omega),rfl⟩⟩
theorem DT  p :∃w s,Canon p w s:=⟨_,_,by
 have:=ui p [] [] [] ⟨rfl,rfl,abH,by simp,λk a=>by simp at a,by simp[jO]⟩;simpa using this⟩
theorem uj:∀(m:Nat) (s:acy),s.Nodup->(∀x∈s,0<=x/\x<m)->s.length<=m
 | 0,s,_,h=>by
   cases s with
   |nil=>simp_all
   |cons a s=>have:=h a (by simp);omega
 | m+1,s,b,h=>by
   have c:=uj m (s.erase (m:Int)) (b.erase _) λx d=>by grind
   grind
abbrev rD:xO:=⟨0,0,0,[],0,0⟩
def Ng(f:Fr)(a b:xO):Prop:=rd f.roads a.place.toNat b.place.toNat+f.cL*bL (bf a.marks) (bf b.marks)<=b.hour-a.hour
structure Seen(f0:Fr)(aW:Nat)(C H:acy)(ks:acy)(es last:List xO):Prop where
 len:ks.length=es.length
 SE:∀x∈ks,0<=x/\x<aW
 u6:∀e∈es,cH f0.roads.length e=0
 cR:∀i,i<es.length->(es.getD i rD).cR=C.getD (ks.getD i 0).toNat 0
 SF:∀i,i<es.length->H.getD (ks.getD i 0).toNat 0∈bS f0 (es.getD i rD)
 fit:∀i j,i<j->j<es.length->ks.getD i 0=ks.getD j 0->(∀m,i<m->m<j->ks.getD m 0≠ks.getD i 0)->Ng f0 (es.getD i rD) (es.getD j rD)
 Wv:∀i,i<es.length->(∀m,i<m->m<es.length->ks.getD m 0≠ks.getD i 0)->last.getD (ks.getD i 0).toNat rD=es.getD i rD
 Hh:∀k,k<aW->(last.getD k rD).cR=C.getD k 0
 Rw:last.length=aW
theorem SG{α:Type}  l  (x d:α)  i :(l++[x]).getD i d=if i<l.length then l.getD i d else if i=l.length then x else d:=by grind
theorem Seen.push{f0 aW C H ks es last}(h:Seen f0 aW C H ks es last){k n}(v:k<aW)(A:cH f0.roads.length n=0)(s:n.cR=(last.getD k rD).cR)(B:H.getD k 0∈bS f0 n)(D:(k:Int)∈ks->Ng f0 (last.getD k rD) n):
 Seen f0 aW C H (ks++[(k:Int)]) (es++[n]) (last.set k n):=by
 have hlen:=h.len;have w:=h.Rw;have d:∀i,i<es.length->(es++[n]).getD i rD=es.getD i rD:=λi a=>by grind
 have y:(es++[n]).getD es.length rD=n:=by simp_all
 have c:∀i,i<es.length->(ks++[(k:Int)]).getD i 0=ks.getD i 0:=λi a=>by grind
 have l:(ks++[(k:Int)]).getD es.length 0=(k:Int):=by simp_all
 have o:∀i,i<es.length->0<=ks.getD i 0/\ks.getD i 0<aW:=λi a=>by
  have f:i<ks.length:=by omega
  rw[zG,KD f];exact h.SE _ (zA f)
 refine⟨by simp[hlen],λx hx=>?_,λe he=>?_,λi a=>?_,λi a=>?_,λi j p g he q=>?_,λi a q=>?_,λj g=>?_,by simp_all⟩
 . rcases ZQ.1 hx with hx|hx
   . exact h.SE x hx
   simp_all
 . rcases ZQ.1 he with he|he
   . exact h.u6 e he
   simp_all
 . rw[ZU,aaO]at a
   by_cases e:i=es.length
   . subst e;rw[y,l,s,abo];exact h.Hh k v
   . rw[d i (by omega),c i (by omega)];exact h.cR i (by omega)
 . rw[ZU,aaO]at a
   by_cases e:i=es.length
   . simp_all
   . rw[d i (by omega),c i (by omega)];exact h.SF i (by omega)
 . rw [ZU,aaO]at g
   have a:i<es.length:=by omega
   by_cases e:j=es.length
   . subst e
     rw[c i a,l]at he;have z:=h.Wv i a λm t u=>by simp_all
     rw[he,abo]at z
     grind
   . rw[c i a,c j (by omega)]at he
     rw[d i a,d j (by omega)];refine h.fit i j p (by omega) he λm t u=>?_
     grind
 . rw[ZU,aaO]at a q
   by_cases e:i=es.length
   . simp_all
   . have b:i<es.length:=by omega
     have r:=q es.length b (by omega);rw[l,c i b]at r;have E:=o i b;rw[d i b,c i b,zG,aaF (by omega),<-List.getD_eq_getElem?_getD];refine h.Wv i b λm t u=>?_
     grind
 . by_cases e:j=k
   . subst e
     rw[zG,aaM (by omega),aaD,s];exact h.Hh j g
   . rw[zG,aaF (za e),<-List.getD_eq_getElem?_getD]
     exact h.Hh j g
section
variable{f:Fr}{aW:Nat}{C H ks:acy}{last:List xO}
theorem UY(a:f.Good){i j}(hi:i<f.roads.length)(hj:j<f.roads.length):0<=rd f.roads i j:=by
 obtain⟨c,d⟩:=a.row hi;have b:j<f.roads[i].length:=by omega
 unfold rd
 simp_all
theorem Nh(c:f.Good){a b:Int}(d:0<=a/\a<f.aD.length)(hb:0<=b/\b<f.aD.length)(h:Fit f a b):(aX f a).hour<=(aX f b).hour:=by
 have e:=oR (c.u6 _ (iI d));have g:=oR (c.u6 _ (iI hb));have hd:=c.cL;have l:=UY c (i:=(aX f a).place.toNat) (j:=(aX f b).place.toNat) (by omega) (by omega);have k:=(Hc (kg (qu e.2.2.2.2.2)) (kg (qu g.2.2.2.2.2))).2.1;have m:=Int.mul_nonneg (show 0<=f.cL by omega) k;unfold Fit gW at h
 grind
theorem Seen.pair(h:Seen f aW C H ks f.aD last)(b:f.Good):∀  d i j ,j-i<=d->i<j->j<f.aD.length->ks.getD i 0=ks.getD j 0->Fit f i j
 |0,i,j,hd,a,_,_=>by omega
 | d + 1,i,j,hd,a,k,l=>by
   by_cases q:∃m,i<m/\m<j/\ks.getD m 0=ks.getD i 0
   . obtain⟨m,c,e,g⟩:=q
     have n:=h.pair b d i m (by omega) c (by omega) g.symm;have o:=h.pair b d m j (by omega) e k (by omega);exact Ai b (by omega) (by omega) (by omega) n o
   . have:=h.fit i j a k l λm c e g=>q ⟨m,c,e,g⟩
     unfold Ng at this;unfold Fit gW;rw[show aX f (i:Int)=f.aD.getD i rD from rfl,show aX f (j:Int)=f.aD.getD j rD from rfl]
     simp_all
theorem Seen.one(h:Seen f aW C H ks f.aD last)(m:f.Good){k}(l:bo ks k≠[]):lZ f (bo ks k)=0:=by
 have c:∀n∈bo ks k,0<=n/\n<f.aD.length/\ks.getD n.toNat 0=k:=λn e=>by have:=c8 e;rw[h.len]at this;exact this
 have d:(bo ks k).Pairwise (Fit f):=by
  refine((pN k ks 0).1).imp_of_mem λ{a b} i hb g=>?_
  have j:=c a i;have p:=c b hb;have:=h.pair m (b.toNat-a.toNat) a.toNat b.toNat (ZX _) (by omega) (by omega) (by omega)
  grind
 have o:aY f (bo ks k)=bo ks k:=DQ (d.imp_of_mem λ{a b} i hb g=>Nh m ⟨(c a i).1,(c a i).2.1⟩ ⟨(c b hb).1,(c b hb).2.1⟩ g);refine pL.2 ?_;rw[o];refine⟨?_,?_,qw d⟩
 . have q:∀n∈bo ks k,(aX f n).cR=C.getD k.toNat 0:=λn e=>by
    have j:=c n e;have:=h.cR n.toNat (by omega);rw[j.2.2]at this;exact this
   unfold dW
   grind
 . unfold cS
   simp only[aam]
   have:H.getD k.toNat 0∈fX f (bo ks k):=(qx l).2 λn e=>by
    have j:=c n e;have:=h.SF n.toNat (by omega);rw[j.2.2]at this;exact this
   grind
theorem Seen.cT(h:Seen f aW C H ks f.aD last)(c:f.Good)(l:(aW:Int)<=f.aW):∃w s,Canon ks w s/\w∈aI f []:=by
 obtain⟨w,s,a⟩:=DT ks;refine⟨w,s,a,?_⟩;rw[<-rC c,aaX,<-h.len];refine⟨a.part,?_⟩;unfold qS;rw[zj,ZT,a.many];have m:=uj aW s a.nd λx g=>h.SE x (a.sub x g)
 refine⟨decide_eq_true (by omega),λk d=>?_⟩;have d:=ZN.1 d;have b:k<s.length:=by omega
 rw[ZL,a.ye k b];refine h.one c ?_;obtain⟨i,j,e⟩:=aak.1 (a.sub _ (zA b));exact abi (fM j (by simp_all))
end
theorem Fr.Good.Cq{f}(h:f.Good):check f=0:=by
 have c:=h.fr;have d:=h.to;have e:=h.le;have g:=h.cL;have i:=h.aW;have j:=h.tZ;have a:(bu f.aP 0 3 && bu f.dH 0 3)=true:=by simp[bu];omega
 have b:(bu f.cL 1 6 && bu f.aW 1 6)=true:=by simp[bu];omega
 unfold Go.Proofs.YtkcceaplmgdnfaaGreatDoor.check;rw[ZM (by simp[h.LH]),a,ZM (by simp),ZM (by omega),b,ZM (by simp),ZM (by omega)]
 exact oy h.u6
section
variable{L:aca}{n:Nat}
theorem yf{p w s}(h:Canon p w s){i j}(hi:i<p.length)(hj:j<p.length)(e:p.getD i 0=p.getD j 0):lQ i j w=true:=by
 have d:i<w.length:=by rw[h.len];exact hi
 have f:j<w.length:=by rw[h.len];exact hj
 have g:p.getD i 0=p[i]:=by simp_all
 have k:p.getD i 0∈s:=h.all _ (by simp_all)
 obtain⟨l,m⟩:=DR k;have a:=h.ye _ l;rw[m]at a;have n:(i:Int)∈bo w ((s.idxOf (p.getD i 0):Nat):Int):=by rw[a];exact fM hi rfl
 have o:(j:Int)∈bo w ((s.idxOf (p.getD i 0):Nat):Int):=by rw[a];exact fM hj e.symm
 have b:=(c8 n).2.2;have c:=(c8 o).2.2;rw[abo]at b c;simp only[lQ,ZL,abo,b,c]
end
theorem Am  lt   x :∀r ,(eM lt x r).Perm (x::r)
 |[]=>List.Perm.refl _
 | y::r=>by
   unfold eM;split
   . exact((Am lt x r).cons y).trans (List.Perm.swap x y r)
   simp_all
theorem FW  lt   l :(eV lt l).Perm l:=by
 have key:∀(l r:acy),(l.foldl (λr x=>eM lt x r) r).Perm (l++r):=by
  intro l;induction l with
  |nil=>simp_all
  | cons a l b=>
    intro r;rw[aaB];refine(b _).trans (((Am lt a r).append_left l).trans ?_)
    simp_all
 simpa[eV]using key l []
theorem y7  f   l :(aY f l).Perm l:=(List.reverse_perm _).trans (FW _ _)
theorem DU  f   l :(aY f l).Pairwise λa b=>(aX f a).hour<=(aX f b).hour:=by
 rw[mK,List.pairwise_reverse]
 have key:∀(l r:acy),Dn (λn=>(aX f n).hour) r->Dn (λn=>(aX f n).hour) (l.foldl (λr x=>eM (DI λn=>(aX f n).hour) x r) r):=by
  intro l;induction l with
  |nil=>simp_all
  |cons a l c=>intro r h;exact c _ (vP a h)
 exact key l [] List.Pairwise.nil
theorem u'{R}:∀{l:acy},l.Pairwise R->∀a∈l,∀b∈l,a≠b->R a b\/R b a
 |[],_,a,d,_,_,_=>by cases d
 | c ::l,h,a,d,b,hb,e=>by
   obtain⟨j,i⟩:=aas.1 h;rcases aae.1 d with rfl|f
   . grind
   . rcases aae.1 hb with rfl|g
     . simp_all
     . exact u' i a f b g e
theorem Pt:∀a:Fin 32,∀b:Fin 32,bL (a.val:Int) (b.val:Int)=bL (b.val:Int) (a.val:Int):=by decide +kernel
theorem Fr.Good.symm{f:Fr}(a:f.Good){i j}(hi:i<f.roads.length)(hj:j<f.roads.length):rd f.roads i j=rd f.roads j i:=by
 have h:=a.LH;unfold fS at h;split at h
 . cases h
 split at h
 . cases h
 split at h
 . omega
 split at h
 . cases h
 next q=>
 simp only[aar,ZN,not_exists,not_and]at q;have b:=q i hi j hj;unfold dP at b
 simp_all
theorem Pu:∀a:Fin 32,bL (a.val:Int) (a.val:Int)=0:=by decide +kernel
theorem Ni{f}(a:f.Good){x}(b:0<=x/\x<f.aD.length):gW f x x=false:=by
 have e:=oR (a.u6 _ (iI b));obtain⟨A,c⟩:=ln e.2.2.2.2.2;have p:=e.2.1
 have d:rd f.roads (aX f x).place.toNat (aX f x).place.toNat=0:=by
  have h:=a.LH;unfold fS at h;split at h
  . cases h
  split at h
  . cases h
  split at h
  . omega
  split at h
  . cases h
  next q=>
  simp only[aar,ZN,not_exists,not_and]at q;have g:=q (aX f x).place.toNat (by omega) (aX f x).place.toNat (by omega);unfold dP at g
  simp_all
 unfold gW;rw[c,Pu,d];simp
theorem Nj{f}(c:f.Good){a b}(g:0<=a/\a<f.aD.length)(hb:0<=b/\b<f.aD.length)(k:(aX f a).hour<=(aX f b).hour)(h:Fit f b a):Fit f a b:=by
 have d:=oR (c.u6 _ (iI g));have e:=oR (c.u6 _ (iI hb));have hd:=c.cL;obtain⟨A,l⟩:=ln d.2.2.2.2.2;obtain⟨B,m⟩:=ln e.2.2.2.2.2;have n:=d.2.1;have o:=e.2.1;have p:=Pt A B;have q:=c.symm (i:=(aX f a).place.toNat) (j:=(aX f b).place.toNat) (by omega) (by omega);unfold Fit gW at h ⊢
 grind
structure Rx  f  (l:acy):Prop where
 cR:∀a∈l,∀b∈l,(aX f a).cR=(aX f b).cR
 SF:∃h,∀j∈l,h∈bS f (aX f j)
 fit:∀a∈l,∀b∈l,a≠b->Fit f a b\/Fit f b a
theorem Hi{f}(u:f.Good){l}(y:l≠[])(o:l.Nodup)(p:∀n∈l,0<=n/\n<f.aD.length):lZ f l=0↔Rx f l:=by
 have v:=y7 f l;have c:∀n,n∈aY f l↔n∈l:=λn=>v.mem_iff
 have r:=DU f l;have m:(aY f l).Nodup:=v.nodup_iff.2 o;have g:aY f l≠[]:=λe=>by simp_all
 rw[pL];generalize aY f l=S at *;have z:S.getD 0 0∈S:=by grind
 constructor
 . rintro⟨w,s,A⟩
   unfold dW at w;rw[aaZ]at w;have B:∀x∈S,(aX f x).cR=(aX f (S.getD 0 0)).cR:=λx k=>by simp_all
   refine⟨λa i b hb=>by simp_all,?_,λa i b hb d=>u' (ug u (λn C=>p n ((c n).1 C)) A) a ((c a).2 i) b ((c b).2 hb) d⟩;unfold cS at s;simp only[aam]at s;obtain⟨x,k⟩:=abI _ s;exact⟨x,λj t=>(qx g).1 k j ((c j).2 t)⟩
 . intro h
   refine⟨?_,?_,qw ?_⟩
   . unfold dW
     rw[aaZ];intro x k;rw[h.cR x ((c x).1 k) _ ((c _).1 z)];simp
   . unfold cS
     simp only[aam];obtain⟨x,k⟩:=h.SF;have:x∈fX f S:=(qx g).2 λj t=>k j ((c j).1 t)
     grind
   . refine(r.and m).imp_of_mem λ{a b} i hb d=>?_
     have i:=(c a).1 i;have hb:=(c b).1 hb;rcases h.fit a i b hb d.2 with q|q
     . exact q
     . exact Nj u (p a i) (p b hb) d.1 q
theorem qU  w   k :(bo w k).Nodup:=(pN k w 0).1.imp λh=>by omega
theorem rE{w x}(h:x∈w):x<bE w:=by obtain⟨a,b,rfl⟩:=List.append_of_mem h;have:=jA (a++[x]) b;rw[aaV,abU,cA]at this;omega
section
variable{f x:Fr}{π ρ:acA}
theorem yg{p w s}(h:Canon p w s){i j}(hi:i<p.length)(hj:j<p.length)(e:lQ i j w=true):p.getD i 0=p.getD j 0:=by
 have a:i<w.length:=by rw[h.len];exact hi
 have b:j<w.length:=by rw[h.len];exact hj
 simp only[lQ,ZL,abo]at e;have f:w.getD i 0=w[i]:=by simp_all
 have m:=((qy _ _ h.part).2.1 _ (zA a)).1;have g:=rE (zA a);rw[h.many]at g;have k:w[i].toNat<s.length:=by omega
 have l:=h.ye _ k;have c:(i:Int)∈bo w ((w[i].toNat:Nat):Int):=fM a (by omega)
 have d:(j:Int)∈bo w ((w[i].toNat:Nat):Int):=fM b (by omega)
 rw[l]at c d;have n:=(c8 c).2.2;have o:=(c8 d).2.2
 simp_all
end
theorem yh{l:acy}{i}(h:i<l.length):l.getD i 0∈l:=by simp_all
theorem Pv{l:acy}{x}(h:x∈l):∃i,i<l.length/\l.getD i 0=x:=by obtain⟨i,a,e⟩:=aak.1 h;exact⟨i,a,by simp_all⟩
structure yi(f x:Fr)(L:acy):Prop where
 roads:x.roads=f.roads
 fr:x.aP=f.aP
 to:x.dH=f.dH
 cL:x.cL=f.cL
 aW:f.aW<=x.aW
 SE:∀i∈L,0<=i/\i<f.aD.length
 u6:x.aD=L.map (aX f)
section
variable{f x:Fr}{L:acy}
theorem yi.len(h:yi f x L):x.aD.length=L.length:=by rw[h.u6,ZZ]
theorem yi.at(h:yi f x L){j:Int}(b:0<=j/\j<L.length):aX x j=aX f (L.getD j.toNat 0):=by
 have a:j.toNat<L.length:=by omega
 unfold aX;rw[h.u6,zG,aan,KD a,zG (l:=L),KD a];rfl
theorem yi.bS(h:yi f x L)(e:xO):bS x e=bS f e:=by unfold Go.Proofs.YtkcceaplmgdnfaaGreatDoor.bS ja;rw[h.fr,h.to]
theorem yi.one(h:yi f x L)(m:x.Good){l l':acy}(e:∀j∈l',(0<=j/\j<L.length)/\L.getD j.toNat 0∈l)(i:Rx f l):Rx x l':=by
 have c:∀j∈l',aX x j=aX f (L.getD j.toNat 0):=λj k=>h.at (e j k).1
 refine⟨λa d b hb=>?_,?_,λa d b hb n=>?_⟩
 . rw[c a d,c b hb];exact i.cR _ (e a d).2 _ (e b hb).2
 . obtain⟨z,p⟩:=i.SF
   exact⟨z,λj k=>by rw[h.bS,c j k];simp_all⟩
 . by_cases g:L.getD a.toNat 0=L.getD b.toNat 0
   . have q:=Ni m (x:=b) (by rw[h.len];simp_all)
     have o:=c a d;rw[g,<-c b hb]at o;refine .inl ?_;unfold Fit gW at *
     simp_all
   have:=i.fit _ (e a d).2 _ (e b hb).2 g;unfold Fit gW at this ⊢;rw[c a d,c b hb,h.roads,h.cL];exact this
theorem yi.cT(h:yi f x L)(E:f.Good)(u:x.Good){w}(F:w∈aI f []):∃v∈aI x [],∀i j ,i<L.length->j<L.length->lQ i j v=lQ (L.getD i 0) (L.getD j 0) w:=by
 rw[<-rC E,aaX]at F;obtain⟨y,z⟩:=F;obtain⟨wl,G,_⟩:=qy _ _ y;obtain⟨p,R⟩:∃p,p=L.map λj=>w.getD j.toNat 0:=⟨_,rfl⟩
 have g:p.length=L.length:=by simp_all
 have o:∀j,j<L.length->0<=L.getD j 0/\(L.getD j 0).toNat<w.length:=λj l=>by have:=h.SE _ (yh l);omega
 have m:∀j,j<L.length->p.getD j 0=w.getD (L.getD j 0).toNat 0:=λj l=>by simp_all
 have r:∀c∈p,∃j,j<L.length/\p.getD j 0=c/\c∈w:=λc d=>by
  obtain⟨j,l,H⟩:=Pv d
  grind
 obtain⟨v,s,d⟩:=DT p;have A:=z;unfold qS at A;rw[zj,ZT,ZL]at A;refine⟨v,?_,λi j n l=>?_⟩
 . rw[<-rC u,aaX,h.len,<-g]
   refine⟨d.part,?_⟩;unfold qS;rw[zj,ZT,d.many];have J:=pM w
   have S:=uj (bE w).toNat s d.nd λc B=>by obtain⟨_,_,_,a⟩:=r c (d.sub c B);have:=G c a;have:=rE a;omega
   refine⟨decide_eq_true (by have:=h.aW;omega),λk T=>?_⟩
   have t:k<s.length:=by grind
   rw[ZL,d.ye k t];obtain⟨j,l,e,a⟩:=r _ (d.sub _ (zA t));generalize s[k]=c at *;have K:=G c a;have M:=rE a;have b:=abu (A.2 c.toNat (ZN.2 (by omega)))
   rw[show(c.toNat:Int)=c by omega]at b
   have C:bo w c≠[]:=abi (fM (i:=(L.getD j 0).toNat) (o j l).2 (by grind))
   have D:bo p c≠[]:=abi (fM (i:=j) (by omega) e)
   rw[Hi E C (qU w c) λi n=>by have:=c8 n;omega]at b
   rw[Hi u D (qU p c) λi n=>by have:=c8 n;rw[g,<-h.len]at this;omega]
   refine h.one u (λi n=>?_) b
   obtain⟨N,I,O⟩:=c8 n;rw[g]at I;have P:=o i.toNat (by omega)
   refine⟨⟨N,I⟩,?_⟩;have:=fM (w:=w) (k:=c) (i:=(L.getD i.toNat 0).toNat) P.2 (by rw[<-m _ (by omega)];exact O)
   rwa [show((L.getD i.toNat 0).toNat:Int)=L.getD i.toNat 0 by omega]at this
 . have Q:=m i n
   have H:=m j l;rw[abR];constructor
   . intro q
     have:=yg d (by omega) (by omega) q
     rw[Q,H]at this;simp only[lQ,ZL];exact this
   . intro q
     simp only[lQ,ZL]at q;exact yf d (by omega) (by omega) (by omega)
end
end
section
open Go.cC Go.Conc
variable{m:Mo}{σ:ab}{KF:ach}
structure Way where
 a:Int
 b:Int
 ba:Int
 aP:Int
 dH:Int
 deriving DecidableEq
structure N5 where
 lost:xO
 town:Int
 hour:Int
 deriving DecidableEq
structure iw where
 fair:Fr
 aS:Int
 ways:List Way
 aB:List N5
 deriving DecidableEq
abbrev cU(x:Way):AV:=.agg [int x.a,int x.b,int x.ba,int x.aP,int x.dH]
abbrev gg(c:N5):AV:=.agg [int c.lost.hour,int c.lost.place,int c.lost.cR,ints c.lost.marks,int c.lost.bs,int c.lost.jD,int c.town,int c.hour]
abbrev uk(l:List Way):AV:=.sl 5 (l.map cU) .any
abbrev eQ(l:List N5):AV:=.sl 8 (l.map gg) .any
abbrev DV(w:iw):acE:=[iZ w.fair.aD,rows w.fair.roads,int w.fair.aP,int w.fair.dH,int w.fair.cL,int w.fair.aW,int w.aS,uk w.ways,eQ w.aB]
abbrev dz(w:iw):AV:=.agg (DV w)
abbrev Pw(b mb:Nat)(w:iw)(a c d:AV)(hole:acz)(o:Nat):AV:=.kp b [iZ w.fair.aD,rows w.fair.roads,int w.fair.aP,int w.fair.dH,int w.fair.cL,int w.fair.aW,int w.aS,uk w.ways,eQ w.aB,.lit (.int .i32 0),.lit (.int .u32 0),a,c,d,.map mb] hole o
def sW(aS:Int)(x:Way):Prop:=(0<=x.a/\x.a<aS)/\(0<=x.b/\x.b<aS)/\(1<=x.ba/\x.ba<=12)/\(0<=x.aP/\x.aP<=72)/\0<=x.dH/\x.dH<=72
def gK(h:Int)(x:Way):Int:=if h<x.aP then x.aP else h
def yj(h a b:Int)(x:Way)(best:Int):Int:=if(x.a≠a\/x.b≠b)/\(x.a≠b\/x.b≠a)then best else if gK h x<=x.dH then(if gK h x+x.ba<best then gK h x+x.ba else best)else best
def jH(l:List Way)(h a b:Int):Int:=l.foldl (λc x=>yj h a b x c) 1048576
theorem Ry{h a b best x}(c:1<=x.ba/\x.ba<=12)(d:0<=h)(hb:0<=best/\best<=1048576):0<=yj h a b x best/\yj h a b x best<=1048576:=by
 have:0<=gK h x:=by unfold gK;omega
 unfold yj;omega
theorem DW{l h a b}(e:∀x∈l,1<=x.ba/\x.ba<=12)(f:0<=h):0<=jH l h a b/\jH l h a b<=1048576:=by
 have key:∀(l:List Way) (c:Int),(∀x∈l,1<=x.ba/\x.ba<=12)->(0<=c/\c<=1048576)->0<=l.foldl (λc x=>yj h a b x c) c/\l.foldl (λc x=>yj h a b x c) c<=1048576:=λl=>by
  induction l with
  |nil=>simp_all
  |cons x l g=>exact λc d i=>g _ (λy j=>d y (by simp[j])) (Ry (d x (by simp)) f i)
 exact key l _ e ⟨by omega,by omega⟩
theorem fh{σ:ab}{d x}(h:σ d=none):(σ.set d x).del d=σ:=by
 funext c;by_cases e:c=d
 . subst e;simp[ab.del,h]
 . simp[ab.set,ab.del,e]
theorem Nk{fb mb w E F G hole h a b}(R:∀i∈hole,9<=i)(S:w.ways.length<1152921504606846976)(z:∀x∈w.ways,sW w.aS x)(H:0<=h/\h<=1048576)(I:KF (.val (int (jH w.ways h a b))) σ):az prog m 77 [Pw fb mb w E F G hole 0,int h,int a,int b] σ KF:=by
 have J:7∉hole:=λq=>by grind
 refine fs [] Tryz.func77 rfl (by kernel_rfl) ?_
 simp[Tryz.f77,J];apply rn;simp;refine aa.loop w.ways.length (λk s=>∃env,s=⟨env,σ,[],.no⟩/\env 1=int h/\env 2=int a/\env 3=int b/\env 9=int (jH (w.ways.take k) h a b)/\env 17=uk w.ways/\env 18=int w.ways.length/\env 19=int k) ⟨_,rfl,by simp[jH]⟩ ?_
 rintro T k _ U ⟨env,rfl,o,r,t,u,c,f,g⟩ v
 refine aa.runN lay [] 17 ?_;simp[f,g];apply aH.intro<;>intro j<;>simp at j<;>simp[u,c,g,j]
 . refine bI.intro λd hd=>?_
   simp
   change aa _ _ _ _ _ _ _ _ _
   refine aa.bt 11 (b:=d) (cU w.ways[k]) (ab.ai _ _ _) (by simp) rfl ?_
   rw[fh hd];obtain⟨⟨V,W⟩,⟨X,Y⟩,⟨Z,x6⟩,⟨x7,x8⟩,x9,K⟩:=z _ (zA j);have L:=DW (l:=w.ways.take k) (h:=h) (a:=a) (b:=b) (λx M=>(z x (abA M)).2.2.1) H.1
   have y:jH (w.ways.take (k+1)) h a b=yj h a b w.ways[k] (jH (w.ways.take k) h a b):=by unfold jH;rw[zD j,aaE];rfl
   obtain⟨N,A⟩:∃p,(w.ways[k].a !=a)=p:=⟨_,rfl⟩;obtain⟨O,B⟩:∃p,(w.ways[k].b !=b)=p:=⟨_,rfl⟩;obtain⟨P,C⟩:∃p,(w.ways[k].a !=b)=p:=⟨_,rfl⟩;obtain⟨Q,D⟩:∃p,(w.ways[k].b !=a)=p:=⟨_,rfl⟩;cases N<;>cases O<;>cases P<;>cases Q
   all_goals
    apply rn;simp[o,r,t,g,A,B,C,D]
   all_goals simp at A B C D
   all_goals try refine⟨by omega,v _ j ⟨_,rfl,?_⟩⟩
   all_goals try
    simp[o,r,t,u,c,f];rw[y,yj,ZS (by omega)]
   all_goals
    rw[show(if h<w.ways[k].aP then w.ways[k].aP else h)=gK h w.ways[k]from rfl]
    have f0:0<=gK h w.ways[k]/\gK h w.ways[k]<=1048576:=by unfold gK;split<;>omega
    refine aH.intro (λn=>?_) (λn=>?_)<;>(try simp[-Int.not_lt,-Int.not_le]at n)<;>(try simp[u,g,n])
    . have f1:-9223372036854775808<=gK h w.ways[k]+w.ways[k].ba/\gK h w.ways[k]+w.ways[k].ba<=9223372036854775807:=by omega
      simp[f1.1,f1.2];refine⟨by omega,v _ j ⟨_,rfl,?_⟩⟩
      simp[o,r,t,c,f];rw[y];exact (show yj h a b w.ways[k] (jH (w.ways.take k) h a b)=_ by rw[yj,ZM (by omega),ZS n]).symm
    . refine⟨by omega,v _ j ⟨_,rfl,?_⟩⟩
      simp[o,r,t,u,c,f];rw[y,yj,ZM (by omega)]
      simp[n]
 . have e:k=w.ways.length:=by omega
   subst e;rw[ZY];exact .done I
def gh(l:List Way)(a b:Nat)(t:acy):acy:=if t.getD a 0<1048576 then t.set b (if jH l (t.getD a 0) a b<t.getD b 0 then jH l (t.getD a 0) a b else t.getD b 0)else t
def pP(l:List Way)(n a:Nat)(t:acy):acy:=(List.range n).foldl (λt b=>gh l a b t) t
def pass(l:List Way)(n:Nat)(t:acy):acy:=(List.range n).foldl (λt a=>pP l n a t) t
def cV(l:List Way)(n:Nat):Nat->acy->acy
 |0,t=>t
 |k+1,t=>if pass l n t=t then t else cV l n k (pass l n t)
def nD(t:acy):Nat:=(t.foldl (·+·) 0).toNat
def begun(town hour:Int):acy:=[1048576,1048576,1048576,1048576].set town.toNat hour
def fN(l:List Way)(n:Nat)(town hour:Int):acy:=cV l n (nD (begun town hour)+1) (begun town hour)
theorem jP{α:Type}(P:acy->Prop)  f  (a:∀t x,P t->P (f t x)):∀(l:List α)  t ,P t->P (l.foldl f t)
 |[],_,h=>h
 |x::l,t,h=>jP P f a l _ (a t x h)
def vQ(t:acy):Prop:=t.length=4/\∀i,0<=t.getD i 0/\t.getD i 0<=1048576
theorem sX{t:acy}{b i v}:(t.set b v).getD i 0=if i=b/\b<t.length then v else t.getD i 0:=by grind
theorem vQ.to{l}(c:∀x∈l,1<=x.ba/\x.ba<=12){a b t}(h:vQ t):vQ (gh l a b t):=by
 unfold gh;split
 . refine⟨by rw[aaq];exact h.1,λi=>?_⟩
   rw[sX];split
   . have:=DW (h:=t.getD a 0) (a:=a) (b:=b) c (h.2 a).1
     split
     . exact this
     . exact h.2 b
   . exact h.2 i
 . exact h
theorem vQ.from{l}(b:∀x∈l,1<=x.ba/\x.ba<=12){n a t}(h:vQ t):vQ (pP l n a t):=jP vQ _ (λ_ _ h=>h.to b) _ _ h
theorem vQ.pass{l:List Way}(a:∀x∈l,1<=x.ba/\x.ba<=12){n:Nat}{t:acy}(h:vQ t):vQ (pass l n t):=jP vQ _ (λ_ _ h=>h.from a) _ _ h
def gi(a t:acy):Prop:=a.length=t.length/\∀i,a.getD i 0<=t.getD i 0
theorem gi.trans{a b c}(h:gi a b)(d:gi b c):gi a c:=⟨h.1.trans d.1,λi=>Int.le_trans (h.2 i) (d.2 i)⟩
theorem An  l   a b   t :gi (gh l a b t) t:=by
 unfold gh;split
 . refine⟨aaq,λi=>?_⟩
   grind
 . exact⟨rfl,λi=>aax _⟩
theorem va  l   n a   t :gi (pP l n a t) t:=jP (gi · t) _ (λu b h=>(An l a b u).trans h) _ _ ⟨rfl,λi=>aax _⟩
theorem kh  l   n   t :gi (pass l n t) t:=jP (gi · t) _ (λu a h=>(va l n a u).trans h) _ _ ⟨rfl,λi=>aax _⟩
theorem vR{a t}(h:gi a t)(d:vQ a)(c:vQ t)(e:a≠t):nD a<nD t:=by
 obtain⟨f,b⟩:=d;obtain⟨g,q⟩:=c
 match a,t,f,g with
 | [r,s,u,v],[w,x,y,z],_,_=>
   have i:=h.2 0;have j:=h.2 1;have k:=h.2 2;have l:=h.2 3;have m:=b 0;have n:=b 1;have o:=b 2;have p:=b 3;simp at i j k l m n o p;unfold nD
   grind
theorem oB{l}(a:∀x∈l,1<=x.ba/\x.ba<=12){n}:∀  k   t ,vQ t->nD t<k->cV l n k t=cV l n (nD t+1) t
 |0,t,_,h=>by omega
 | k+1,t,b,h=>by
   show(if pass l n t=t then t else cV l n k (pass l n t))=if pass l n t=t then t else cV l n (nD t) (pass l n t);split
   . rfl
   . next c=>have d:=vR (kh l n t) (b.pass a) b c;rw[oB a k _ (b.pass a) (by omega),oB a (nD t) _ (b.pass a) d]
 termination_by k=>k
theorem DX{l}(a:∀x∈l,1<=x.ba/\x.ba<=12){n t}(b:vQ t):cV l n (nD t+1) t=if pass l n t=t then t else cV l n (nD (pass l n t)+1) (pass l n t):=by
 show(if pass l n t=t then t else cV l n (nD t) (pass l n t))=_;split
 . rfl
 . next c=>exact oB a _ _ (b.pass a) (vR (kh l n t) (b.pass a) b c)
theorem um{town hour}(a:0<=hour/\hour<=72):vQ (begun town hour):=by
 refine⟨by simp[begun],λi=>?_⟩;unfold begun;rw[sX];split
 . omega
 . match i with
   |0=>simp
   |1=>simp
   |2=>simp
   |3=>simp
   |i+4=>simp
theorem pQ{l}(a:∀x∈l,1<=x.ba/\x.ba<=12){n}:∀  k   t ,vQ t->vQ (cV l n k t)
 |0,_,h=>h
 | k+1,t,h=>by
   unfold cV;split
   . exact h
   . exact pQ a k _ (h.pass a)
theorem BP{l}(e:∀x∈l,1<=x.ba/\x.ba<=12){n town hour}(f:0<=hour/\hour<=72):∃a b c d,fN l n town hour=[a,b,c,d]:=by
 have:=(pQ e (n:=n) (nD (begun town hour)+1) _ (um (town:=town) f)).1;unfold fN
 match cV l n (nD (begun town hour)+1) (begun town hour),this with
 |[a,b,c,d],_=>simp_all
theorem UZ:Ql prog 167 3:=⟨by kernel_rfl,by kernel_rfl,by kernel_rfl⟩
theorem FX{fb mb w U V W hole town hour}(hh:∀i∈hole,9<=i)(hl:w.ways.length<1152921504606846976)(hw:∀x∈w.ways,sW w.aS x)(hn:1<=w.aS/\w.aS<=4)(ht:0<=town/\town<w.aS)(h0:0<=hour/\hour<=72)
 (hK:∀σ',σ.Le σ'->KF (.val (.agg ((fN w.ways w.aS.toNat town hour).map int))) σ'):az prog m 92 [Pw fb mb w U V W hole 0,int town,int hour] σ KF:=by
 have n6:6∉hole:=λq=>by grind
 refine az.start lay [6,7,9] Wr 3 Tryz.func92 rfl rfl (by rfl) (by kernel_rfl) ?_
 simp[Tryz.f92];refine bI.intro λr hr=>?_
 simp;refine bI.intro λd hd=>?_
 obtain⟨n1,n2,hd⟩:=ab.aM hd;simp;have b4:town<4:=by omega
 have b5:town.toNat<4:=by omega
 have b6:town<=3:=by omega
 refine aa.tX ?_;refine aa.run lay [6,7,9] ?_;simp;refine aa.again (by kernel_rfl) ?_
 refine aa.run lay [6,7,9] ?_;simp;refine aa.again (by kernel_rfl) ?_
 refine aa.run lay [6,7,9] ?_;simp;refine aa.again (by kernel_rfl) ?_
 refine aa.run lay [6,7,9] ?_;simp;refine aa.again (by kernel_rfl) ?_
 refine aa.runN lay [6,7,9] 16 ?_;simp[ht.1,b4,b5,b6]
 change aa _ _ _ _ _ _ _ _ _
 obtain⟨X,J⟩:∃T,T=begun town hour:=⟨_,rfl⟩;have hc:([int 1048576,int 1048576,int 1048576,int 1048576]:acE).set town.toNat (int hour)=X.map int:=by rw[J];simp[begun,abt]
 rw[hc];have a7:vQ X:=J ▸ um h0;have N:∀x∈w.ways,1<=x.ba/\x.ba<=12:=λx hx=>(hw x hx).2.2.1
 refine aa.lower (λa s=>∃env t,s=⟨env,(σ.set r (.cells [int 0,int 0,int 0,int 0])).set d (.cells (t.map int)),[],.no⟩/\env 0=Pw fb mb w U V W hole 0/\env 6=.ref r 0/\env 7=.ref d 0/\vQ t/\nD t=a/\cV w.ways w.aS.toNat (nD t+1) t=fN w.ways w.aS.toNat town hour) (nD X) ⟨_,X,rfl,by simp,by simp,by simp,a7,rfl,by rw[J];rfl⟩ ?_
 rintro a _ ⟨env,t,rfl,E,F,g,Y,rfl,I⟩ ih
 obtain⟨h,l,p,y,rfl⟩:∃h l p y,t=[h,l,p,y]:=by
  match t,Y.1 with
  |[h,l,p,y],_=>grind
 refine aa.runN lay [6,7,9] 5 ?_;simp[g];refine bI.intro λo Z=>?_
 obtain⟨m1,m2,Z⟩:=ab.aM Z;obtain⟨m3,m4,Z⟩:=ab.aM Z;simp
 change aa _ _ _ _ _ _ _ _ _
 refine aa.bt 9 (b:=o) (.agg [int h,int l,int p,int y]) (ab.ai _ _ _) (by simp) rfl ?_
 rw[fh (by omega)]
 refine aa.run lay [6,7,9] ?_;simp[E,n6];refine aa.loop w.aS.toNat (λk s=>∃env u,s=⟨env,(σ.set r (.cells [int 0,int 0,int 0,int 0])).set d (.cells (u.map int)),[],.no⟩/\env 0=Pw fb mb w U V W hole 0/\env 6=.ref r 0/\env 7=.ref d 0/\env 9=.cp (.agg [int h,int l,int p,int y]) 0/\env 26=int w.aS/\env 27=int k/\vQ u/\u=(List.range k).foldl (λt a=>pP w.ways w.aS.toNat a t) [h,l,p,y]) ⟨_,[h,l,p,y],rfl,by simp[E],by simp[F],by simp[g],by simp,by simp,by simp,Y,rfl⟩ ?_
 rintro cc k _ hk ⟨env,u,rfl,E,F,g,M,z,f,hU,hu⟩ a8
 refine aa.runN lay [6,7] 17 ?_;simp[z,f];apply aH.intro<;>intro g1<;>simp at g1<;>simp[E,g,M,f,g1]
 . change aa _ _ _ _ _ _ _ _ _
   refine aa.run lay [6,7,9] ?_;simp[n6];refine aa.loop w.aS.toNat (λj s=>∃env v,s=⟨env,(σ.set r (.cells [int 0,int 0,int 0,int 0])).set d (.cells (v.map int)),[],.no⟩/\env 0=Pw fb mb w U V W hole 0/\env 6=.ref r 0/\env 7=.ref d 0/\env 9=.cp (.agg [int h,int l,int p,int y]) 0/\env 10=int k/\env 26=int w.aS/\env 27=int k/\env 34=int w.aS/\env 35=int j/\vQ v/\v=(List.range j).foldl (λt b=>gh w.ways k b t) u) ⟨_,u,rfl,by simp[E],by simp[F],by simp[g],by simp[M],by simp,by simp[z],by simp[f],by simp,by simp,hU,rfl⟩ ?_
   rintro cc j _ hj ⟨env,v,rfl,E,F,g,M,cd,z,f,K,G,H,hv⟩ O
   refine aa.runN lay [6,7] 17 ?_;simp[K,G];apply aH.intro<;>intro g2<;>simp at g2<;>simp[cd,f,G,g2]
   . have k4:k<4:=by omega
     have j4:j<4:=by omega
     have k5:k<v.length:=by rw[H.1];exact k4
     have j5:j<v.length:=by rw[H.1];exact j4
     have L:v.getD k 0=v[k]:=by simp[k5]
     have a9:v.getD j 0=v[j]:=by simp[j5]
     have i4:(k:Int)<4:=by omega
     have l4:(j:Int)<4:=by omega
     have j3:j<=3:=by omega
     refine aa.runN lay [6,7] 5 ?_;simp[g,H.1,k4,i4];apply aH.intro<;>intro g3<;>simp at g3<;>(try simp[g3])
     . change aa _ _ _ _ _ _ _ _ _
       refine aa.run lay [6,7] ?_;simp[E,g,cd,H.1,k4,j4,i4,l4];have P:=H.2 k;rw[L]at P;have Q:(v.map int).set j (int (if jH w.ways v[k] k j<v[j]then jH w.ways v[k] k j else v[j]))=(gh w.ways k j v).map int:=by rw[gh,L,a9,ZS g3,abt]
       refine⟨?_,?_,?_⟩
       all_goals
        refine cf Tryz.func77 rfl (Nk hh hl hw P ?_);refine aK.go lay [6,7] ?_;simp[H.1,j4,j3];rw[Q];refine aa.run lay [6,7] ?_;simp[G];refine⟨by omega,O _ (by omega) ⟨_,gh w.ways k j v,rfl,?_,?_,?_,?_,?_,?_,?_,?_,?_,H.to N,?_⟩⟩
        rotate_right
        . rw[aai,aaE,<-hv];rfl
        all_goals simp[E,F,g,M,cd,z,f,K]
     . change aa _ _ _ _ _ _ _ _ _
       refine aa.run lay [6,7] ?_;simp[G];refine⟨by omega,O _ (by omega) ⟨_,v,rfl,?_,?_,?_,?_,?_,?_,?_,?_,?_,H,?_⟩⟩
       rotate_right
       . rw[aai,aaE,<-hv]
         show v=gh w.ways k j v;rw[gh,L,ZM (by omega)]
       all_goals simp[E,F,g,M,cd,z,f,K]
   . have ej:j=w.aS.toNat:=by omega
     subst ej;refine⟨by omega,a8 _ (by omega) ⟨_,v,rfl,?_,?_,?_,?_,?_,?_,H,?_⟩⟩
     rotate_right
     . rw[aai,aaE,<-hu]
       exact hv
     all_goals simp[E,F,g,M,z]
 . have ek:k=w.aS.toNat:=by omega
   subst ek
   obtain⟨A,B,C,D,rfl⟩:∃A B C D,u=[A,B,C,D]:=by
    match u,hU.1 with
    |[A,B,C,D],_=>exact⟨A,B,C,D,rfl⟩
   have R:=DX N (n:=w.aS.toNat) Y;rw[show pass w.ways w.aS.toNat [h,l,p,y]=[A,B,C,D]from hu.symm]at R
   refine⟨by simp,?_⟩
   refine Fp lay UZ rA rfl rfl (a:=A) (b:=B) (c:=C) (d:=D) (a':=h) (b':=l) (c':=p) (d':=y) rfl (by simp) (by simp) ?_
   cases e:(A==h && (B==l && (C==p && D==y)))
   . have S:¬([A,B,C,D]=[h,l,p,y]):=λq=>by simp at q;simp[q]at e
     rw[ZM S,I]at R;refine aa.runN lay [6,7] 2 ?_;simp
     change aa _ _ _ _ _ _ _ _ _
     refine aa.goto rfl (by kernel_rfl) ?_
     refine aa.runN lay [6,7,9] 2 ?_;simp;refine ih (nD [A,B,C,D]) _ (vR (hu.symm ▸ kh w.ways w.aS.toNat [h,l,p,y]) hU Y S) ⟨_,[A,B,C,D],rfl,?_,?_,?_,hU,rfl,R.symm⟩<;>simp[E,F,g]
   . simp at e
     obtain⟨rfl,rfl,rfl,rfl⟩:=e;rw[ZS rfl,I]at R;refine aa.run lay [6,7,9] ?_;simp[F,g,n2,ab.ah];refine .done ?_;have:=hK _ (ab.ez (b:=r) (x:=.cells [int A,int B,int C,int D]) (ab.ez (b:=d) (x:=.cells [int A,int B,int C,int D]) (ab.ez (b:=r) (x:=.cells [int 0,int 0,int 0,int 0]) (ab.le_refl σ) hr) hd) hr);rw[R]at this;exact this
theorem dX{a lo hi}(h:KF (.val (bool (bu a lo hi))) σ):az prog m 71 [int a,int lo,int hi] σ KF:=by
 refine fs [] Tryz.func71 rfl (by kernel_rfl) ?_;simp[Tryz.f71];unfold bu at h;by_cases g:lo<=a
 . simp[g]
   refine .done ?_
   simp_all
 . simp[g]
   refine .done ?_
   simp_all
theorem pR{x}(h:KF (.val (ints (aA x))) σ):az prog m 60 [u8 x] σ KF:=by
 refine fs [] Tryz.func60 rfl (by kernel_rfl) ?_;simp[Tryz.f60];refine aa.loop 6 (λk s=>∃env b,s=⟨env,b,[],.no⟩/\env 0=u8 x/\env 5=int k/\Tok σ b (env 3) 1 ((((List.range k).map λn:Nat=>(n:Int)).filter λn=>fL x n).map int)) ⟨_,_,rfl,by simp,by simp,.nil σ 1⟩ ?_;rintro l k _ o ⟨env,b,rfl,d,c,a⟩ f;rcases aap k 6 with g1|g1
 . have e:(k:Int)<6:=by omega
   have p:(((List.range k).map λn:Nat=>(n:Int)).filter λn=>fL x n).length<=k:=by grind
   have q:(((List.range (k+1)).map λn:Nat=>(n:Int)).filter λn=>fL x n)=(((List.range k).map λn:Nat=>(n:Int)).filter λn=>fL x n)++if fL x k then[(k:Int)]else[]:=by
    rw[aai,aab,aaT]
    grind
   apply rn;simp[d,c,e,tY];have g:fL x k=(Ds (x.fdiv (2 ^ min k IntKind.u8.bits)) 1==1):=by simp[fL]
   rw[<-g];cases hb:fL x k
   . simp[c]
     refine⟨by omega,f _ g1 ⟨_,_,rfl,by simp[d],by simp,?_⟩⟩
     simp_all
   . simp
     refine aN lay rfl rfl rfl dG rfl dG rfl rA (by decide) (by grind) (σ0:=σ) (es:=(((List.range k).map λn:Nat=>(n:Int)).filter λn=>fL x n).map int) (xs:=[int k]) (by simp_all) (.inr ⟨_,rfl⟩) λr i j=>?_
     apply rn;simp[c];refine⟨by omega,f _ g1 ⟨_,_,rfl,by simp[d],by simp,?_⟩⟩
     simp_all
 . have:k=6:=by omega
   subst this;apply rn;simp[c];exact .na a.W (.less a.1 (.done h))
abbrev vS(n:Nat):acy:=(List.range n).map λn:Nat=>(n:Int)
theorem uo{n}(j:n<=1000)(h:KF (.val (ints (vS n))) σ):az prog m 49 [int n] σ KF:=by
 refine fs [] Tryz.func49 rfl (by kernel_rfl) ?_;simp[Tryz.f49];refine aa.loop n (λk s=>∃env b,s=⟨env,b,[],.no⟩/\env 5=int n/\env 6=int k/\Tok σ b (env 3) 1 ((vS k).map int)) ⟨_,_,rfl,by simp,by simp,.nil σ 1⟩ ?_;rintro l k _ o ⟨env,b,rfl,c,d,a⟩ g;rcases aap k n with g1|g1
 . have e:(k:Int)<n:=by omega
   have f1:-9223372036854775808<=(k:Int)+1/\(k:Int)+1<=9223372036854775807:=by omega
   apply rn;simp[c,d,e];refine aN lay rfl rfl rfl dG rfl dG rfl rA (by decide) (by grind) (σ0:=σ) (es:=(vS k).map int) (xs:=[int k]) (by simp_all) (.inr ⟨_,rfl⟩) λp i f=>?_
   apply rn;simp[d];refine⟨by omega,g _ g1 ⟨_,_,rfl,by simp[c],by simp,?_⟩⟩;rw[show vS (k+1)=vS k++[(k:Int)]by unfold vS;rw[aai,aab];rfl,aab];exact f
 . have:k=n:=by omega
   subst this;apply rn;simp[c,d];exact .na a.W (.less a.1 (.done h))
theorem Nl(h:KF (.val (.agg [u8 1,u8 2,u8 4])) σ):az prog m 101 [] σ KF:=by
 refine az.Fi lay [] [] 3 0 Tryz.func101 rfl rfl (by rfl) (by kernel_rfl) ?_;simp[Tryz.f101];refine bI.intro λc a=>?_
 simp;change aa _ _ _ _ _ _ _ _ _;refine aa.runN lay [] 3 ?_;simp;change aa _ _ _ _ _ _ _ _ _;refine aa.op rfl (bW rfl) (by simp) (λc=>by simp) (pI lay rfl Up rfl LC (l:=[u8 1,u8 2,u8 4]) (by simp) rfl ?_);apply rn;simp;refine .less ?_ (.done h);exact ab.ez (ab.le_refl _) a
theorem FY{n}{t:Nat}(a:t=if n=1 then 125 else if n=3 then 284 else 195)(h:KF (.val (.lT t (.agg []))) σ):az prog m 149 [int n] σ KF:=by
 subst a;refine fs [] Tryz.func149 rfl (by kernel_rfl) ?_;simp[Tryz.f149];by_cases g:n=1
 . subst g
   simp;exact .done h
 . by_cases b:n=3
   . subst b
     simp;exact .done h
   . have c:(n==1)=false:=by grind
     have d:(n==3)=false:=by simp_all
     simp[c,d];refine .done ?_
     simp_all
abbrev yk(l:List N5):List xO:=l.map (·.lost)
theorem Nm{l}(p:l.length<=1000)(h:KF (.val (iZ (yk l))) σ):az prog m 76 [eQ l] σ KF:=by
 refine fs [] Tryz.func76 rfl (by kernel_rfl) ?_;simp[Tryz.f76];refine aa.loop l.length (λk s=>∃env c,s=⟨env,c,[],.no⟩/\env 6=eQ l/\env 7=int l.length/\env 8=int k/\Tok σ c (env 3) 6 ((yk (l.take k)).map bn)) ⟨_,_,rfl,by simp,by simp,by simp,.nil σ 6⟩ ?_;rintro q k _ r ⟨env,c,rfl,j,e,f,a⟩ n;rcases aap k l.length with g1|g1
 . have g:(k:Int)<l.length:=by omega
   refine aa.runN lay [] 17 ?_;simp[j,e,f,g1,g];refine bI.intro λd hd=>?_
   simp;change aa _ _ _ _ _ _ _ _ _;refine aa.runN lay [] 1 ?_;simp;change aa _ _ _ _ _ _ _ _ _;refine aa.bt 5 (b:=d) (gg l[k]) (ab.ai _ _ _) (by simp) rfl ?_;rw[fh hd];apply rn;simp;refine aN lay rfl rfl rfl lM rfl lM rfl xN (by decide) (by grind) (σ0:=σ) (es:=(yk (l.take k)).map bn) (xs:=[bn l[k].lost]) (by simp_all) (.inr ⟨_,rfl⟩) λt o i=>?_
   apply rn;simp[f];refine⟨by omega,n _ g1 ⟨_,_,rfl,by simp[j],by simp[e],by simp,?_⟩⟩;rw[show(yk (l.take (k+1))).map bn=(yk (l.take k)).map bn++[bn l[k].lost]by unfold yk;rw[zD g1,aab,aab];rfl];exact i
 . have:k=l.length:=by omega
   subst this;apply rn;simp[e,f];rw[ZY]at a;exact .na a.W (.less a.1 (.done h))
theorem y8{l}(f:l.length<=1000)(h:∀a σ',Tok σ σ' a 6 (l.map bn)->KF (.val a) σ'):az prog m 115 [iZ l] σ KF:=by
 refine fs [] Tryz.func115 rfl (by kernel_rfl) ?_;simp[Tryz.f115];refine AT (es:=l.map bn) (sp:=.any) (kk:=6) lay rfl lM rfl rfl (by simp) (.inl rfl) (λb=>?_) ?_
 . have:l=[]:=by simp_all
   subst this;have c:(BinOp.eql==BinOp.eql)=true:=rfl;apply rn;simp;exact .done (h _ _ (.nil σ 6))
 . have c:(BinOp.eql==BinOp.neq)=false:=rfl
   apply rn;simp[c];refine aN lay rfl rfl rfl lM rfl lM rfl xN (by decide) (by grind) (σ0:=σ) (es:=[]) (xs:=l.map bn) ⟨ab.le_refl _,.inr (.inl (by simp))⟩ (.inr ⟨_,rfl⟩) λg d e=>?_
   apply rn;simp;exact .done (h _ _ (by simp_all))
theorem DY{f l}(u:f.aD.length+l.length<=1000)(h:KF (.val (cM {f with aD:=f.aD++l})) σ):az prog m 75 [cM f,iZ l] σ KF:=by
 refine az.start lay [2] [] 2 Tryz.func75 rfl rfl (by rfl) (by kernel_rfl) ?_;simp[Tryz.f75];refine bI.intro λb hb=>?_
 simp;refine bI.intro λd hd=>?_
 obtain⟨o,j,hd⟩:=ab.aM hd;simp[j,ab.ah];refine cf Tryz.func115 rfl (y8 (by omega) λa p q=>?_);refine aa.run lay [2] ?_;simp;refine aN lay rfl rfl rfl lM rfl lM rfl xN (by decide) (by grind) (es:=f.aD.map bn) (xs:=l.map bn) q (.inr ⟨_,rfl⟩) λa' i g=>?_
 rw[<-List.map_append]at g;generalize f.aD++l=L at h g;refine aa.JM 9 (a':=iZ L) (by simpa using g.W) ?_;have r:i b=some (.cells (G8 f)):=g.1 _ _ (by simp[j,ab.ah]);have s:i d=some (.cells [.lit (.slice none 0 0),.lit (.slice none 0 0),int 0,int 0,int 0,int 0]):=g.1 _ _ (by simp);refine aa.run lay [2] ?_;simp[r,s,o,ab.ah];refine .less (λc x t=>?_) (.done h);have k:c≠b:=λe=>by simp_all
 have n:c≠d:=λe=>by simp_all
 rw[ab.ah _ _ n,ab.ah _ _ k];exact g.1 _ _ (by rw[ab.ah _ _ n,ab.ah _ _ k];exact t)
theorem yl(h:KF (.val (int 0)) σ):az prog m 69 [.lit .nilIface] σ KF:=by
 refine fs [] Tryz.func69 rfl (by kernel_rfl) ?_;simp[Tryz.f69];refine bI.intro λb hb=>?_
 simp;refine cf Tryz.func111 rfl (UN ?_);apply rn;simp;exact .less (by repeat (first|exact ab.le_refl _|assumption|refine ab.ez ?_ (by assumption)|refine ab.lx ?_ (by assumption))) (.done h)
theorem qV{f}(a:f.Fits)(b:check f=0)(h:KF (.val (.lit .nilIface)) σ):az prog m 70 [cM f] σ KF:=by
 refine fs [] Tryz.func70 rfl (by kernel_rfl) ?_;simp[Tryz.f70];refine cf Tryz.func112 rfl (Dv a ?_);apply rn;simp[b];exact .done h
def ki(t:Int)(x:Way):Int:=if bu x.a 0 (t-1)=false then 3 else if bu x.b 0 (t-1)=false then 3 else if x.a=x.b then 8 else if bu x.ba 1 12=false then 1 else if bu x.aP 0 72=false then 1 else if bu x.dH 0 72=false then 1 else if x.aP>x.dH then 5 else 0
theorem BQ{x t}(i:0<=t/\t<=100)(h:KF (.val (int (ki t x))) σ):az prog m 72 [cU x,int t] σ KF:=by
 unfold ki at h;refine fs [] Tryz.func72 rfl (by kernel_rfl) ?_;simp[Tryz.f72];refine⟨by omega,?_⟩;refine cf Tryz.func71 rfl (dX ?_);apply rn;simp;refine uK.intro (λa=>?_) (λa=>?_)<;>(try simp at a)<;>(try simp[a]at h)<;>(try simp[a])<;>(try exact .done h);refine⟨by omega,?_⟩;refine cf Tryz.func71 rfl (dX ?_);apply rn;simp;refine aH.intro (λb=>?_) (λb=>?_)<;>(try simp at b)<;>(try simp[b]at h)<;>(try simp[b])<;>(try exact .done h);refine aH.intro (λc=>?_) (λc=>?_)<;>(try simp at c)<;>(try simp[c]at h)<;>(try simp[c])<;>(try exact .done h);refine cf Tryz.func71 rfl (dX ?_);apply rn;simp;refine uK.intro (λd=>?_) (λd=>?_)<;>(try simp at d)<;>(try simp[d]at h)<;>(try simp[d])<;>(try exact .done h)
 refine cf Tryz.func71 rfl (dX ?_);apply rn;simp;refine uK.intro (λe=>?_) (λe=>?_)<;>(try simp at e)<;>(try simp[e]at h)<;>(try simp[e])<;>(try exact .done h);refine cf Tryz.func71 rfl (dX ?_);apply rn;simp;refine aH.intro (λf=>?_) (λf=>?_)<;>(try simp at f)<;>(try simp[f]at h)<;>(try simp[f])<;>(try exact .done h);refine aH.intro (λg=>?_) (λg=>?_)<;>(try simp[-Int.not_lt,-Int.not_le]at g)<;>(try simp[g]at h)<;>(try simp[g])<;>(try exact .done h)
def eE{α:Type}(g:α->Int):List α->Int
 |[]=>0
 |x::l=>if g x=0 then eE g l else g x
theorem Ao{α}  g  (l:List α)  i   h :eE g (l.drop i)=if g l[i]=0 then eE g (l.drop (i+1))else g l[i]:=by rw[aau h,eE]
abbrev lone(f:Fr)(e:xO):Fr:={f with aD:=[e]}
abbrev pS(w:iw):Fr:={w.fair with aD:=w.fair.aD++yk w.aB}
def vz(w:iw)(c:N5):Int:=if bu c.town 0 (w.aS-1)=false then 3 else if bu c.hour 0 72=false then 1 else if c.hour<c.lost.hour then 5 else 0
def gX(w:iw):Int:=if bu w.aS 1 4=false then 1 else if(6:Int)<w.ways.length then 6 else if eE (ki w.aS) w.ways≠0 then eE (ki w.aS) w.ways else if(3:Int)<w.aB.length then 6 else if eE (vz w) w.aB≠0 then eE (vz w) w.aB
 else if(6:Int)<(w.fair.aD.length:Int)+w.aB.length then 6 else if gJ (pS w)=0 then 9 else 0
structure iw.rH(w:iw):Prop where
 fits:w.fair.Fits
 Cq:check w.fair=0
 SH:∀c∈w.aB,(lone w.fair c.lost).Fits/\check (lone w.fair c.lost)=0
 ways:w.ways.length<1152921504606846976
 aB:w.aB.length<1152921504606846976
theorem Rz{es sp l}:(AV.agg (.sl 6 es sp::l)).W (.agg (.sl 6 es .any::l)):=lR rfl λi x y b a=>by
 cases i with
 |zero=>simp at b a;subst b;subst a;exact ik _ _ _
 |succ i=>simp at b a;rw[b]at a;cases a;exact .refl _
theorem BR{w c}(j:0<=w.aS/\w.aS<=100)(f:(lone w.fair c.lost).Fits)(g:check (lone w.fair c.lost)=0)(h:KF (.val (int (vz w c))) σ):az prog m 73 [dz w,gg c] σ KF:=by
 unfold vz at h;have i:Wl [AV.agg [.sl 6 [bn c.lost] .exact,rows w.fair.roads,int w.fair.aP,int w.fair.dH,int w.fair.cL,int w.fair.aW]] [cM (lone w.fair c.lost)]:=.cons Rz .nil;refine az.thaw ?_;refine fs [] Tryz.func73 rfl (by kernel_rfl) ?_;simp[Tryz.f73];refine bI.intro λb hb=>?_
 simp;refine bU Tryz.func70 rfl rfl i (qV f g ?_);apply rn;simp;refine cf Tryz.func69 rfl (yl ?_);apply rn;simp
 replace h:=m9.less (ab.ez (b:=b) (x:=.cells [.sl 6 [bn c.lost] .exact,rows w.fair.roads,int w.fair.aP,int w.fair.dH,int w.fair.cL,int w.fair.aW]) (ab.le_refl _) hb) (.done h)
 refine⟨by omega,?_⟩;refine cf Tryz.func71 rfl (dX ?_);apply rn;simp;refine aH.intro (λa=>?_) (λa=>?_)<;>(try simp at a)<;>(try simp[a]at h)<;>(try simp[a])<;>(try exact .done h);refine cf Tryz.func71 rfl (dX ?_);apply rn;simp;refine aH.intro (λd=>?_) (λd=>?_)<;>(try simp at d)<;>(try simp[d]at h)<;>(try simp[d])<;>(try exact .done h);refine aH.intro (λe=>?_) (λe=>?_)<;>(try simp[-Int.not_lt,-Int.not_le]at e)<;>(try simp[e]at h)<;>(try simp[e])<;>(try exact .done h)
theorem rI{w}(b:w.rH)(f:w.fair.aD.length+w.aB.length<=6):(pS w).Good:=by
 have a:=Fr.pJ b.fits b.Cq;refine⟨⟨?_,a.fits.roads,a.fits.row,λe he=>?_⟩,a.fr,a.to,a.le,a.cL,a.aW,?_,λe he=>?_,a.LH⟩
 . grind
 . rcases ZQ.1 he with he|he
   . exact a.fits.marks e he
   . obtain⟨c,d,rfl⟩:=aad.1 he
     exact(b.SH c d).1.marks _ (lb.2 rfl)
 . simp_all
 . rcases ZQ.1 he with he|he
   . exact a.u6 e he
   . obtain⟨c,d,rfl⟩:=aad.1 he
     exact(Fr.pJ (b.SH c d).1 (b.SH c d).2).u6 _ (lb.2 rfl)
theorem FZ{w}(D:m.solo=true)(e:w.rH)(h:KF (.val (int (gX w))) σ):az prog m 33 [dz w] σ KF:=by
 have E:=e.ways;have F:=e.aB;unfold gX at h;refine fs Wk Tryz.func33 rfl (by kernel_rfl) ?_;simp[Tryz.f33];refine cf Tryz.func70 rfl (qV e.fits e.Cq ?_);apply rn;simp;refine cf Tryz.func69 rfl (yl ?_);apply rn;simp;refine cf Tryz.func71 rfl (dX ?_);apply rn;simp;refine aH.intro (λj=>?_) (λj=>?_)<;>(try simp at j)<;>(try simp[j]at h)<;>(try simp[j])<;>(try exact .done h);have I:=dB j;refine aH.intro (λv=>?_) (λv=>?_)<;>(try simp[-Int.not_lt,-Int.not_le]at v)<;>(try simp[v]at h)<;>(try simp[v])<;>(try exact .done h);refine aa.loop w.ways.length (λk s=>∃env,s=⟨env,σ,[],.no⟩/\env 1=.cp (dz w) 0/\env 28=uk w.ways/\env 29=int w.ways.length/\env 30=int k/\eE (ki w.aS) w.ways=eE (ki w.aS) (w.ways.drop k)) ⟨_,rfl,by simp⟩ ?_;rintro G k _ H ⟨env,rfl,c,l,o,g,a⟩ B;refine aa.runN lay [] 17 ?_;simp[o,g];apply aH.intro<;>intro C<;>simp at C<;>simp[c,l,g,C]
 . rw[Ao _ _ k C]at a
   refine bI.intro λd hd=>?_
   simp;change aa _ _ _ _ _ _ _ _ _;refine aa.runN lay [] 1 ?_;simp;change aa _ _ _ _ _ _ _ _ _;refine aa.bt 5 (b:=d) (cU w.ways[k]) (ab.ai _ _ _) (by simp) rfl ?_;rw[fh hd];apply rn;simp[c];refine cf Tryz.func72 rfl (BQ (by omega) ?_);apply rn;simp;apply aH.intro<;>intro p<;>simp at p<;>simp[g,p]
   . rw[ZM p]at a
     simp[a,p]at h;exact .done h
   . rw[ZS p]at a
     refine⟨by omega,B _ (by omega) ⟨_,rfl,?_,?_,?_,?_,a⟩⟩<;>simp[c,l,o]
 . have ek:k=w.ways.length:=by omega
   subst ek;rw[abx]at a;rw[show eE (ki w.aS) []=0 from rfl]at a;simp[a]at h;refine aH.intro (λx=>?_) (λx=>?_)<;>(try simp[-Int.not_lt,-Int.not_le]at x)<;>(try simp[x]at h)<;>(try simp[x])<;>(try exact .done h)
   . apply rn
     simp;exact .done h
   apply rn;simp[c];refine aa.loop w.aB.length (λk s=>∃env,s=⟨env,σ,[],.no⟩/\env 1=.cp (dz w) 0/\env 47=eQ w.aB/\env 48=int w.aB.length/\env 49=int k/\eE (vz w) w.aB=eE (vz w) (w.aB.drop k)) ⟨_,rfl,by simp[c]⟩ ?_;rintro G k _ H ⟨env,rfl,c,q,r,i,a⟩ B;refine aa.runN lay [] 17 ?_;simp[r,i];apply aH.intro<;>intro t<;>simp at t<;>simp[c,q,i,t]
   . rw[Ao _ _ k t]at a
     refine bI.intro λd hd=>?_
     simp;change aa _ _ _ _ _ _ _ _ _;refine aa.runN lay [] 1 ?_;simp;change aa _ _ _ _ _ _ _ _ _;refine aa.bt 8 (b:=d) (gg w.aB[k]) (ab.ai _ _ _) (by simp) rfl ?_;rw[fh hd];apply rn;simp[c];refine cf Tryz.func73 rfl (BR (by omega) (e.SH _ (zA t)).1 (e.SH _ (zA t)).2 ?_);apply rn;simp;apply aH.intro<;>intro u<;>simp at u<;>simp[i,u]
     . rw[ZM u]at a
       simp[a,u]at h;exact .done h
     . rw[ZS u]at a
       refine⟨by omega,B _ (by omega) ⟨_,rfl,?_,?_,?_,?_,a⟩⟩<;>simp[c,q,r]
   . have ek:k=w.aB.length:=by omega
     subst ek;rw[abx]at a;rw[show eE (vz w) []=0 from rfl]at a;simp[a]at h;have J:=(Fr.pJ e.fits e.Cq).tZ;have f1:-9223372036854775808<=(w.fair.aD.length:Int)+w.aB.length/\(w.fair.aD.length:Int)+w.aB.length<=9223372036854775807:=by omega
     apply rn;simp[f1.1,f1.2];refine aH.intro (λy=>?_) (λy=>?_)<;>(try simp[-Int.not_lt,-Int.not_le]at y)<;>(try simp[y]at h)<;>(try simp[c,y])<;>(try exact .done h);have z:=rI e (by omega);refine cf Tryz.func76 rfl (Nm (by omega) ?_);apply pg;simp;refine cf Tryz.func75 rfl (DY (by grind) ?_);apply pg;simp;refine cf Tryz.func74 rfl (M3 (f:=pS w) D z.fits z.Cq ⟨Nat.lt_of_le_of_lt (BO z _) (by decide),Nat.lt_of_le_of_lt (BO z _) (by decide)⟩ ?_);apply pg;simp;obtain⟨n,a⟩:∃n,n=gJ (pS w):=⟨_,rfl⟩;rw[<-a]at h;change aa _ _ _ _ _ _ _ _ _;simp only[<-a];apply rn;simp;refine aH.intro (λA=>?_) (λA=>?_)<;>(try simp at A)<;>(try simp[A]at h)<;>(try simp[A])<;>(try exact .done h)
end
open Go.cC Go.Conc
theorem ym{m fb mb A j w c o p q hole}(B:∀i∈hole,9<=i)(C:A.fb=fb/\A.mb=mb/\A.fo=9/\A.nm=nn/\A.ng=ng/\A.dir=true)(hj:j<3)(r:∀x,A.GI x↔x=.map [])(D:w.ways.length<1152921504606846976)(s:∀x∈w.ways,sW w.aS x)(E:1<=w.aS/\w.aS<=4)(F:0<=c.town/\c.town<w.aS)(t:0<=c.hour/\c.hour<=72)
 (G:A.val j=.int .i64 ((fN w.ways w.aS.toNat c.town c.hour).getD 0 0)){body}(hb:Tryz.f90.body=some body):
 aa prog (iq prog A j) 90 25 none Uv [.code body] ⟨dp [.ref A.gb 0,.cp (Pw fb mb w o p q hole 0) 0,.cp (gg c) 0,.cp (int j) 0],jF A.fb,[],.told .deferred [cB prog] m⟩ (Rd prog A j Tryz.f90):=by
 obtain⟨rfl,rfl,a,e,H,d⟩:=C;simp only[Tryz.f90,kn]at hb;subst hb;apply rn;simp;refine aa.defer rfl rfl rfl rfl (by simp) rfl ?_
 apply rn;simp;obtain⟨I,L,M,N,y⟩:=BP (l:=w.ways) (n:=w.aS.toNat) (town:=c.town) (λx g=>(s x g).2.2.1) t
 rw[y]at G;refine cf Tryz.func92 rfl (FX B D s E F t λh k=>?_)
 have J:h A.fb=some .gY:=k _ _ (by simp[jF])
 rw[y];apply rn;simp;have cell:A.cell j=11+j:=by unfold bJ.cell;rw[a]
 have z:=@Fj prog A j d;rw[a,e]at z;refine cf Tryz.func93 rfl (z (by rw[cell];simp<;>omega) J λx v g O=>?_)
 obtain rfl:=(r x).1 g;apply rn;simp;refine aa.defer rfl rfl rfl rfl (by simp) rfl ?_
 have K:(j:Int)<3:=by omega
 have P:j<=2:=by omega
 refine aa.runN lay [] 1 ?_;simp
 change aa _ _ _ _ _ _ _ _ _
 refine aa.draw lay (.take [0,1,2,3,4,5] false (.one 6 (.done))) rfl ?_;refine aK.take lay [] ?_;simp[AW,K];refine aK.one rfl (by kernel_rfl) rfl (by simp) ?_
 refine Iq lay (b:=A.fb) (off:=11+j) (u:=.int .i64 I) (v0:=v) (f:=A.own j v) rfl rA rfl ?_ (by simp) rfl (by simp) (by simp[bJ.own,cell]) ?_
 . simp
   exact qt _ _ _ _
 . refine iM.done ?_
   apply rn;simp;exact⟨rfl,.inl rfl,⟨m,rfl⟩,Pw A.fb A.mb w o p q hole 9,_,.map [],by rw[a];exact qt _ _ _ _,by grind,ab.ai _ _ _,by simp_all,(ab.ah _ _ (za A.d5)).trans (ab.ai _ _ _),(r _).2 rfl,rfl⟩
