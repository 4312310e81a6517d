import Derived.Test.YtkcceaplmgdnfaaGreatDoorC18
set_option linter.all false
set_option maxHeartbeats 2000000
set_option maxRecDepth 4000
namespace Go.Proofs.YtkcceaplmgdnfaaGreatDoor
open Go.Proofs.Tryz (prog)
section
open Go.cG Go.Conc
variable{m:Mo}{σ:aa}{KF:adl}
theorem tY{l:adH}(h:l.Nodup){i j:Nat}{hi:i<l.length}{hj:j<l.length}(a:i≠j):l[i]≠l[j]:=by
 rw[List.Nodup,List.pairwise_iff_getElem]at h
 grind
def jc(rs:adH)(M:acW)(n j:Nat):adL:=(List.range rs.length).map λl=>if l<j then ints (M.getD l [])else AV.ib (rs.getD l 0) 0 n n
theorem po(rs:adH)(M:acW)(n j:Nat):(jc rs M n j).length=rs.length:=by rw[jc,aaP,acj]
theorem pq{rs:adH}{M:acW}{n j l:Nat}(a:l<rs.length):(jc rs M n j)[l]?=some (if l<j then ints (M.getD l [])else AV.ib (rs.getD l 0) 0 n n):=by rw[jc,aaY,List.getElem?_range a];rfl
theorem Es{fid r:Nat}{ro:adw}{hold:adv}{K:cG.Exit->St->Prop}{todo:adD}{env:Env}{D:adO}{rc:Rec}{d n at_:Nat}{rs:adH}{M:acW}{cs:adL}{spr:cU}(σ0:aa)(k:rs.Nodup)(s:∀l,l<rs.length->(M.getD l []).length=n)(o:at_<cs.length)(hd:d∉rs)
 (w:∀σ',σ' d=some (.cells (cs.set at_ (.sl 1 (jc rs M n rs.length) spr)))->(∀y,y≠d->y∉rs->σ' y=σ0 y)->af prog m fid r ro hold todo ⟨env,σ',D,rc⟩ K):
 ∀(f j:Nat),j+f=rs.length->∀σ,σ d=some (.cells (cs.set at_ (.sl 1 (jc rs M n j) spr)))->(∀(l:Nat) (h:l<rs.length),j<=l->σ rs[l]=some (.cells ((M.getD l []).map int)))->(∀y,y≠d->y∉rs->σ y=σ0 y)->af prog m fid r ro hold todo ⟨env,σ,D,rc⟩ K
 | 0,j,x,σ,t,_,z=>by
   have:j=rs.length:=by omega
   simp_all
 | f + 1,j,x,σ,t,A,z=>by
   have a:j<rs.length:=by omega
   have B:=s j a;have q:d≠rs[j]:=λe=>hd (e ▸ zG a)
   have c:∀e∈jc rs M n j,e.cells=[e]:=λe p=>by unfold jc at p;obtain⟨l,_,rfl⟩:=aaL.1 p;split<;>rfl
   have hlen:(jc rs M n j).length=rs.length:=po _ _ _ _;have u:∀l,l<rs.length->(jc rs M n j)[l]?=some (if l<j then ints (M.getD l [])else AV.ib (rs.getD l 0) 0 n n):=λl h=>pq h
   have g:(jc rs M n j).set j (.sl 1 ((M.getD j []).map int) .any)=jc rs M n (j+1):=by
    apply List.ext_getElem?;intro l
    by_cases h:l<rs.length
    . have G:(jc rs M n (j+1))[l]?=some (if l<j+1 then ints (M.getD l [])else AV.ib (rs.getD l 0) 0 n n):=pq h
      grind
    . rw[abv (by simp_all),abv (by rw[po];omega)]
   refine af.PZ (b:=rs[j]) (d:=d) (i:=j) (l:=(M.getD j []).map int) (at_:=at_) q (A j a (aaE _)) (λe p=>by obtain⟨_,_,rfl⟩:=aaL.1 p;rfl) t (by rw[abB o]) c (by simp_all) ?_
   rw[List.set_set,g];refine Es σ0 k s o hd w f (j+1) (by omega) _ (aa.an _ _ _) (λl h v=>?_) (λy C E=>?_)
   . have F:rs[l]≠d:=λe=>hd (e ▸ zG h)
     rw[aa.ai _ _ F];simp only[aa.del,tY k (show l≠j by omega),Rp]
     grind
   . rw[aa.ai _ _ C]
     have:y≠rs[j]:=λe=>E (e ▸ zG a)
     simp only[aa.del,this,Rp]
     simp_all
section
variable{c k:Nat}{nums:adG}
abbrev fZ:adL:=[.lit (.slice none 0 0),.lit (.slice none 0 0),int 0,int 0,int 0,int 0]
theorem GD{cnt:Int}(hk:k+20+11*cnt.toNat<1000000)(hn:nums.length<1152921504606846976)(gD:0<=cnt/\cnt<=1000)(hb:bj c nums k σ)(h:∀(f:Fr) (a:AV) σ',ve cnt f->pP c nums (k+20+11*cnt.toNat) σ σ'->(f.aD=[]->a=.lit (.slice none 0 0))/\(f.aD≠[]->a=jI f.aD)->KF (.val (.agg [a,rows f.roads,int f.aU,int f.eZ,int f.cP,int f.aR])) σ'):aA prog m 83 [.ref c 0,int cnt] σ KF:=by
 obtain⟨n0,s0,_,fi⟩:=id hb;refine fs Xv Tryz.func83 rfl (by kernel_rfl) ?_
 simp[Tryz.f83];refine bK.intro λA h4=>?_
 have n4:c≠A:=λe=>by simp_all
 have G:∀x,bj c nums k (σ.set A x):=λx=>⟨n0,s0,by assumption,by rw[aa.ai _ _ n4];exact fi⟩
 simp;refine cf Tryz.func19 rfl (eQ (by omega) hn ⟨by omega,by omega⟩ ⟨by omega,by omega⟩ (G _) λcP gH fl dj=>?_)
 apply rn;simp;refine cf Tryz.func54 rfl (m7 (l:=[1,2,2,3,3,6]) (by omega) hn (by simp) dj.1 λaR r fp bm=>?_)
 apply rn;simp;refine bK.intro λw h5=>?_
 have Z:A≠c:=za n4;have av:pP c nums (k+2) (σ.set A (.cells fZ)) r:=dj.trans bm;have ec:r A=some (.cells fZ):=by rw[av.2 A Z,aa.an]
 have K:w≠c:=λe=>by subst e;obtain⟨_,_,_,q⟩:=bm.1;simp_all
 have S:w≠A:=λe=>by simp_all
 have aE:σ w=none:=by rw[av.2 w K,aa.ai _ _ S]at h5;exact h5
 simp[aK]
 have ed:∀x,bj c nums (k+2) (r.set w x):=λx=>by obtain⟨n,z,h1,h2⟩:=bm.1;exact⟨n,z,by omega,by rw[aa.ai _ _ (za K)];exact h2⟩
 refine cf Tryz.func19 rfl (eQ (by omega) hn ⟨by omega,by omega⟩ ⟨by omega,by omega⟩ (ed _) λdW g ft dm=>?_)
 apply rn;simp;refine cf Tryz.func18 rfl (fA (by omega) hn ⟨by omega,by omega⟩ dm.1 λlo aL fu dr=>?_)
 apply rn;simp;have ax:pP c nums (k+4) (r.set w (.cells [.lit (.slice none 0 0),.lit (.slice none 0 0),int 0,int 0,int cP,int aR])) aL:=dm.trans dr;obtain⟨sp,rfl⟩:∃sp:Nat,dW=(sp:Int):=⟨dW.toNat,by omega⟩
 have gI:1<=sp/\sp<=3:=by omega
 have fv:0<=lo/\lo<=4:=by omega
 have ee:1<=cP/\cP<=4:=by omega
 have dx:aR=1\/aR=2\/aR=3\/aR=6:=by simp_all
 have eg:aL w=some (.cells [.lit (.slice none 0 0),.lit (.slice none 0 0),int 0,int 0,int cP,int aR]):=by rw[ax.2 w K,aa.an]
 have ei:aL A=some (.cells fZ):=by rw[ax.2 A Z,aa.ai _ _ (za S)];exact ec
 have c9:(σ.del c).Le aL:=λy x p=>by
  have y1:y≠c:=λe=>by subst e;simp[aa.del]at p
  have y0:σ y=some x:=by simpa[aa.del,y1]using p
  have y5:y≠w:=λe=>by simp_all
  have y4:y≠A:=λe=>by simp_all
  rw[ax.2 y y1,aa.ai _ _ y5,av.2 y y1,aa.ai _ _ y4];exact y0
 have b1:=dr.1;clear dj bm dm dr av ax G ed h5 ec fl fp ft fu
 refine af.loop sp (λi s=>∃env σ' a rs,s=⟨env,σ',[],.no⟩/\env 0=.ref c 0/\env 1=int cnt/\env 4=.ref A 0/\env 5=.ref w 0/\env 6=int sp/\env 7=int lo/\env 8=int i/\bj c nums (k+4) σ'/\σ' A=some (.cells fZ)/\σ' w=some (.cells [.lit (.slice none 0 0),a,int 0,int 0,int cP,int aR])/\
  Tok (σ.del c) σ' a 1 (rs.map λb:Nat=>AV.ib b 0 sp sp)/\rs.length=i/\rs.Nodup/\(∀b∈rs,σ b=none/\b≠c/\b≠A/\b≠w/\σ' b=some (.cells (List.replicate sp (int 0))))) ⟨_,aL,.lit (.slice none 0 0),[],rfl,by simp,by simp,by simp,by simp,by simp,by simp,by simp,b1,ei,eg,⟨c9,.inl ⟨rfl,rfl⟩⟩,rfl,acz,by simp⟩ ?_
 rintro c0 i _ hi ⟨env,σ',a,rs,rfl,J,e1,T,D,H,e7,e8,I,q4,V,u,b2,a7,aO⟩ ih
 have L:=u.cells
 rcases abe i sp with g1|g1
 . have fw:(i:Int)<sp:=by omega
   have f1:-9223372036854775808<=(i:Int)+1/\(i:Int)+1<=9223372036854775807:=by omega
   have dy:∀a8:aa,Tok (σ.del c) a8 a 1 (rs.map λb:Nat=>AV.ib b 0 sp sp)->∀y l,a8 y=some (.cells l)->bp a≠some y:=λa8 hx y l p e=>by obtain⟨_,_,q⟩:=hx.aY e;rw[p]at q;cases q
   have fresh:∀b,σ' b=none->σ b=none/\b≠c/\b≠A/\b≠w/\w≠b/\b∉rs:=λb U=>by
    have n1:b≠c:=λe=>by subst e;obtain⟨_,_,_,q⟩:=I;simp_all
    refine⟨?_,n1,λe=>(by subst e;simp_all),λe=>(by subst e;simp_all),λe=>(by simp_all),λe=>(by rw[(aO b e).2.2.2.2]at U;cases U)⟩
    cases e:σ b with
    |none=>rfl
    |some x=>have:=u.1 b x (by simp[aa.del,n1,e]);rw[U]at this;cases this
   apply rn;simp[D,H,e8,V,fw];refine⟨?_,?_⟩
   . ((
       refine tP lay rfl dD rfl rD rfl (by decide) rfl rfl (n:=sp) (by simp[H]) (by simp[H]) ⟨by omega,by omega⟩ λb U=>?_
       obtain⟨bw,a9,ab,ad,b3,al⟩:=fresh b U;have up:=u.up (aa.pZ (x:=.cells (List.replicate sp (int 0))) (aa.le_refl _) U);have b0:(σ'.set b (.cells (List.replicate sp (int 0)))) w=some (.cells [.lit (.slice none 0 0),a,int 0,int 0,int cP,int aR]):=(aa.ai _ _ b3).trans V;apply pg;simp[D,H,b0,L.1,L.2]))
     ((
       refine aN lay rfl rfl rfl qv rfl qv rfl dD (by decide) (by simp;omega) (σ0:=(σ'.set b (.cells (List.replicate sp (int 0)))).off a) (es:=rs.map λb:Nat=>AV.ib b 0 sp sp) (xs:=[AV.ib b 0 sp sp]) (by simpa using up.here.1) (.inr ⟨_,by simp;rfl⟩) λa' g t=>?_
       have B:=t.cells;have F:∀y l,(σ'.set b (.cells (List.replicate sp (int 0)))) y=some (.cells l)->g y=some (.cells l):=λy l p=>t.1 _ _ (by rw[aa.dQ (dy _ up y l p)];exact p)
       have Q:=F _ _ b0;apply pg;simp[D,Q,B.1,B.2,aK];apply rn;simp[e8,f1.1,f1.2];obtain⟨X,Y,G,E⟩:=I
       have C:Tok (σ.del c) g a' 1 ((rs++[b]).map λb:Nat=>AV.ib b 0 sp sp):=by have:=t.base up.here.2;simpa using this
       refine ih _ g1 ⟨_,_,a',rs++[b],rfl,by simp[J],by simp[e1],by simp[T],by simp[D],by simp[H],by simp[e7],by simp,⟨X,Y,G,?_⟩,?_,aa.an _ _ _,C.beside (by simp[aa.del,K,aE]) (λe=>by obtain⟨_,_,q⟩:=C.aY e;rw[Q]at q;cases q),by simp[b2],?_,?_⟩
       . rw[aa.ai _ _ (za K)];exact F _ _ ((aa.ai _ _ (za a9)).trans E)
       . rw[aa.ai _ _ (za S)];exact F _ _ ((aa.ai _ _ (za ab)).trans q4)
       . rw[acA]
         exact⟨a7,by simp,λx hx y p=>by simp at p;subst p;exact λe=>al (e ▸ hx)⟩
       . intro d hd
         rcases aaC.1 hd with hd|hd
         . obtain⟨p1,p2,p3,p4,p5⟩:=aO d hd
           have b4:d≠b:=λe=>al (e ▸ hd)
           exact⟨p1,p2,p3,p4,by rw[aa.ai _ _ p4];exact F _ _ ((aa.ai _ _ b4).trans p5)⟩
         . simp at hd
           subst hd;exact⟨bw,a9,ab,ad,by rw[aa.ai _ _ ad];exact F _ _ (aa.an _ _ _)⟩))
   . ((
       refine tP lay rfl dD rfl rD rfl (by decide) rfl rfl (n:=sp) (by simp[H]) (by simp[H]) ⟨by omega,by omega⟩ λb U=>?_
       obtain⟨bw,a9,ab,ad,b3,al⟩:=fresh b U;have up:=u.up (aa.pZ (x:=.cells (List.replicate sp (int 0))) (aa.le_refl _) U);have b0:(σ'.set b (.cells (List.replicate sp (int 0)))) w=some (.cells [.lit (.slice none 0 0),a,int 0,int 0,int cP,int aR]):=(aa.ai _ _ b3).trans V;apply pg;simp[D,H,b0,L.1,L.2]))
     refine⟨?_,?_⟩
     . ((
         refine aN lay rfl rfl rfl qv rfl qv rfl dD (by decide) (by simp;omega) (σ0:=(σ'.set b (.cells (List.replicate sp (int 0)))).off a) (es:=rs.map λb:Nat=>AV.ib b 0 sp sp) (xs:=[AV.ib b 0 sp sp]) (by simpa using up.here.1) (.inr ⟨_,by simp;rfl⟩) λa' g t=>?_
         have B:=t.cells;have F:∀y l,(σ'.set b (.cells (List.replicate sp (int 0)))) y=some (.cells l)->g y=some (.cells l):=λy l p=>t.1 _ _ (by rw[aa.dQ (dy _ up y l p)];exact p)
         have Q:=F _ _ b0;apply pg;simp[D,Q,B.1,B.2,aK];apply rn;simp[e8,f1.1,f1.2];obtain⟨X,Y,G,E⟩:=I
         have C:Tok (σ.del c) g a' 1 ((rs++[b]).map λb:Nat=>AV.ib b 0 sp sp):=by have:=t.base up.here.2;simpa using this
         refine ih _ g1 ⟨_,_,a',rs++[b],rfl,by simp[J],by simp[e1],by simp[T],by simp[D],by simp[H],by simp[e7],by simp,⟨X,Y,G,?_⟩,?_,aa.an _ _ _,C.beside (by simp[aa.del,K,aE]) (λe=>by obtain⟨_,_,q⟩:=C.aY e;rw[Q]at q;cases q),by simp[b2],?_,?_⟩
         . rw[aa.ai _ _ (za K)];exact F _ _ ((aa.ai _ _ (za a9)).trans E)
         . rw[aa.ai _ _ (za S)];exact F _ _ ((aa.ai _ _ (za ab)).trans q4)
         . rw[acA]
           exact⟨a7,by simp,λx hx y p=>by simp at p;subst p;exact λe=>al (e ▸ hx)⟩
         . intro d hd
           rcases aaC.1 hd with hd|hd
           . obtain⟨p1,p2,p3,p4,p5⟩:=aO d hd
             have b4:d≠b:=λe=>al (e ▸ hd)
             exact⟨p1,p2,p3,p4,by rw[aa.ai _ _ p4];exact F _ _ ((aa.ai _ _ b4).trans p5)⟩
           . simp at hd
             subst hd;exact⟨bw,a9,ab,ad,by rw[aa.ai _ _ ad];exact F _ _ (aa.an _ _ _)⟩))
     . ((
         refine aN lay rfl rfl rfl qv rfl qv rfl dD (by decide) (by simp;omega) (σ0:=(σ'.set b (.cells (List.replicate sp (int 0)))).off a) (es:=rs.map λb:Nat=>AV.ib b 0 sp sp) (xs:=[AV.ib b 0 sp sp]) (by simpa using up.here.1) (.inr ⟨_,by simp;rfl⟩) λa' g t=>?_
         have B:=t.cells;have F:∀y l,(σ'.set b (.cells (List.replicate sp (int 0)))) y=some (.cells l)->g y=some (.cells l):=λy l p=>t.1 _ _ (by rw[aa.dQ (dy _ up y l p)];exact p)
         have Q:=F _ _ b0;apply pg;simp[D,Q,B.1,B.2,aK];apply rn;simp[e8,f1.1,f1.2];obtain⟨X,Y,G,E⟩:=I
         have C:Tok (σ.del c) g a' 1 ((rs++[b]).map λb:Nat=>AV.ib b 0 sp sp):=by have:=t.base up.here.2;simpa using this
         refine ih _ g1 ⟨_,_,a',rs++[b],rfl,by simp[J],by simp[e1],by simp[T],by simp[D],by simp[H],by simp[e7],by simp,⟨X,Y,G,?_⟩,?_,aa.an _ _ _,C.beside (by simp[aa.del,K,aE]) (λe=>by obtain⟨_,_,q⟩:=C.aY e;rw[Q]at q;cases q),by simp[b2],?_,?_⟩
         . rw[aa.ai _ _ (za K)];exact F _ _ ((aa.ai _ _ (za a9)).trans E)
         . rw[aa.ai _ _ (za S)];exact F _ _ ((aa.ai _ _ (za ab)).trans q4)
         . rw[acA]
           exact⟨a7,by simp,λx hx y p=>by simp at p;subst p;exact λe=>al (e ▸ hx)⟩
         . intro d hd
           rcases aaC.1 hd with hd|hd
           . obtain⟨p1,p2,p3,p4,p5⟩:=aO d hd
             have b4:d≠b:=λe=>al (e ▸ hd)
             exact⟨p1,p2,p3,p4,by rw[aa.ai _ _ p4];exact F _ _ ((aa.ai _ _ b4).trans p5)⟩
           . simp at hd
             subst hd;exact⟨bw,a9,ab,ad,by rw[aa.ai _ _ ad];exact F _ _ (aa.an _ _ _)⟩))
 . have fx:sp=i:=by omega
   subst fx;clear ih b1 eg ei c9
   obtain⟨spr,rfl⟩:∃spr,a=.sl 1 (rs.map λb:Nat=>AV.ib b 0 sp sp) spr:=by
    rcases u.2 with⟨_,e⟩|e|⟨_,_,_,e,_⟩
    . have:=congrArg List.length e
      grind
    . simp_all
    simp_all
   have N:=u.1;clear u
   have bA:∀(j:Nat) (hj:j<rs.length),σ rs[j]=none/\rs[j]≠c/\rs[j]≠A/\rs[j]≠w:=λj hj=>by simp_all
   apply rn;simp[H,e8]
   have o:∀(j:Nat) (hj:j<rs.length),σ' rs[j]=some (.cells (((List.replicate sp (List.replicate sp (0:Int))).getD j []).map int)):=λj hj=>by
    rw[(aO _ (zG hj)).2.2.2.2]
    simp_all
   clear aO
   refine af.loop sp (λi s=>∃env σ' M,s=⟨env,σ',[],.no⟩/\env 0=.ref c 0/\env 1=int cnt/\env 4=.ref A 0/\env 5=.ref w 0/\env 6=int sp/\env 7=int lo/\env 9=int i/\bj c nums (k+4+3*i) σ'/\σ' A=some (.cells fZ)/\σ' w=some (.cells [.lit (.slice none 0 0),.sl 1 (rs.map λb:Nat=>AV.ib b 0 sp sp) spr,int 0,int 0,int cP,int aR])/\
    (σ.del c).Le σ'/\H3 sp lo i 0 M/\∀(j:Nat) (hj:j<rs.length),σ' rs[j]=some (.cells ((M.getD j []).map int))) ⟨_,σ',_,rfl,by simp[J],by simp[e1],by simp[T],by simp[D],by simp[H],by simp[e7],by simp,I,q4,V,N,H3.start sp lo,o⟩ ?_
   clear J e1 T D H e7 e8 I q4 V N o
   rintro c1 i _ gP ⟨env,σ',M,rfl,J,e1,T,D,H,e7,e9,I,q4,V,N,hM,o⟩ ih
   rcases abe i sp with g2|g2
   . have FO:(i:Int)<sp:=by omega
     apply rn;simp[H,e9,FO]
     refine af.loop i (λj s=>∃env σ' M,s=⟨env,σ',[],.no⟩/\env 0=.ref c 0/\env 1=int cnt/\env 4=.ref A 0/\env 5=.ref w 0/\env 6=int sp/\env 7=int lo/\env 9=int i/\env 10=int j/\bj c nums (k+4+3*i+j) σ'/\σ' A=some (.cells fZ)/\σ' w=some (.cells [.lit (.slice none 0 0),.sl 1 (rs.map λb:Nat=>AV.ib b 0 sp sp) spr,int 0,int 0,int cP,int aR])/\
      (σ.del c).Le σ'/\H3 sp lo i j M/\∀(j:Nat) (hj:j<rs.length),σ' rs[j]=some (.cells ((M.getD j []).map int))) ⟨_,σ',M,rfl,by simp[J],by simp[e1],by simp[T],by simp[D],by simp[H],by simp[e7],by simp[e9],by simp,I,q4,V,N,hM,o⟩ ?_
     clear J e1 T D H e7 e9 I q4 V N hM o
     rintro c2 j _ hj ⟨env,σ',M,rfl,J,e1,T,D,H,e7,e9,cS,I,q4,V,N,hM,o⟩ ej
     rcases abe j i with g3|g3
     . have HH:(j:Int)<i:=by omega
       have f1:-9223372036854775808<=(j:Int)+1/\(j:Int)+1<=9223372036854775807:=by omega
       have f2:-9223372036854775808<=2*lo/\2*lo<=9223372036854775807:=by omega
       apply rn;simp[J,e7,e9,cS,HH,f2.1,f2.2];refine cf Tryz.func19 rfl (eQ (by omega) hn ⟨by omega,by omega⟩ ⟨by omega,by omega⟩ I λv r hv hd=>?_)
       have s5:r w=some (.cells [.lit (.slice none 0 0),.sl 1 (rs.map λb:Nat=>AV.ib b 0 sp sp) spr,int 0,int 0,int cP,int aR]):=by rw[hd.2 w K];exact V
       have s4:r A=some (.cells fZ):=by rw[hd.2 A Z];exact q4
       have ca:i<rs.length:=by omega
       have cb:j<rs.length:=by omega
       obtain⟨z1,z2,z3,z4⟩:=bA i ca;obtain⟨y1,y2,y3,y4⟩:=bA j cb;have si:r rs[i]=some (.cells ((M.getD i []).map int)):=by rw[hd.2 _ z2];exact o i ca
       have sj:r rs[j]=some (.cells ((M.getD j []).map int)):=by rw[hd.2 _ y2];exact o j cb
       have fO:rs[i]≠rs[j]:=tY a7 (by omega)
       have ep:=za fO;obtain⟨Ri,et⟩:∃R,R=M.getD i []:=⟨_,rfl⟩;obtain⟨Rj,ev⟩:∃R,R=M.getD j []:=⟨_,rfl⟩;have li:=hM.row i (by omega)
       have lj:=hM.row j (by omega)
       rw[<-et]at si li;rw[<-ev]at sj lj;have gd:j+1<=sp:=by omega
       have gf:i+1<=sp:=by omega
       have g4:j<sp:=by omega
       have gj:(j:Int)<sp:=by omega
       have ey:(i:Int)<sp:=by omega
       have hF:∀g,g=(r.set rs[i] (.cells ((Ri.map int).set j (int v)))).set rs[j] (.cells ((Rj.map int).set i (int v)))->bj c nums (k+4+3*i+(j+1)) g/\g A=some (.cells fZ)/\g w=some (.cells [.lit (.slice none 0 0),.sl 1 (rs.map λb:Nat=>AV.ib b 0 sp sp) spr,int 0,int 0,int cP,int aR])/\(σ.del c).Le g/\∀(l:Nat) (hl:l<rs.length),g rs[l]=some (.cells (((zM M i j v).getD l []).map int)):=λg e3=>by
        subst e3;refine⟨?_,?_,?_,λy x p=>?_,λl hl=>?_⟩
        . obtain⟨X,Y,G,E⟩:=hd.1
          exact⟨X,Y,by omega,by rw[aa.ai _ _ (za y2),aa.ai _ _ (za z2)];exact E⟩
        . rw[aa.ai _ _ (za y3),aa.ai _ _ (za z3)];exact s4
        . rw[aa.ai _ _ (za y4),aa.ai _ _ (za z4)];exact s5
        . have w1:y≠c:=λe=>by subst e;simp[aa.del]at p
          have w0:σ y=some x:=by simpa[aa.del,w1]using p
          have w2:y≠rs[i]:=λe=>by rw[e,z1]at w0;cases w0
          have w3:y≠rs[j]:=λe=>by rw[e,y1]at w0;cases w0
          rw[aa.ai _ _ w3,aa.ai _ _ w2,hd.2 y w1];exact N y x p
        . rw [AQ (by rw[hM.len];omega) (by rw[hM.len];omega) (by omega),<-et,<-ev]
          by_cases q1:l=j
          . subst q1
            rw[aaB rfl,aa.an,acv]
          . rw[aay q1,aa.ai _ _ (tY a7 q1)]
            by_cases q2:l=i
            . subst q2
              rw[aaB rfl,aa.an,acv]
            . rw[aay q2,aa.ai _ _ (tY a7 q2),hd.2 _ (bA l hl).2.1]
              exact o l hl
       have O:=hF _ rfl;clear hF;apply rn;simp[D,e9,cS,s5,b2,g2,g4,gj,ey,gd,gf,li,lj,si,sj,aa.ai,ep];refine⟨?_,?_⟩
       . apply rn
         simp[cS,f1.1,f1.2];refine ej _ g3 ⟨_,_,zM M i j v,rfl,?_,?_,?_,?_,?_,?_,?_,?_,O.1,O.2.1,O.2.2.1,O.2.2.2.1,hM.next (by omega) g3 ⟨hv.1,by omega⟩,O.2.2.2.2⟩<;>simp[J,e1,T,D,H,e7,e9]
       . apply rn
         simp[cS,f1.1,f1.2];refine ej _ g3 ⟨_,_,zM M i j v,rfl,?_,?_,?_,?_,?_,?_,?_,?_,O.1,O.2.1,O.2.2.1,O.2.2.2.1,hM.next (by omega) g3 ⟨hv.1,by omega⟩,O.2.2.2.2⟩<;>simp[J,e1,T,D,H,e7,e9]
     . have gl:i=j:=by omega
       subst gl;have f1:-9223372036854775808<=(i:Int)+1/\(i:Int)+1<=9223372036854775807:=by omega
       apply rn;simp[e9,cS,f1.1,f1.2];refine ih _ g2 ⟨_,_,M,rfl,?_,?_,?_,?_,?_,?_,?_,I.mono (by omega),q4,V,N,hM.line,o⟩<;>simp[J,e1,T,D,H,e7]
   . have gp:sp=i:=by omega
     subst gp;clear ih;have ez:∀l,l<rs.length->(M.getD l []).length=sp:=λl hl=>hM.row l (by omega)
     have eA:w∉rs:=λe=>by
      obtain⟨l,hl,e'⟩:=aaV.1 e
      grind
     have ay:rs.map (λb:Nat=>AV.ib b 0 sp sp)=jc rs M sp 0:=by
      apply List.ext_getElem?;intro l
      by_cases hl:l<rs.length
      . rw[pq hl,aay (by omega),aaY,zU hl]
        grind
      . rw[abv (by simp_all),abv (by rw[po];omega)]
     have aC:jc rs M sp rs.length=M.map ints:=by
      have gw:=hM.len;apply List.ext_getElem?;intro l
      by_cases hl:l<rs.length
      . have gx:l<M.length:=by omega
        rw[pq hl,aaB hl,aaY,zU gx]
        simp_all
      . rw[abv (by rw[po];omega),abv (by simp_all)]
     rw[ay]at V;refine Es (d:=w) (n:=sp) (at_:=1) (rs:=rs) (M:=M) (cs:=[.lit (.slice none 0 0),.cD,int 0,int 0,int cP,int aR]) (spr:=spr) σ' a7 ez (by simp) eA (λg eB eK=>?_) rs.length 0 (by omega) σ' (by simp_all) (λl hl _=>o l hl) (λ_ _ _=>rfl)
     rw[aC]at eB;have gG:=hM.fin;have gw:=hM.len
     have F:∀(j:Nat),j≠w->(∀(l:Nat) (hl:l<rs.length),rs[l]≠j)->g j=σ' j:=λj h1 h2=>eK j h1 λe=>by
      obtain⟨l,hl,e'⟩:=aaV.1 e
      grind
     have eN:bj c nums (k+4+3*sp) g:=by obtain⟨X,Y,G,E⟩:=I;exact⟨X,Y,G,by grind⟩
     have eR:g A=some (.cells fZ):=by grind
     have eW:g w=some (.cells [.lit (.slice none 0 0),.sl 1 (M.map ints) spr,int 0,int 0,int cP,int aR]):=by grind
     have cg:(σ.del c).Le g:=λy x p=>by
      have w1:y≠c:=λe=>by subst e;simp[aa.del]at p
      have w0:σ y=some x:=by simpa[aa.del,w1]using p
      rw[F y (λe=>by grind) (λl hl e=>by grind)]
      exact N y x p
     clear eB eK o ay aC I q4 V N hM ez eA F bA a7 b2;apply rn;simp[J,H,e9];refine cf Tryz.func18 rfl (fA (by omega) hn ⟨by omega,by omega⟩ eN λfr aL gR b5=>?_)
     apply rn;simp[J];refine cf Tryz.func19 rfl (eQ (by omega) hn ⟨by omega,by omega⟩ ⟨by omega,by omega⟩ b5.1 λto bB gU b6=>?_)
     have Q:bB w=some (.cells [.lit (.slice none 0 0),.sl 1 (M.map ints) spr,int 0,int 0,int cP,int aR]):=by rw[b6.2 w K,b5.2 w K];exact eW
     apply rn;simp[J,e1,D,Q,aK];have t4:bB A=some (.cells fZ):=by rw[b6.2 A Z,b5.2 A Z];exact eR
     have cm:(σ.del c).Le bB:=λy x p=>by
      have w1:y≠c:=λe=>by subst e;simp[aa.del]at p
      rw[b6.2 y w1,b5.2 y w1];exact cg y x p
     have eX:∀x,bj c nums (k+6+3*sp) (bB.set w x):=λx=>by obtain⟨n,z,h1,h2⟩:=b6.1;exact⟨n,z,by omega,by rw[aa.ai _ _ (za K)];exact h2⟩
     refine cf Tryz.func18 rfl (fA (by omega) hn ⟨by omega,by omega⟩ (eX _) λq c6 h3 b7=>?_)
     apply rn;simp;have u5:c6 w=some (.cells [.lit (.slice none 0 0),.sl 1 (M.map ints) spr,int fr,int to,int cP,int aR]):=by rw[b7.2 w K,aa.an]
     have u4:c6 A=some (.cells fZ):=by rw[b7.2 A Z,aa.ai _ _ (za S)];exact t4
     have cr:(σ.del c).Le c6:=λy x p=>by
      have w1:y≠c:=λe=>by subst e;simp[aa.del]at p
      have w0:σ y=some x:=by simpa[aa.del,w1]using p
      rw[b7.2 y w1,aa.ai _ _ (λe=>by simp_all)];exact cm y x p
     obtain⟨qn,rfl⟩:∃qn:Nat,q=(qn:Int):=⟨q.toNat,by omega⟩
     have h6:(qn:Int)<=cnt:=by omega
     have cv:=b7.1;clear b5 b6 b7 eX eN eR eW cg cm Q t4
     refine af.loop qn (λi s=>∃env σ' a es,s=⟨env,σ',[],.no⟩/\env 0=.ref c 0/\env 4=.ref A 0/\env 5=.ref w 0/\env 6=int sp/\env 13=int ((qn:Int)-i)/\bj c nums (k+7+3*sp+11*i) σ'/\σ' A=some (.cells fZ)/\σ' w=some (.cells [a,.sl 1 (M.map ints) spr,int fr,int to,int cP,int aR])/\
      Tok (σ.del c) σ' a 6 (es.map bs)/\es.length=i/\(∀e∈es,yF sp e)/\(es=[]->a=.lit (.slice none 0 0))) ⟨_,c6,.lit (.slice none 0 0),[],rfl,by simp[J],by simp[T],by simp[D],by simp[H],by simp,cv.mono (by omega),u4,u5,⟨cr,.inl ⟨rfl,rfl⟩⟩,rfl,by simp,λ_=>rfl⟩ ?_
     clear J e1 T D H e7 e9 cv u4 u5 cr
     rintro c3 i _ h7 ⟨env,σ',a,es,rfl,J,T,D,H,b8,c7,q4,V,u,ea,eb,fc⟩ ih
     have L:=u.cells;have b9:∀a8:aa,Tok (σ.del c) a8 a 6 (es.map bs)->∀y l,a8 y=some (.cells l)->bp a≠some y:=λa8 hx y l p e=>by obtain⟨_,_,q⟩:=hx.aY e;grind
     have fg:∃l,σ' c=some (.cells l):=by obtain⟨_,_,_,q⟩:=c7;grind
     rcases abe i qn with g1|g1
     . have f1 : -9223372036854775808<=(qn:Int)-i-1/\(qn:Int)-i-1<=9223372036854775807:=by omega
       apply rn;simp[J,D,H,b8,V,g1];refine⟨?_,?_⟩
       . ((
           refine cf Tryz.func84 rfl (pj (by omega) hn ⟨by omega,by omega⟩ c7 λe r he hd=>?_)
           have s5:r w=some (.cells [a,.sl 1 (M.map ints) spr,int fr,int to,int cP,int aR]):=by rw[hd.2 w K];exact V
           have s4:r A=some (.cells fZ):=by rw[hd.2 A Z];exact q4
           have P:Tok (σ.del c) r a 6 (es.map bs):=rl u (by simp[aa.del]) fg hd.2
           apply pg;simp[D,s5,L.1,L.2]))
         ((
           refine aN lay rfl rfl rfl nB rfl nB rfl zJ (by decide) (by simp;omega) (σ0:=r.off a) (es:=es.map bs) (xs:=[bs e]) (by simpa using P.here.1) (.inr ⟨_,by simp;rfl⟩) λa' g t=>?_
           have B:=t.cells;have F:∀y l,r y=some (.cells l)->g y=some (.cells l):=λy l p=>t.1 _ _ (by rw[aa.dQ (b9 _ P y l p)];exact p)
           have Q:=F _ _ s5;have t4:=F _ _ s4;apply pg;simp[D,Q,B.1,B.2,aK];apply rn;simp[b8,f1.1,f1.2];obtain⟨X,Y,G,E⟩:=hd.1
           have C:Tok (σ.del c) g a' 6 ((es++[e]).map bs):=by have:=t.base P.here.2;simpa using this
           refine ih _ g1 ⟨_,_,a',es++[e],rfl,by simp[J],by simp[T],by simp[D],by simp[H],by simp;omega,⟨X,Y,by omega,?_⟩,?_,aa.an _ _ _,C.beside (by simp[aa.del,K,aE]) (λe=>by obtain⟨_,_,q⟩:=C.aY e;rw[Q]at q;cases q),by simp[ea],?_,λe=>by simp at e⟩
           . rw[aa.ai _ _ (za K)];exact F _ _ E
           . rw[aa.ai _ _ (za S)];exact t4
           . intro x hx
             rcases aaC.1 hx with hx|hx
             . exact eb x hx
             . simp at hx;subst hx;exact he))
       . ((
           refine cf Tryz.func84 rfl (pj (by omega) hn ⟨by omega,by omega⟩ c7 λe r he hd=>?_)
           have s5:r w=some (.cells [a,.sl 1 (M.map ints) spr,int fr,int to,int cP,int aR]):=by rw[hd.2 w K];exact V
           have s4:r A=some (.cells fZ):=by rw[hd.2 A Z];exact q4
           have P:Tok (σ.del c) r a 6 (es.map bs):=rl u (by simp[aa.del]) fg hd.2
           apply pg;simp[D,s5,L.1,L.2]))
         refine⟨?_,?_⟩
         . ((
             refine aN lay rfl rfl rfl nB rfl nB rfl zJ (by decide) (by simp;omega) (σ0:=r.off a) (es:=es.map bs) (xs:=[bs e]) (by simpa using P.here.1) (.inr ⟨_,by simp;rfl⟩) λa' g t=>?_
             have B:=t.cells;have F:∀y l,r y=some (.cells l)->g y=some (.cells l):=λy l p=>t.1 _ _ (by rw[aa.dQ (b9 _ P y l p)];exact p)
             have Q:=F _ _ s5;have t4:=F _ _ s4;apply pg;simp[D,Q,B.1,B.2,aK];apply rn;simp[b8,f1.1,f1.2];obtain⟨X,Y,G,E⟩:=hd.1
             have C:Tok (σ.del c) g a' 6 ((es++[e]).map bs):=by have:=t.base P.here.2;simpa using this
             refine ih _ g1 ⟨_,_,a',es++[e],rfl,by simp[J],by simp[T],by simp[D],by simp[H],by simp;omega,⟨X,Y,by omega,?_⟩,?_,aa.an _ _ _,C.beside (by simp[aa.del,K,aE]) (λe=>by obtain⟨_,_,q⟩:=C.aY e;rw[Q]at q;cases q),by simp[ea],?_,λe=>by simp at e⟩
             . rw[aa.ai _ _ (za K)];exact F _ _ E
             . rw[aa.ai _ _ (za S)];exact t4
             . intro x hx
               rcases aaC.1 hx with hx|hx
               . exact eb x hx
               . simp at hx;subst hx;exact he))
         . ((
             refine aN lay rfl rfl rfl nB rfl nB rfl zJ (by decide) (by simp;omega) (σ0:=r.off a) (es:=es.map bs) (xs:=[bs e]) (by simpa using P.here.1) (.inr ⟨_,by simp;rfl⟩) λa' g t=>?_
             have B:=t.cells;have F:∀y l,r y=some (.cells l)->g y=some (.cells l):=λy l p=>t.1 _ _ (by rw[aa.dQ (b9 _ P y l p)];exact p)
             have Q:=F _ _ s5;have t4:=F _ _ s4;apply pg;simp[D,Q,B.1,B.2,aK];apply rn;simp[b8,f1.1,f1.2];obtain⟨X,Y,G,E⟩:=hd.1
             have C:Tok (σ.del c) g a' 6 ((es++[e]).map bs):=by have:=t.base P.here.2;simpa using this
             refine ih _ g1 ⟨_,_,a',es++[e],rfl,by simp[J],by simp[T],by simp[D],by simp[H],by simp;omega,⟨X,Y,by omega,?_⟩,?_,aa.an _ _ _,C.beside (by simp[aa.del,K,aE]) (λe=>by obtain⟨_,_,q⟩:=C.aY e;rw[Q]at q;cases q),by simp[ea],?_,λe=>by simp at e⟩
             . rw[aa.ai _ _ (za K)];exact F _ _ E
             . rw[aa.ai _ _ (za S)];exact t4
             . intro x hx
               rcases aaC.1 hx with hx|hx
               . exact eb x hx
               . simp at hx;subst hx;exact he))
     . have gA:i=qn:=by omega
       subst gA;apply rn;simp[T,D,b8,V,L.2,q4,aK];obtain⟨X,Y,G,E⟩:=c7;obtain⟨f,hf⟩:∃f:Fr,f=⟨es,M,fr,to,cP,aR⟩:=⟨_,rfl⟩
       have gB:ve cnt f:=by
        subst hf;refine⟨ee,dx,by grind,⟨lo,fv,by grind⟩,by grind,by grind,by grind,λe he=>?_⟩
        grind
       obtain⟨a2,gC,h8⟩:∃a2,((f.aD=[]->a2=.lit (.slice none 0 0))/\(f.aD≠[]->a2=jI f.aD))/\a.W a2:=by
        by_cases e:es=[]
        . exact⟨_,⟨λ_=>rfl,λe2=>absurd (by grind) e2⟩,by rw[fc e];exact .refl _⟩
        . exact⟨_,⟨λe2=>absurd (by grind) e,λ_=>rfl⟩,by subst hf;exact u.W⟩
       refine .pM (a':=.agg [a2,rows f.roads,int f.aU,int f.eZ,int f.cP,int f.aR]) (qy (by grind) λi x y x1 x2=>?_) (.less (σ':=σ.set c (.cells [ints nums,int X,.lit (.int .u64 Y)])) (λy x p=>?_) (.done (h f a2 _ gB ⟨⟨X,Y,by omega,aa.an _ _ _⟩,λy p=>aa.ai _ _ p⟩ gC)))
       . subst hf
         match i with
         |0=>grind
         |1=>simp at x1 x2;subst x1;subst x2;exact gy 1 _ spr
         |2=>simp at x1 x2;subst x1;subst x2;exact .refl _
         |3=>simp at x1 x2;subst x1;subst x2;exact .refl _
         |4=>simp at x1 x2;subst x1;subst x2;exact .refl _
         |5=>simp at x1 x2;subst x1;subst x2;exact .refl _
         |i+6=>simp at x1
       . by_cases y1:y=c
         . subst y1
           rw[aa.an]at p;rw[aa.ai _ _ n4,E];exact p
         . rw[aa.ai _ _ y1]at p
           have y4:y≠A:=λe=>by grind
           rw[aa.ai _ _ y4];exact u.1 y x (by simpa[aa.del,y1]using p)
end
end
section
open Go.cG Go.Conc
theorem NY{f:Fr}(b:f.Good)(e:m5):bU f e≠[]:=by
 unfold bU jj;have:=b.le;by_cases a:e.jQ=0
 . simp[a]
 . have c:(f.eZ-f.aU+1).toNat=(f.eZ-f.aU).toNat+1:=by omega
   rw[aaB a,c,List.range_succ_eq_map];split<;>simp
def NZ(f:Fr)(l:adG):adG:=(bU f (aS f (l.getD 0 0))).filter λh=>l.all λj=>decide (h∈bU f (aS f j))
theorem Et{f:Fr}{l:adG}(b:l≠[]):gk f l=NZ f l:=by
 match l,b with
 | a::r,_=>
   simp only[gk,NZ,iS,acB,List.getD_cons_zero];refine abK λx c=>?_
   simp[c]
theorem tZ(f:Fr):∀(l:adG) (p:adB),(∀x∈l,0<=x/\x<f.aD.length)->l.Pairwise (·<·)->(∀q,p=some q->∀x∈l,q<x)->iW f p l=0
 |[],_,_,_,_=>rfl
 | a :: l,p,d,e,g=>by
   have h:=d a (by simp);have b:=abb.1 e;have i:bt a 0 (f.aD.length-1)=true:=by simp[bt,h.1];omega
   have j:rV p a=false:=by
    cases p with
    |none=>rfl
    | some q=>
      have:=g q rfl a (by simp);simp[rV];omega
   unfold iW;rw[i,aay (by simp),j,aay (by simp)];exact tZ f l (some a) (λx c=>d x (by simp[c])) b.2 (λq k x c=>by cases k;exact b.1 x c)
section
variable{k:Int->Int}
abbrev Eu(k:Int->Int):ade:=λa b=>decide (k a<k b)
def Dn(k:Int->Int)(r:adG):Prop:=r.Pairwise λy z=>k z<=k y
theorem Ev(x:Int):∀{r:adG},(∀z∈r,k z<=k x)->eP (Eu k) x r=x::r
 |[],_=>rfl
 | y::r,h=>by
   unfold eP
   grind
theorem AR(x:Int):∀{r:adG}{z:Int},z∈eP (Eu k) x r->z=x\/z∈r
 |[],z,h=>by simp[eP]at h;exact .inl h
 | y :: r,z,h=>by
   unfold eP at h;split at h
   . rcases aaQ.1 h with rfl|h
     . simp_all
     . rcases AR x h with h|h
       . exact .inl h
       simp_all
   simp_all
theorem wY(x:Int):∀{r:adG},Dn k r->Dn k (eP (Eu k) x r)
 |[],_=>by simp[eP,Dn]
 | y ::r,h=>by
   obtain⟨d,b⟩:=abb.1 h;unfold eP;split
   . next q=>
     have c:k x<k y:=by simp_all
     refine abb.2 ⟨λz a=>?_,wY x b⟩;rcases AR x a with rfl|a
     . omega
     simp_all
   . next q=>
     have c:¬k x<k y:=by simp_all
     refine abb.2 ⟨λz a=>?_,h⟩
     grind
theorem Cl{x y:Int}{r:adG}(h:k x<k y):eP (Eu k) x (y::r)=y::eP (Eu k) x r:=by simp[eP,Eu,h]
theorem Cm{x y:Int}{r:adG}(h:¬k x<k y):eP (Eu k) x (y::r)=x::y::r:=by simp[eP,Eu,h]
theorem Ew(x:Int):∀r:adG,r.Sublist (eP (Eu k) x r)
 |[]=>List.nil_sublist _
 | y::r=>by
   unfold eP;split
   . exact(Ew x r).cons_cons y
   simp_all
theorem N1(x:Int){d r:adG}(a:d.Sublist r)(hd:Dn k r):(eP (Eu k) x d).Sublist (eP (Eu k) x r):=by
 induction a with
 |slnil=>simp_all
 | cons y a b=>
   obtain⟨e,c⟩:=abb.1 hd;by_cases q:k x<k y
   . rw[Cl q]
     exact(b c).cons y
   . rw[Cm q,Ev x (λz f=>by grind)]
     simp_all
 | cons_cons y a b=>
   obtain⟨e,c⟩:=abb.1 hd;by_cases q:k x<k y
   . rw[Cl q,Cl q]
     exact(b c).cons_cons y
   . rw[Cm q,Cm q]
     simp_all
theorem Kc{d l:adG}(b:d.Sublist l):∀{a r:adG},a.Sublist r->Dn k r->(d.foldl (λr x=>eP (Eu k) x r) a).Sublist (l.foldl (λr x=>eP (Eu k) x r) r):=by
 induction b with
 |slnil=>simp_all
 |cons x b c=>intro a r h hd;exact c (h.trans (Ew x r)) (wY x hd)
 |cons_cons x b c=>intro a r h hd;exact c (N1 x h hd) (wY x hd)
end
theorem m8(f:Fr)(l:adG):aZ f l=(fe (Eu λn=>(aS f n).hour) l).reverse:=by
 unfold aZ;congr 2;funext a b;unfold vd Ce Eu
 grind
theorem Cn{f:Fr}{a l:adG}(b:a.Sublist l):(aZ f a).Sublist (aZ f l):=by rw[m8,m8];exact(Kc b (List.Sublist.refl _) List.Pairwise.nil).reverse
theorem ua{f:Fr}{l:adG}{n:Int}:n∈aZ f l↔n∈l:=by unfold aZ;rw[List.mem_reverse,vb]
theorem Sx:∀a:Fin 32,∀b:Fin 32,∀c:Fin 32,bM (a.val:Int) (c.val:Int)<=bM (a.val:Int) (b.val:Int)+bM (b.val:Int) (c.val:Int):=by decide +kernel
theorem lK{l:adG}(h:tQ none l=0):∃a:Fin 32,aT l=(a.val:Int):=by have:=kG (rk h);exact⟨⟨(aT l).toNat,by omega⟩,by grind⟩
def Fit(f:Fr)(a b:Int):Prop:=gY f a b=false
theorem Fr.Good.tri{f:Fr}(a:f.Good){i j k:Nat}(hi:i<f.roads.length)(hj:j<f.roads.length)(b:k<f.roads.length):rd f.roads i k<=rd f.roads i j+rd f.roads j k:=by
 have h:=a.KJ;unfold fX at h;split at h
 . cases h
 split at h
 . cases h
 split at h
 . omega
 split at h
 . cases h
 next q=>
 simp only[aba,aax,not_exists,not_and]at q;have c:=q i hi k b;unfold dR at c
 grind
theorem ga{f:Fr}{n:Int}(h:0<=n/\n<f.aD.length):aS f n∈f.aD:=by
 have:n.toNat<f.aD.length:=by omega
 rw[tX this]
 simp_all
theorem AS{f:Fr}(d:f.Good){a b c:Int}(q:0<=a/\a<f.aD.length)(hb:0<=b/\b<f.aD.length)(r:0<=c/\c<f.aD.length)(e:Fit f a b)(g:Fit f b c):Fit f a c:=by
 have h:=oa (d.sJ _ (ga q));have l:=oa (d.sJ _ (ga hb));have m:=oa (d.sJ _ (ga r));have hd:=d.cP;obtain⟨A,n⟩:=lK h.2.2.2.2.2;obtain⟨B,o⟩:=lK l.2.2.2.2.2;obtain⟨C,p⟩:=lK m.2.2.2.2.2;have s:=Sx A B C;have t:=h.2.1;have u:=l.2.1;have pc:=m.2.1;have v:=d.tri (i:=(aS f a).place.toNat) (j:=(aS f b).place.toNat) (k:=(aS f c).place.toNat) (by omega) (by omega) (by omega);unfold Fit gY at e g ⊢;rw[n,o]at e;rw[o,p]at g;rw[n,p];simp only[abi]at e g ⊢;have w:f.cP*bM (A.val:Int) (C.val:Int)<=f.cP*(bM (A.val:Int) (B.val:Int)+bM (B.val:Int) (C.val:Int)):=Int.mul_le_mul_of_nonneg_left s (by omega)
 grind
theorem yG(f:Fr)(a b:Int)(r:adG):dC f (a::b::r)=(gY f a b||dC f (b::r)):=by
 unfold dC;rw[show(a::b::r).length-1=r.length+1 from rfl,List.range_succ_eq_map,List.any_cons,List.any_map];rfl
theorem vf{f:Fr}(e:f.Good):∀{l:adG},(∀n∈l,0<=n/\n<f.aD.length)->dC f l=false->l.Pairwise (Fit f)
 |[],_,_=>List.Pairwise.nil
 |[a],_,_=>List.pairwise_singleton _ _
 | a::b::r,d,h=>by
   rw[yG,acn]at h;have g:=vf e (λn i=>d n (by simp[i])) h.2;refine abb.2 ⟨λz j=>?_,g⟩;rcases aaQ.1 j with rfl|c
   . exact h.1
   . exact AS e (d a (by simp)) (d b (by simp)) (d z (by simp[c])) h.1 ((abb.1 g).1 z c)
theorem rp{f:Fr}:∀{l:adG},l.Pairwise (Fit f)->dC f l=false
 |[],_=>rfl
 |[a],_=>rfl
 |a::b::r,h=>by obtain⟨c,d⟩:=abb.1 h;rw[yG,rp d,Bool.or_false];exact c b (by simp)
theorem rq{f:Fr}{l:adG}(b:l≠[]){h:Int}:h∈gk f l↔∀j∈l,h∈bU f (aS f j):=by
 rw[Et b]
 match l,b with
 | a::r,_=>
   simp only[NZ,aaZ,aaD,KD]
   simp_all
theorem qz{f:Fr}{l:adG}:jJ f l=0↔eo f (aZ f l)=false/\cY f (aZ f l)=false/\dC f (aZ f l)=false:=by
 unfold jJ
 grind
theorem Qo{f:Fr}(m:f.Good){c l:adG}(o:c.Sublist l)(p:c≠[])(q:∀n∈l,0<=n/\n<f.aD.length)(h:jJ f l=0):jJ f c=0:=by
 obtain⟨s,g,t⟩:=qz.1 h;have i:=Cn (f:=f) o
 have b:aZ f c≠[]:=λe=>by
  cases c with
  |nil=>grind
  |cons a r=>have:a∈aZ f (a::r):=ua.2 (by simp);simp_all
 have d:aZ f l≠[]:=λe=>b (by simp_all)
 have u:∀n∈aZ f l,0<=n/\n<f.aD.length:=λn v=>q n (ua.1 v)
 generalize aZ f l=S at *;refine qz.2 ⟨?_,?_,rp ((vf m u t).sublist i)⟩
 . generalize aZ f c=k at *
   unfold eo at s ⊢
   grind
 . generalize aZ f c=k at *
   unfold cY at g ⊢;simp only[abi]at g ⊢;obtain⟨x,w⟩:=abS _ g;have:x∈gk f k:=(rq b).2 λj y=>(rq d).1 w j (i.subset y)
   grind
theorem Sz{f:Fr}(b:f.Good)(n:Int):jJ f [n]=0:=by
 have e:aZ f [n]=[n]:=by simp[aZ,fe,eP]
 refine qz.2 ?_;rw[e];refine⟨by simp[eo],?_,rfl⟩;unfold cY;simp only[abi];obtain⟨x,c⟩:=abS _ (NY b (aS f n));exact abZ ((rq (by simp)).2 (λj a=>by simp at a;subst a;exact c))
theorem H4{α β:Type}{B:Nat}{g:α->List β}:∀(l:List α),(∀x∈l,(g x).length<=B)->(l.flatMap g).length<=l.length*B
 |[],_=>by simp
 | a::l,h=>by
   rw[ach,aaF,aaW,acp,Nat.one_mul];have c:=h a (by simp);have d:=H4 l λx b=>h x (by simp[b])
   omega
theorem Ey{f:Fr}(a:f.Good)(begun:adG):∀(fuel:Nat) (way:adG) (many:Int) (b:adG),(fY f begun fuel way many b).length<=6 ^ fuel
 |0,_,_,_=>by simp[fY]
 | fuel+1,way,many,b=>by
   unfold fY;refine aaG (H4 (B:=6 ^ fuel) _ λk _=>?_) ?_
   . split
     . simp
     split
     . exact Ey a begun fuel _ _ _
     . simp
   . rw[acj,Nat.pow_succ,Nat.mul_comm]
     have:=a.aR;exact Nat.mul_le_mul_left _ (by omega)
theorem Co{f:Fr}(a:f.Good)(begun:adG):(aI f begun).length<=46656:=by refine aaG (Ey a begun _ _ _ _) ?_;exact Nat.pow_le_pow_right (by omega) a.pJ
theorem m9(f:Fr)(begun:adG):∀(fuel:Nat) (way:adG) (many:Int) (a:adG),begun.length<=way.length->fY f begun fuel way many a=fY f [] fuel way many a
 |0,_,_,_,_=>rfl
 | fuel+1,way,many,a,h=>by
   unfold fY;congr 1;funext k;have b:¬(way.length<begun.length/\begun.getD way.length 0≠(k:Int)):=by omega
   have c:¬(way.length<([]:adG).length/\([]:adG).getD way.length 0≠(k:Int)):=by simp
   rw[aay b,aay c];split
   . exact m9 f begun fuel _ _ _ (by simp;omega)
   . rfl
theorem GF{f:Fr}(b:f.Good)(e:2<=f.aD.length):aI f []=aI f [0,0]++aI f [0,1]:=by
 obtain⟨n,c⟩:∃n,f.aD.length=n+2:=⟨f.aD.length-2,by omega⟩;have g:=b.aR;have d:(min ((0:Int)+1) f.aR).toNat=1:=by omega
 unfold aI;rw[c];unfold fY;rw[d];simp only[aaO,acK,acs,ach,List.flatMap_nil,abh];simp;by_cases a:jV f (bT 0 0)=true
 . simp only[a,aaA]
   unfold fY;have e2:(min (max (0:Int) 1+1) f.aR).toNat=1\/(min (max (0:Int) 1+1) f.aR).toNat=2:=by omega
   rcases e2 with e2|e2
   . rw[e2]
     simp only[aaO,acK,acs,ach,List.flatMap_nil,abh];simp;rw[m9 f [0,0] n [0,0] _ _ (by simp)]
   . rw[e2]
     simp only[aaO,acK,acs];simp;rw[m9 f [0,0] n [0,0] _ _ (by simp),m9 f [0,1] n [0,1] _ _ (by simp)]
 . simp[a]
theorem N2{f:Fr}(a:f.Good)(d:f.aD.length<2):aI f []≠[]:=by
 have e:=a.aR;have b:(min ((0:Int)+1) f.aR).toNat=1:=by omega
 have c:jV f (bT 0 0)=true:=by
  have:aB (bT 0 0)=[0]:=by decide +kernel
  unfold jV;rw[this,KD];exact Sz a 0
 rcases(show f.aD.length=0\/f.aD.length=1 by omega)with hn|hn
 . unfold aI;rw[hn];simp[fY]
 . unfold aI;rw[hn]
   unfold fY;rw[b];simp only[aaO,acK,acs,ach,List.flatMap_nil,abh];simp[c,fY]
theorem GG{f:Fr}(a:f.Good)(b:2<=f.aD.length):iv f=((aI f []).length:Int):=by
 unfold iv;rw[aay (by omega),GF a b,aaF];omega
theorem AT{f:Fr}(a:f.Good):0<iv f↔aI f []≠[]:=by
 by_cases b:2<=f.aD.length
 . rw[GG a b]
   cases aI f []<;>simp
 . have:=N2 a (by omega)
   have e:iv f=1:=by unfold iv;omega
   simp_all
theorem yH{β:Type}{G:Nat->List β}{c:Nat}:∀d:Nat,(∀j,c<=j->j<c+d->G j=[])->(List.range (c+d)).flatMap G=(List.range c).flatMap G
 |0,_=>rfl
 | d+1,h=>by
   rw[<-Nat.add_assoc,aaO,abN,yH d λj a b=>h j a (by omega)]
   simp_all
theorem AU{α β:Type}{f g:α->List β}{l:List α}(h:∀x∈l,f x=g x):l.flatMap f=l.flatMap g:=by rw[List.flatMap_def,List.flatMap_def,abU h]
def ba(w:adG)(k:Int):adG:=(w.zipIdx.filter λp=>decide (p.1=k)).map λp=>(p.2:Int)
def H5(l:adG):acW:=(List.range (bu l+1).toNat).map λk:Nat=>l++[(k:Int)]
def jd:Nat->acW
 |0=>[[]]
 |i+1=>(jd i).flatMap H5
def sC:Nat->adG->acW
 |0,l=>[l]
 |n+1,l=>(List.range (bu l+1).toNat).flatMap λk:Nat=>sC n (l++[(k:Int)])
def na(f:Fr)(l:adG):Bool:=decide (bu l<=f.aR) && (List.range (bu l).toNat).all λk:Nat=>decide (jJ f (ba l k)=0)
theorem cZ(w:adG)(x k:Int):ba (w++[x]) k=ba w k++if x=k then[(w.length:Int)]else[]:=by
 unfold ba
 grind
theorem Ez(w t:adG)(k:Int):(ba w k).Sublist (ba (w++t) k):=by
 unfold ba
 grind
theorem dg{w:adG}{k n:Int}(h:n∈ba w k):0<=n/\n<w.length/\w.getD n.toNat 0=k:=by
 unfold ba at h
 grind
theorem bF(w:adG)(x:Int):bu (w++[x])=max (bu w) (x+1):=by
 unfold bu
 simp_all
theorem rY(t:adG):∀n:Int,n<=t.foldl (λn k=>max n (k+1)) n:=by
 induction t with
 |nil=>simp_all
 |cons a t b=>grind
theorem iw(w t:adG):bu w<=bu (w++t):=by unfold bu;rw[abf];exact rY t _
theorem qA(w:adG):0<=bu w:=rY w 0
theorem ub:∀(n:Nat) (w l:adG),l∈sC n w->∃t,l=w++t/\t.length=n
 |0,w,l,h=>by simp[sC]at h;simp_all
 | n+1,w,l,h=>by
   unfold sC at h;obtain⟨k,_,a⟩:=abC.1 h;obtain⟨t,b,c⟩:=ub n _ l a
   simp_all
theorem vg:∀n m:Nat,(jd m).flatMap (sC n)=jd (m+n)
 | 0,m=>by
   have:sC 0=λl=>[l]:=by funext l;rfl
   simp_all
 | n+1,m=>by
   have e:∀l,sC (n+1) l=(H5 l).flatMap (sC n):=λl=>by unfold H5;rw[List.flatMap_map];rfl
   rw[show m+(n+1)=m+1+n by omega,<-vg n (m+1),jd,List.flatMap_assoc]
   exact AU λl _=>e l
theorem N3:∀x:Fin 64,∀n:Fin 6,(∀e∈aB (x.val:Int),e<(n.val:Int))->aB (bT (x.val:Int) (n.val:Int))=aB (x.val:Int)++[(n.val:Int)]:=by decide +kernel
theorem AW{x:Int}{n:Nat}(b:0<=x/\x<64)(a:n<6)(h:∀e∈aB x,e<n):aB (bT x n)=aB x++[(n:Int)]:=by
 have c:(x.toNat:Int)=x:=by omega
 have:=N3 ⟨x.toNat,by omega⟩ ⟨n,a⟩
 simp_all
theorem EA{f:Fr}(b:f.Good){w t:adG}{k:Nat}(hlen:(w++t).length=f.aD.length)(e:(k:Int)<bu w)(a:ba w k≠[])(h:na f (w++t)=true):jJ f (ba w k)=0:=by
 unfold na at h;rw[zj,aaD]at h;have g:=iw w t;have c:=h.2 k (aax.2 (by omega));refine Qo b (Ez w t k) a (λn d=>?_) (abM c);have:=dg d;omega
theorem yI{f:Fr}(p:f.Good):∀(fuel:Nat) (way b:adG),way.length+fuel=f.aD.length->Hs f way.length b->(∀k:Nat,k<6->aB (b.getD k 0)=ba way k)->bu way<=f.aR->(∀k:Nat,(k:Int)<bu way->jJ f (ba way k)=0) ->
 fY f [] fuel way (bu way) b=(sC fuel way).filter (na f)
 | 0,way,b,_,_,_,v,w=>by
   have:na f way=true:=by
    unfold na
    grind
   simp[fY,sC,this]
 | fuel+1,way,b,B,q,hb,v,w=>by
   have r:=p.aR;have C:=p.pJ;have x:=qA way;rw[sB];unfold sC;rw[List.filter_flatMap];obtain⟨d,hd⟩:∃d,(bu way+1).toNat=(min (bu way+1) f.aR).toNat+d:=⟨(bu way+1).toNat-(min (bu way+1) f.aR).toNat,by omega⟩
   rw[hd,yH d λj D E=>?_]
   . refine AU λk u=>?_
     have u:=aax.1 u;have h:k<6:=by omega
     have c:k<b.length:=by rw[q.pJ];exact h
     have i:b.getD k 0=b[k]:=by simp_all
     have m:way.length<6:=by omega
     have n:aB (bT b[k] way.length)=ba (way++[(k:Int)]) k:=by rw[AW (q.small _ (zG c)) m (q.bits _ (zG c)),<-i,hb k h,cZ,aaB rfl]
     unfold pK;rw[aay (by simp),i]
     by_cases o:jV f (bT b[k] way.length)=true
     . rw [aaB o,<-bF]
       unfold jV at o;rw[KD,n]at o;have y:=q.set m c;refine yI p fuel _ _ (by simp;omega) (by simp_all) (λj s=>?_) (by rw[bF];omega) λj s=>?_
       . by_cases e:j=k
         . simp_all
         . rw[zA,abp (za e),<-List.getD_eq_getElem?_getD,hb j s,cZ,aay (by omega),abh]
       . by_cases e:j=k
         . simp_all
         . rw[bF]at s
           rw[cZ,aay (by omega),abh]
           grind
     . rw[aay o]
       symm;rw[acG];intro l g a;obtain⟨t,rfl,z⟩:=ub _ _ _ g;refine o ?_;unfold jV;rw[KD,n];refine EA p (by simp;omega) (by rw[bF];omega) ?_ a
       rw[cZ,aaB rfl];simp
   . rw[acG]
     intro l g a;obtain⟨t,rfl,z⟩:=ub _ _ _ g;unfold na at a;rw[zj,KD]at a;have A:=iw (way++[(j:Int)]) t;rw[bF]at A;omega
theorem mr{f:Fr}(d:f.Good):(jd f.aD.length).filter (na f)=aI f []:=by
 have n:=d.aR;have i:bu []=0:=rfl;have j:aB 0=[]:=by decide +kernel
 have l:∀x∈([0,0,0,0,0,0]:adG),x=0:=λx g=>by simp_all
 have m:Hs f ([]:adG).length [0,0,0,0,0,0]:=⟨rfl,λx g e o=>by simp_all,λx g=>by simp_all⟩
 have c:∀k:Nat,k<6->aB (([0,0,0,0,0,0]:adG).getD k 0)=ba [] k:=λk h=>by
  have:([0,0,0,0,0,0]:adG).getD k 0=0:=by
   match k,h with
   |0,_=>rfl
   |1,_=>rfl
   |2,_=>rfl
   |3,_=>rfl
   |4,_=>rfl
   |5,_=>rfl
  rw[this,j];rfl
 have a:=yI d f.aD.length [] [0,0,0,0,0,0] (by simp) m c (by omega) (λk h=>by omega);rw[i]at a;have b:=vg f.aD.length 0;rw[abL]at b;unfold aI;rw[a,<-b];simp[jd]
theorem od:∀(i:Nat),∀l∈jd i,l.length=i/\(∀x∈l,0<=x/\x<i)/\bu l<=i
 |0,l,h=>by simp[jd]at h;subst h;exact⟨rfl,by simp,by decide⟩
 | i+1,l,h=>by
   unfold jd at h;obtain⟨p,c,a⟩:=abC.1 h;obtain⟨d,e,f⟩:=od i p c;unfold H5 at a;obtain⟨k,b,rfl⟩:=aaL.1 a;have b:=aax.1 b;have:=qA p;refine⟨by simp[d],λx g=>?_,by rw[bF];omega⟩
   grind
end
section
open Go.cG Go.Conc
variable{m:Mo}{σ:aa}{KF:adl}
def toldOf(n all:Int):Int:=if n=0 then 2 else if n=all then 1 else 3
theorem pr{n all:Int}(a:0<=n)(b:n<=all)(c:0<all):iu n all=toldOf n all:=by unfold iu toldOf;omega
end
section
open Go.cG Go.Conc
theorem EB{k:Int->Int}:∀(l r:adG),(∀z∈r,∀x∈l,k z<=k x)->l.Pairwise (λa b=>k a<=k b)->l.foldl (λr x=>eP (Eu k) x r) r=l.reverse++r
 |[],r,_,_=>rfl
 | a::l,r,d,e=>by
   obtain⟨g,f⟩:=abb.1 e;rw[abr,Ev a (λz c=>d z c a (by simp)),EB l (a::r) (λz c x h=>?_) f,List.reverse_cons,abJ]
   . rfl
   grind
theorem EC{f:Fr}{l:adG}(h:l.Pairwise λa b=>(aS f a).hour<=(aS f b).hour):aZ f l=l:=by
 rw[m8];unfold fe;rw[EB l [] (by simp) h];simp
theorem qB(k:Int):∀(w:adG) (n:Nat),(((w.zipIdx n).filter λp=>decide (p.1=k)).map λp=>(p.2:Int)).Pairwise (·<·)/\∀x∈(((w.zipIdx n).filter λp=>decide (p.1=k)).map λp=>(p.2:Int)),(n:Int)<=x
 |[],n=>by simp
 | a ::w,n=>by
   have b:=qB k w (n+1);rw[List.zipIdx_cons,List.filter_cons];split
   . rw[acB]
     refine⟨abb.2 ⟨λx c=>?_,b.1⟩,λx c=>?_⟩
     . grind
     grind
   grind
theorem fS{w:adG}{k:Int}{i:Nat}(hi:i<w.length)(h:w.getD i 0=k):(i:Int)∈ba w k:=by
 unfold ba;refine aaL.2 ⟨(w[i],i),aaZ.2 ⟨?_,?_⟩,rfl⟩
 . grind
 simp_all
def vh:adG->adG->adG->adG × List Int
 |[],w,s=>(w,s)
 |h::l,w,s=>if h∈s then vh l (w++[(s.idxOf h:Int)]) s else vh l (w++[(s.length:Int)]) (s++[h])
structure Canon(p w s:adG):Prop where
 len:w.length=p.length
 many:bu w=s.length
 nd:s.Nodup
 sub:∀x∈s,x∈p
 yJ:∀k:Nat,(hk:k<s.length)->ba w k=ba p s[k]
 part:w∈jd p.length
theorem Canon.all{p w s:adG}(h:Canon p w s):∀x∈p,x∈s:=λx c=>by
 obtain⟨i,d,rfl⟩:=aaV.1 c;have f:=(od _ _ h.part).2.1;have a:i<w.length:=by rw[h.len];exact d
 have g:w[i]<bu w:=by
  have e:w=w.take i++(w[i]::w.drop (i+1)):=by simp_all
  have:bu (w.take i++[w[i]])<=bu w:=by
   have:=iw (w.take i++[w[i]]) (w.drop (i+1))
   grind
  rw[bF]at this;omega
 have k:=f _ (zG a);rw[h.many]at g;have j:w[i].toNat<s.length:=by omega
 have b:(i:Int)∈ba w (w[i].toNat:Int):=fS a (by grind);rw[h.yJ _ j]at b;have:=(dg b).2.2
 simp_all
theorem oe{s:adG}{h:Int}(a:h∈s):∃b:s.idxOf h<s.length,s[s.idxOf h]=h:=⟨List.idxOf_lt_length_iff.2 a,List.getElem_idxOf (List.idxOf_lt_length_iff.2 a)⟩
theorem yK{s:adG}(a:s.Nodup){i j:Nat}{hi:i<s.length}{hj:j<s.length}(e:s[i]=s[j]):i=j:=by
 rw[List.Nodup,List.pairwise_iff_getElem]at a
 grind
theorem vi:∀(l p w s:adG),Canon p w s->Canon (p++l) (vh l w s).1 (vh l w s).2
 |[],p,w,s,h=>by simpa[vh]using h
 | a :: l, p,w,s,h=>by
   have hlen:=h.len;rw[show p++a::l=(p++[a])++l by simp];unfold vh;split
   . next f=>
     obtain⟨i,t⟩:=oe f;refine vi l _ _ _ ⟨by simp[hlen],?_,h.nd,λx hx=>by simp[h.sub x hx],λk c=>?_,?_⟩
     . rw[bF,h.many];omega
     . rw[cZ,cZ,h.yJ k c,hlen]
       by_cases e:k=s.idxOf a
       . simp_all
       . rw[aay (by omega),aay (λj=>e (yK h.nd (hi:=c) (hj:=i) (by omega)))]
     . rw[aaF,abw,jd,abC]
       exact⟨w,h.part,aaL.2 ⟨_,aax.2 (by rw[h.many];omega),rfl⟩⟩
   . next f=>
     refine vi l _ _ _ ⟨by simp[hlen],?_,?_,λx hx=>?_,λk c=>?_,?_⟩
     . rw[bF,h.many,aaF];simp;omega
     . rw[acA]
       exact⟨h.nd,by simp,λx hx y u=>by grind⟩
     . rcases aaC.1 hx with hx|hx
       . simp[h.sub x hx]
       simp_all
     . rw [cZ,cZ,hlen]
       rw[aaF,abw]at c;by_cases e:k=s.length
       . subst e
         rw[aaB rfl];have m:(s++[a])[s.length]=a:=by simp
         rw[m,aaB rfl];congr 1
         have n:ba w (s.length:Int)=[]:=by
          rw[List.eq_nil_iff_forall_not_mem];intro x hx;obtain⟨o,q,g⟩:=dg hx;have b:x.toNat<w.length:=by omega
          rw[zA,zU b,abn]at g;have e:w=w.take x.toNat++(w[x.toNat]::w.drop (x.toNat+1)):=by rw[<-List.drop_eq_getElem_cons b,List.take_append_drop]
          have:=iw (w.take x.toNat++[w[x.toNat]]) (w.drop (x.toNat+1));rw[abJ,acM,<-e,bF,h.many]at this;omega
         have r:ba p a=[]:=by
          rw[List.eq_nil_iff_forall_not_mem];intro x hx;obtain⟨o,q,g⟩:=dg hx;have b:x.toNat<p.length:=by omega
          rw[zA,zU b,abn]at g;exact f (g ▸ h.all _ (zG b))
         rw[n,r]
       . have d:k<s.length:=by omega
         rw[aay (by omega),List.getElem_append_left d,aay (λj=>f (by simp_all)),h.yJ k d]
     . rw[aaF,abw,jd,abC]
       exact⟨w,h.part,aaL.2 ⟨_,aax.2 (by rw[h.many];omega),rfl⟩⟩
theorem ED(p:adG):∃w s,Canon p w s:=⟨_,_,by
 have:=vi p [] [] [] ⟨rfl,rfl,acz,by simp,λk a=>by simp at a,by simp[jd]⟩;simpa using this⟩
theorem vl:∀(m:Nat) (s:adG),s.Nodup->(∀x∈s,0<=x/\x<m)->s.length<=m
 | 0,s,_,h=>by
   cases s with
   |nil=>simp_all
   |cons a s=>have:=h a (by simp);omega
 | m+1,s,b,h=>by
   have c:=vl m (s.erase (m:Int)) (b.erase _) λx d=>by grind
   grind
abbrev sD:m5:=⟨0,0,0,[],0,0⟩
def N4(f:Fr)(a b:m5):Prop:=rd f.roads a.place.toNat b.place.toNat+f.cP*bM (aT a.marks) (aT b.marks)<=b.hour-a.hour
structure Seen(f0:Fr)(aR:Nat)(C H:adG)(ks:adG)(es last:adR):Prop where
 len:ks.length=es.length
 SA:∀x∈ks,0<=x/\x<aR
 sJ:∀e∈es,cL f0.roads.length e=0
 cX:∀i,i<es.length->(es.getD i sD).cX=C.getD (ks.getD i 0).toNat 0
 TK:∀i,i<es.length->H.getD (ks.getD i 0).toNat 0∈bU f0 (es.getD i sD)
 fit:∀i j,i<j->j<es.length->ks.getD i 0=ks.getD j 0->(∀m,i<m->m<j->ks.getD m 0≠ks.getD i 0)->N4 f0 (es.getD i sD) (es.getD j sD)
 Xz:∀i,i<es.length->(∀m,i<m->m<es.length->ks.getD m 0≠ks.getD i 0)->last.getD (ks.getD i 0).toNat sD=es.getD i sD
 H6:∀k,k<aR->(last.getD k sD).cX=C.getD k 0
 SB:last.length=aR
theorem TL{α:Type}(l:List α)(x d:α)(i:Nat):(l++[x]).getD i d=if i<l.length then l.getD i d else if i=l.length then x else d:=by grind
theorem Seen.push{f0:Fr}{aR:Nat}{C H ks:adG}{es last:adR}(h:Seen f0 aR C H ks es last){k:Nat}{n:m5}(v:k<aR)(A:cL f0.roads.length n=0)(s:n.cX=(last.getD k sD).cX)(B:H.getD k 0∈bU f0 n)(D:(k:Int)∈ks->N4 f0 (last.getD k sD) n):
 Seen f0 aR C H (ks++[(k:Int)]) (es++[n]) (last.set k n):=by
 have hlen:=h.len;have w:=h.SB;have d:∀i,i<es.length->(es++[n]).getD i sD=es.getD i sD:=λi a=>by grind
 have y:(es++[n]).getD es.length sD=n:=by simp_all
 have c:∀i,i<es.length->(ks++[(k:Int)]).getD i 0=ks.getD i 0:=λi a=>by grind
 have l:(ks++[(k:Int)]).getD es.length 0=(k:Int):=by simp_all
 have o:∀i,i<es.length->0<=ks.getD i 0/\ks.getD i 0<aR:=λi a=>by
  have f:i<ks.length:=by omega
  rw[zA,zU f];exact h.SA _ (zG f)
 refine⟨by simp[hlen],λx hx=>?_,λe he=>?_,λi a=>?_,λi a=>?_,λi j p g he q=>?_,λi a q=>?_,λj g=>?_,by simp_all⟩
 . rcases aaC.1 hx with hx|hx
   . exact h.SA x hx
   simp_all
 . rcases aaC.1 he with he|he
   . exact h.sJ e he
   simp_all
 . rw[aaF,abw]at a
   by_cases e:i=es.length
   . subst e;rw[y,l,s,abA];exact h.H6 k v
   . rw[d i (by omega),c i (by omega)];exact h.cX i (by omega)
 . rw[aaF,abw]at a
   by_cases e:i=es.length
   . simp_all
   . rw[d i (by omega),c i (by omega)];exact h.TK i (by omega)
 . rw [aaF,abw]at g
   have a:i<es.length:=by omega
   by_cases e:j=es.length
   . subst e
     rw[c i a,l]at he;have z:=h.Xz i a λm t u=>by simp_all
     rw[he,abA]at z
     grind
   . rw[c i a,c j (by omega)]at he
     rw[d i a,d j (by omega)];refine h.fit i j p (by omega) he λm t u=>?_
     grind
 . rw[aaF,abw]at a q
   by_cases e:i=es.length
   . simp_all
   . have b:i<es.length:=by omega
     have r:=q es.length b (by omega);rw[l,c i b]at r;have E:=o i b;rw[d i b,c i b,zA,abp (by omega),<-List.getD_eq_getElem?_getD];refine h.Xz i b λm t u=>?_
     grind
 . by_cases e:j=k
   . subst e
     rw[zA,abB (by omega),abn,s];exact h.H6 j g
   . rw[zA,abp (za e),<-List.getD_eq_getElem?_getD]
     exact h.H6 j g
section
variable{f:Fr}{aR:Nat}{C H ks:adG}{last:adR}
theorem VV(a:f.Good){i j:Nat}(hi:i<f.roads.length)(hj:j<f.roads.length):0<=rd f.roads i j:=by
 obtain⟨c,d⟩:=a.row hi;have b:j<f.roads[i].length:=by omega
 unfold rd
 simp_all
theorem N5(c:f.Good){a b:Int}(d:0<=a/\a<f.aD.length)(hb:0<=b/\b<f.aD.length)(h:Fit f a b):(aS f a).hour<=(aS f b).hour:=by
 have e:=oa (c.sJ _ (ga d));have g:=oa (c.sJ _ (ga hb));have hd:=c.cP;have l:=VV c (i:=(aS f a).place.toNat) (j:=(aS f b).place.toNat) (by omega) (by omega);have k:=(HZ (kG (rk e.2.2.2.2.2)) (kG (rk g.2.2.2.2.2))).2.1;have m:=Int.mul_nonneg (show 0<=f.cP by omega) k;unfold Fit gY at h
 grind
theorem Seen.pair(h:Seen f aR C H ks f.aD last)(b:f.Good):∀(d i j:Nat),j-i<=d->i<j->j<f.aD.length->ks.getD i 0=ks.getD j 0->Fit f i j
 |0,i,j,hd,a,_,_=>by omega
 | d + 1,i,j,hd,a,k,l=>by
   by_cases q:∃m,i<m/\m<j/\ks.getD m 0=ks.getD i 0
   . obtain⟨m,c,e,g⟩:=q
     have n:=h.pair b d i m (by omega) c (by omega) g.symm;have o:=h.pair b d m j (by omega) e k (by omega);exact AS b (by omega) (by omega) (by omega) n o
   . have:=h.fit i j a k l λm c e g=>q ⟨m,c,e,g⟩
     unfold N4 at this;unfold Fit gY;rw[show aS f (i:Int)=f.aD.getD i sD from rfl,show aS f (j:Int)=f.aD.getD j sD from rfl]
     simp_all
theorem Seen.one(h:Seen f aR C H ks f.aD last)(m:f.Good){k:Int}(l:ba ks k≠[]):jJ f (ba ks k)=0:=by
 have c:∀n∈ba ks k,0<=n/\n<f.aD.length/\ks.getD n.toNat 0=k:=λn e=>by have:=dg e;rw[h.len]at this;exact this
 have d:(ba ks k).Pairwise (Fit f):=by
  refine((qB k ks 0).1).imp_of_mem λ{a b} i hb g=>?_
  have j:=c a i;have p:=c b hb;have:=h.pair m (b.toNat-a.toNat) a.toNat b.toNat (aaE _) (by omega) (by omega) (by omega)
  grind
 have o:aZ f (ba ks k)=ba ks k:=EC (d.imp_of_mem λ{a b} i hb g=>N5 m ⟨(c a i).1,(c a i).2.1⟩ ⟨(c b hb).1,(c b hb).2.1⟩ g);refine qz.2 ?_;rw[o];refine⟨?_,?_,rp d⟩
 . have q:∀n∈ba ks k,(aS f n).cX=C.getD k.toNat 0:=λn e=>by
    have j:=c n e;have:=h.cX n.toNat (by omega);rw[j.2.2]at this;exact this
   unfold eo
   grind
 . unfold cY
   simp only[abi]
   have:H.getD k.toNat 0∈gk f (ba ks k):=(rq l).2 λn e=>by
    have j:=c n e;have:=h.TK n.toNat (by omega);rw[j.2.2]at this;exact this
   grind
theorem Seen.way(h:Seen f aR C H ks f.aD last)(c:f.Good)(l:(aR:Int)<=f.aR):∃w s,Canon ks w s/\w∈aI f []:=by
 obtain⟨w,s,a⟩:=ED ks;refine⟨w,s,a,?_⟩;rw[<-mr c,aaZ,<-h.len];refine⟨a.part,?_⟩;unfold na;rw[zj,aaD,a.many];have m:=vl aR s a.nd λx g=>h.SA x (a.sub x g)
 refine⟨decide_eq_true (by omega),λk d=>?_⟩;have d:=aax.1 d;have b:k<s.length:=by omega
 rw[KD,a.yJ k b];refine h.one c ?_;obtain⟨i,j,e⟩:=aaV.1 (a.sub _ (zG b));exact abZ (fS j (by simp_all))
end
theorem GH{n all:Int}(h:0<all):toldOf n all=2↔n=0:=by unfold toldOf;omega
theorem Kd{n all:Int}(h:0<all):toldOf n all=1↔n=all:=by unfold toldOf;omega
theorem EE{α:Type}(p:α->Bool):∀l:List α,(l.filter p).length=l.length↔∀x∈l,p x=true
 |[]=>by simp
 | a::l=>by
   have b:=EE p l
   grind
theorem Ke{α:Type}(p:α->Bool)(l:List α):(l.filter p).length=0↔∀x∈l,p x=false:=by simp_all
section
variable{L:acW}{n:Nat}
def zN(L:acW)(x y:Nat):Int:=iu ((L.filter (gM x y)).length:Int) L.length
theorem GJ(a:0<L.length){x y:Nat}:zN L x y=2↔∀w∈L,gM x y w=false:=by
 have:=abo (gM (x:Int) y) L;unfold zN;rw[pr (by omega) (by omega) (by omega),GH (by omega),<-Ke];omega
theorem AX(a:0<L.length){x y:Nat}:zN L x y=1↔∀w∈L,gM x y w=true:=by
 have:=abo (gM (x:Int) y) L;unfold zN;rw[pr (by omega) (by omega) (by omega),Kd (by omega),<-EE];omega
end
theorem Fr.Good.C7{f:Fr}(h:f.Good):check f=0:=by
 have c:=h.fr;have d:=h.to;have e:=h.le;have g:=h.cP;have i:=h.aR;have j:=h.pJ;have a:(bt f.aU 0 3 && bt f.eZ 0 3)=true:=by simp[bt];omega
 have b:(bt f.cP 1 6 && bt f.aR 1 6)=true:=by simp[bt];omega
 unfold Go.Proofs.YtkcceaplmgdnfaaGreatDoor.check;rw[aay (by simp[h.KJ]),a,aay (by simp),aay (by omega),b,aay (by simp),aay (by omega)]
 exact pn h.sJ
section
variable{L:acW}{n:Nat}
theorem yL{p w s:adG}(h:Canon p w s){i j:Nat}(hi:i<p.length)(hj:j<p.length)(e:p.getD i 0=p.getD j 0):gM i j w=true:=by
 have d:i<w.length:=by rw[h.len];exact hi
 have f:j<w.length:=by rw[h.len];exact hj
 have g:p.getD i 0=p[i]:=by simp_all
 have k:p.getD i 0∈s:=h.all _ (by simp_all)
 obtain⟨l,m⟩:=oe k;have a:=h.yJ _ l;rw[m]at a;have n:(i:Int)∈ba w ((s.idxOf (p.getD i 0):Nat):Int):=by rw[a];exact fS hi rfl
 have o:(j:Int)∈ba w ((s.idxOf (p.getD i 0):Nat):Int):=by rw[a];exact fS hj e.symm
 have b:=(dg n).2.2;have c:=(dg o).2.2;rw[abA]at b c;simp only[gM,KD,abA,b,c]
end
theorem AY(lt:ade)(x:Int):∀r:adG,(eP lt x r).Perm (x::r)
 |[]=>List.Perm.refl _
 | y::r=>by
   unfold eP;split
   . exact((AY lt x r).cons y).trans (List.Perm.swap x y r)
   simp_all
theorem GK(lt:ade)(l:adG):(fe lt l).Perm l:=by
 have key:∀(l r:adG),(l.foldl (λr x=>eP lt x r) r).Perm (l++r):=by
  intro l;induction l with
  |nil=>simp_all
  | cons a l b=>
    intro r;rw[abr];refine(b _).trans (((AY lt a r).append_left l).trans ?_)
    simp_all
 simpa[fe]using key l []
theorem zO(f:Fr)(l:adG):(aZ f l).Perm l:=(List.reverse_perm _).trans (GK _ _)
theorem EF(f:Fr)(l:adG):(aZ f l).Pairwise λa b=>(aS f a).hour<=(aS f b).hour:=by
 rw[m8,List.pairwise_reverse]
 have key:∀(l r:adG),Dn (λn=>(aS f n).hour) r->Dn (λn=>(aS f n).hour) (l.foldl (λr x=>eP (Eu λn=>(aS f n).hour) x r) r):=by
  intro l;induction l with
  |nil=>simp_all
  |cons a l c=>intro r h;exact c _ (wY a h)
 exact key l [] List.Pairwise.nil
theorem vV{R:Int->Int->Prop}:∀{l:adG},l.Pairwise R->∀a∈l,∀b∈l,a≠b->R a b\/R b a
 |[],_,a,d,_,_,_=>by cases d
 | c ::l,h,a,d,b,hb,e=>by
   obtain⟨j,i⟩:=abb.1 h;rcases aaQ.1 d with rfl|f
   . grind
   . rcases aaQ.1 hb with rfl|g
     . simp_all
     . exact vV i a f b g e
theorem Qp:∀a:Fin 32,∀b:Fin 32,bM (a.val:Int) (b.val:Int)=bM (b.val:Int) (a.val:Int):=by decide +kernel
theorem Fr.Good.symm{f:Fr}(a:f.Good){i j:Nat}(hi:i<f.roads.length)(hj:j<f.roads.length):rd f.roads i j=rd f.roads j i:=by
 have h:=a.KJ;unfold fX at h;split at h
 . cases h
 split at h
 . cases h
 split at h
 . omega
 split at h
 . cases h
 next q=>
 simp only[aba,aax,not_exists,not_and]at q;have b:=q i hi j hj;unfold dR at b
 simp_all
theorem Qq:∀a:Fin 32,bM (a.val:Int) (a.val:Int)=0:=by decide +kernel
theorem N6{f:Fr}(a:f.Good){x:Int}(b:0<=x/\x<f.aD.length):gY f x x=false:=by
 have e:=oa (a.sJ _ (ga b));obtain⟨A,c⟩:=lK e.2.2.2.2.2;have p:=e.2.1
 have d:rd f.roads (aS f x).place.toNat (aS f x).place.toNat=0:=by
  have h:=a.KJ;unfold fX at h;split at h
  . cases h
  split at h
  . cases h
  split at h
  . omega
  split at h
  . cases h
  next q=>
  simp only[aba,aax,not_exists,not_and]at q;have g:=q (aS f x).place.toNat (by omega) (aS f x).place.toNat (by omega);unfold dR at g
  simp_all
 unfold gY;rw[c,Qq,d];simp
theorem N7{f:Fr}(c:f.Good){a b:Int}(g:0<=a/\a<f.aD.length)(hb:0<=b/\b<f.aD.length)(k:(aS f a).hour<=(aS f b).hour)(h:Fit f b a):Fit f a b:=by
 have d:=oa (c.sJ _ (ga g));have e:=oa (c.sJ _ (ga hb));have hd:=c.cP;obtain⟨A,l⟩:=lK d.2.2.2.2.2;obtain⟨B,m⟩:=lK e.2.2.2.2.2;have n:=d.2.1;have o:=e.2.1;have p:=Qp A B;have q:=c.symm (i:=(aS f a).place.toNat) (j:=(aS f b).place.toNat) (by omega) (by omega);unfold Fit gY at h ⊢
 grind
structure SC(f:Fr)(l:adG):Prop where
 cX:∀a∈l,∀b∈l,(aS f a).cX=(aS f b).cX
 TK:∃h,∀j∈l,h∈bU f (aS f j)
 fit:∀a∈l,∀b∈l,a≠b->Fit f a b\/Fit f b a
theorem H7{f:Fr}(u:f.Good){l:adG}(y:l≠[])(o:l.Nodup)(p:∀n∈l,0<=n/\n<f.aD.length):jJ f l=0↔SC f l:=by
 have v:=zO f l;have c:∀n,n∈aZ f l↔n∈l:=λn=>v.mem_iff
 have r:=EF f l;have m:(aZ f l).Nodup:=v.nodup_iff.2 o;have g:aZ f l≠[]:=λe=>by simp_all
 rw[qz];generalize aZ f l=S at *;have z:S.getD 0 0∈S:=by grind
 constructor
 . rintro⟨w,s,A⟩
   unfold eo at w;rw[abP]at w;have B:∀x∈S,(aS f x).cX=(aS f (S.getD 0 0)).cX:=λx k=>by simp_all
   refine⟨λa i b hb=>by simp_all,?_,λa i b hb d=>vV (vf u (λn C=>p n ((c n).1 C)) A) a ((c a).2 i) b ((c b).2 hb) d⟩;unfold cY at s;simp only[abi]at s;obtain⟨x,k⟩:=abS _ s;exact⟨x,λj t=>(rq g).1 k j ((c j).2 t)⟩
 . intro h
   refine⟨?_,?_,rp ?_⟩
   . unfold eo
     rw[abP];intro x k;rw[h.cX x ((c x).1 k) _ ((c _).1 z)];simp
   . unfold cY
     simp only[abi];obtain⟨x,k⟩:=h.TK;have:x∈gk f S:=(rq g).2 λj t=>k j ((c j).1 t)
     grind
   . refine(r.and m).imp_of_mem λ{a b} i hb d=>?_
     have i:=(c a).1 i;have hb:=(c b).1 hb;rcases h.fit a i b hb d.2 with q|q
     . exact q
     . exact N7 u (p a i) (p b hb) d.1 q
theorem rZ(w:adG)(k:Int):(ba w k).Nodup:=(qB k w 0).1.imp λh=>by omega
theorem Kf(L:acW)(x y:Nat)(a:0<L.length):zN L x y=1\/zN L x y=2\/zN L x y=3:=by
 have:=abo (gM (x:Int) y) L;unfold zN;rw[pr (by omega) (by omega) (by omega)];unfold toldOf;omega
theorem sE{w:adG}{x:Int}(h:x∈w):x<bu w:=by obtain⟨a,b,rfl⟩:=List.append_of_mem h;have:=iw (a++[x]) b;rw[abJ,acM,bF]at this;omega
section
variable{f x:Fr}{π ρ:adI}
theorem yM{p w s:adG}(h:Canon p w s){i j:Nat}(hi:i<p.length)(hj:j<p.length)(e:gM i j w=true):p.getD i 0=p.getD j 0:=by
 have a:i<w.length:=by rw[h.len];exact hi
 have b:j<w.length:=by rw[h.len];exact hj
 simp only[gM,KD,abA]at e;have f:w.getD i 0=w[i]:=by simp_all
 have m:=((od _ _ h.part).2.1 _ (zG a)).1;have g:=sE (zG a);rw[h.many]at g;have k:w[i].toNat<s.length:=by omega
 have l:=h.yJ _ k;have c:(i:Int)∈ba w ((w[i].toNat:Nat):Int):=fS a (by omega)
 have d:(j:Int)∈ba w ((w[i].toNat:Nat):Int):=fS b (by omega)
 rw[l]at c d;have n:=(dg c).2.2;have o:=(dg d).2.2
 simp_all
end
section
variable{f x:Fr}{π ρ:adI}
theorem yN{f:Fr}(a:f.Good){w:adG}(h:w∈aI f []):w∈jd f.aD.length:=by rw[<-mr a]at h;simp_all
end
theorem gZ{l:adG}{i:Nat}(h:i<l.length):l.getD i 0∈l:=by simp_all
theorem Qr{l:adG}{x:Int}(h:x∈l):∃i,i<l.length/\l.getD i 0=x:=by obtain⟨i,a,e⟩:=aaV.1 h;exact⟨i,a,by simp_all⟩
structure pv(f x:Fr)(L:adG):Prop where
 roads:x.roads=f.roads
 fr:x.aU=f.aU
 to:x.eZ=f.eZ
 cP:x.cP=f.cP
 aR:f.aR<=x.aR
 SA:∀i∈L,0<=i/\i<f.aD.length
 sJ:x.aD=L.map (aS f)
section
variable{f x:Fr}{L:adG}
theorem pv.len(h:pv f x L):x.aD.length=L.length:=by rw[h.sJ,aaP]
theorem pv.at(h:pv f x L){j:Int}(b:0<=j/\j<L.length):aS x j=aS f (L.getD j.toNat 0):=by
 have a:j.toNat<L.length:=by omega
 unfold aS;rw[h.sJ,zA,aaY,zU a,zA (l:=L),zU a];rfl
theorem pv.bU(h:pv f x L)(e:m5):bU x e=bU f e:=by unfold Go.Proofs.YtkcceaplmgdnfaaGreatDoor.bU jj;rw[h.fr,h.to]
theorem pv.one(h:pv f x L)(n:x.Good){l i:adG}(e:∀j∈i,(0<=j/\j<L.length)/\L.getD j.toNat 0∈l)(k:SC f l):SC x i:=by
 have c:∀j∈i,aS x j=aS f (L.getD j.toNat 0):=λj m=>h.at (e j m).1
 refine⟨λa d b hb=>?_,?_,λa d b hb o=>?_⟩
 . rw[c a d,c b hb];exact k.cX _ (e a d).2 _ (e b hb).2
 . obtain⟨z,q⟩:=k.TK
   exact⟨z,λj m=>by rw[h.bU,c j m];simp_all⟩
 . by_cases g:L.getD a.toNat 0=L.getD b.toNat 0
   . have r:=N6 n (x:=b) (by rw[h.len];simp_all)
     have p:=c a d;rw[g,<-c b hb]at p;refine .inl ?_;unfold Fit gY at *
     simp_all
   have:=k.fit _ (e a d).2 _ (e b hb).2 g;unfold Fit gY at this ⊢;rw[c a d,c b hb,h.roads,h.cP];exact this
theorem pv.way(h:pv f x L)(E:f.Good)(u:x.Good){w:adG}(F:w∈aI f []):∃v∈aI x [],∀i j:Nat,i<L.length->j<L.length->gM i j v=gM (L.getD i 0) (L.getD j 0) w:=by
 rw[<-mr E,aaZ]at F;obtain⟨y,z⟩:=F;obtain⟨wl,G,_⟩:=od _ _ y;obtain⟨p,R⟩:∃p,p=L.map λj=>w.getD j.toNat 0:=⟨_,rfl⟩
 have g:p.length=L.length:=by simp_all
 have o:∀j,j<L.length->0<=L.getD j 0/\(L.getD j 0).toNat<w.length:=λj l=>by have:=h.SA _ (gZ l);omega
 have m:∀j,j<L.length->p.getD j 0=w.getD (L.getD j 0).toNat 0:=λj l=>by simp_all
 have r:∀c∈p,∃j,j<L.length/\p.getD j 0=c/\c∈w:=λc d=>by
  obtain⟨j,l,H⟩:=Qr d
  grind
 obtain⟨v,s,d⟩:=ED p;have A:=z;unfold na at A;rw[zj,aaD,KD]at A;refine⟨v,?_,λi j n l=>?_⟩
 . rw[<-mr u,aaZ,h.len,<-g]
   refine⟨d.part,?_⟩;unfold na;rw[zj,aaD,d.many];have J:=qA w
   have S:=vl (bu w).toNat s d.nd λc B=>by obtain⟨_,_,_,a⟩:=r c (d.sub c B);have:=G c a;have:=sE a;omega
   refine⟨decide_eq_true (by have:=h.aR;omega),λk T=>?_⟩
   have t:k<s.length:=by grind
   rw[KD,d.yJ k t];obtain⟨j,l,e,a⟩:=r _ (d.sub _ (zG t));generalize s[k]=c at *;have K:=G c a;have M:=sE a;have b:=abM (A.2 c.toNat (aax.2 (by omega)))
   rw[show(c.toNat:Int)=c by omega]at b
   have C:ba w c≠[]:=abZ (fS (i:=(L.getD j 0).toNat) (o j l).2 (by grind))
   have D:ba p c≠[]:=abZ (fS (i:=j) (by omega) e)
   rw[H7 E C (rZ w c) λi n=>by have:=dg n;omega]at b
   rw[H7 u D (rZ p c) λi n=>by have:=dg n;rw[g,<-h.len]at this;omega]
   refine h.one u (λi n=>?_) b
   obtain⟨N,I,O⟩:=dg n;rw[g]at I;have P:=o i.toNat (by omega)
   refine⟨⟨N,I⟩,?_⟩;have:=fS (w:=w) (k:=c) (i:=(L.getD i.toNat 0).toNat) P.2 (by rw[<-m _ (by omega)];exact O)
   rwa [show((L.getD i.toNat 0).toNat:Int)=L.getD i.toNat 0 by omega]at this
 . have Q:=m i n
   have H:=m j l;rw[acJ];constructor
   . intro q
     have:=yM d (by omega) (by omega) q
     rw[Q,H]at this;simp only[gM,KD];exact this
   . intro q
     simp only[gM,KD]at q;exact yL d (by omega) (by omega) (by omega)
end
end
open Go.cG Go.Conc
variable{m:Mo}{σ:aa}{KF:adl}
structure Way where
 a:Int
 b:Int
 cA:Int
 aU:Int
 eZ:Int
 deriving DecidableEq
structure Kg where
 lost:m5
 town:Int
 hour:Int
 deriving DecidableEq
structure bY where
 fair:Fr
 bc:Int
 ways:List Way
 aF:List Kg
 deriving DecidableEq
abbrev jR(x:Way):AV:=.agg [int x.a,int x.b,int x.cA,int x.aU,int x.eZ]
abbrev iy(c:Kg):AV:=.agg [int c.lost.hour,int c.lost.place,int c.lost.cX,ints c.lost.marks,int c.lost.br,int c.lost.jQ,int c.town,int c.hour]
abbrev vm(l:List Way):AV:=.sl 5 (l.map jR) .any
abbrev kY(l:List Kg):AV:=.sl 8 (l.map iy) .any
abbrev EG(w:bY):adL:=[jI w.fair.aD,rows w.fair.roads,int w.fair.aU,int w.fair.eZ,int w.fair.cP,int w.fair.aR,int w.bc,vm w.ways,kY w.aF]
abbrev dB(w:bY):AV:=.agg (EG w)
abbrev Qs(b mb:Nat)(w:bY)(a c d:AV)(hole:adH)(o:Nat):AV:=.kp b [jI w.fair.aD,rows w.fair.roads,int w.fair.aU,int w.fair.eZ,int w.fair.cP,int w.fair.aR,int w.bc,vm w.ways,kY w.aF,.lit (.int .i32 0),.lit (.int .u32 0),a,c,d,.map mb] hole o
def uf(bc:Int)(x:Way):Prop:=(0<=x.a/\x.a<bc)/\(0<=x.b/\x.b<bc)/\(1<=x.cA/\x.cA<=12)/\(0<=x.aU/\x.aU<=72)/\0<=x.eZ/\x.eZ<=72
def qC(h:Int)(x:Way):Int:=if h<x.aU then x.aU else h
def N8(h a b:Int)(x:Way)(c:Int):Int:=if(x.a≠a\/x.b≠b)/\(x.a≠b\/x.b≠a)then c else if qC h x<=x.eZ then(if qC h x+x.cA<c then qC h x+x.cA else c)else c
def og(l:List Way)(h a b:Int):Int:=l.foldl (λc x=>N8 h a b x c) 1048576
theorem SD{h a b c:Int}{x:Way}(d:1<=x.cA/\x.cA<=12)(e:0<=h)(hb:0<=c/\c<=1048576):0<=N8 h a b x c/\N8 h a b x c<=1048576:=by
 have:0<=qC h x:=by unfold qC;omega
 unfold N8;omega
theorem EH{l:List Way}{h a b:Int}(e:∀x∈l,1<=x.cA/\x.cA<=12)(f:0<=h):0<=og l h a b/\og l h a b<=1048576:=by
 have key:∀(l:List Way) (c:Int),(∀x∈l,1<=x.cA/\x.cA<=12)->(0<=c/\c<=1048576)->0<=l.foldl (λc x=>N8 h a b x c) c/\l.foldl (λc x=>N8 h a b x c) c<=1048576:=λl=>by
  induction l with
  |nil=>simp_all
  |cons x l g=>exact λc d i=>g _ (λy j=>d y (by simp[j])) (SD (d x (by simp)) f i)
 exact key l _ e ⟨by omega,by omega⟩
theorem ew{σ:aa}{d:Nat}{x:gn}(h:σ d=none):(σ.set d x).del d=σ:=by
 funext c;by_cases e:c=d
 . subst e;simp[aa.del,h]
 . simp[aa.set,aa.del,e]
theorem N9{fb mb:Nat}{w:bY}{E F G:AV}{hole:adH}{h a b:Int}(R:∀i∈hole,9<=i)(S:w.ways.length<1152921504606846976)(z:∀x∈w.ways,uf w.bc x)(H:0<=h/\h<=1048576)(I:KF (.val (int (og w.ways h a b))) σ):aA prog m 77 [Qs fb mb w E F G hole 0,int h,int a,int b] σ KF:=by
 have J:7∉hole:=λq=>by grind
 refine fs [] Tryz.func77 rfl (by kernel_rfl) ?_
 simp[Tryz.f77,J];apply rn;simp;refine af.loop w.ways.length (λk s=>∃env,s=⟨env,σ,[],.no⟩/\env 1=int h/\env 2=int a/\env 3=int b/\env 9=int (og (w.ways.take k) h a b)/\env 17=vm w.ways/\env 18=int w.ways.length/\env 19=int k) ⟨_,rfl,by simp[og]⟩ ?_
 rintro T k _ U ⟨env,rfl,o,r,t,u,c,f,g⟩ v
 refine af.runN lay [] 17 ?_;simp[f,g];apply aH.intro<;>intro j<;>simp at j<;>simp[u,c,g,j]
 . refine bK.intro λd hd=>?_
   simp
   change af _ _ _ _ _ _ _ _ _
   refine af.bq 11 (b:=d) (jR w.ways[k]) (aa.an _ _ _) (by simp) rfl ?_
   rw[ew hd];obtain⟨⟨V,W⟩,⟨X,Y⟩,⟨Z,x6⟩,⟨x7,x8⟩,x9,K⟩:=z _ (zG j);have L:=EH (l:=w.ways.take k) (h:=h) (a:=a) (b:=b) (λx M=>(z x (aco M)).2.2.1) H.1
   have y:og (w.ways.take (k+1)) h a b=N8 h a b w.ways[k] (og (w.ways.take k) h a b):=by unfold og;rw[zD j,abf];rfl
   obtain⟨N,A⟩:∃p,(w.ways[k].a !=a)=p:=⟨_,rfl⟩;obtain⟨O,B⟩:∃p,(w.ways[k].b !=b)=p:=⟨_,rfl⟩;obtain⟨P,C⟩:∃p,(w.ways[k].a !=b)=p:=⟨_,rfl⟩;obtain⟨Q,D⟩:∃p,(w.ways[k].b !=a)=p:=⟨_,rfl⟩;cases N<;>cases O<;>cases P<;>cases Q
   all_goals
    apply rn;simp[o,r,t,g,A,B,C,D]
   all_goals simp at A B C D
   all_goals try refine⟨by omega,v _ j ⟨_,rfl,?_⟩⟩
   all_goals try
    simp[o,r,t,u,c,f];rw[y,N8,aaB (by omega)]
   all_goals
    rw[show(if h<w.ways[k].aU then w.ways[k].aU else h)=qC h w.ways[k]from rfl]
    have f0:0<=qC h w.ways[k]/\qC h w.ways[k]<=1048576:=by unfold qC;split<;>omega
    refine aH.intro (λn=>?_) (λn=>?_)<;>(try simp[-Int.not_lt,-Int.not_le]at n)<;>(try simp[u,g,n])
    . have f1:-9223372036854775808<=qC h w.ways[k]+w.ways[k].cA/\qC h w.ways[k]+w.ways[k].cA<=9223372036854775807:=by omega
      simp[f1.1,f1.2];refine⟨by omega,v _ j ⟨_,rfl,?_⟩⟩
      simp[o,r,t,c,f];rw[y];exact (show N8 h a b w.ways[k] (og (w.ways.take k) h a b)=_ by rw[N8,aay (by omega),aaB n]).symm
    . refine⟨by omega,v _ j ⟨_,rfl,?_⟩⟩
      simp[o,r,t,u,c,f];rw[y,N8,aay (by omega)]
      simp[n]
 . have e:k=w.ways.length:=by omega
   subst e;rw[aaJ];exact .done I
def my(l:List Way)(a b:Nat)(t:adG):adG:=if t.getD a 0<1048576 then t.set b (if og l (t.getD a 0) a b<t.getD b 0 then og l (t.getD a 0) a b else t.getD b 0)else t
def ug(l:List Way)(n a:Nat)(t:adG):adG:=(List.range n).foldl (λt b=>my l a b t) t
def pass(l:List Way)(n:Nat)(t:adG):adG:=(List.range n).foldl (λt a=>ug l n a t) t
def iz(l:List Way)(n:Nat):Nat->adG->adG
 |0,t=>t
 |k+1,t=>if pass l n t=t then t else iz l n k (pass l n t)
def qD(t:adG):Nat:=(t.foldl (·+·) 0).toNat
def begun(town hour:Int):adG:=[1048576,1048576,1048576,1048576].set town.toNat hour
def ru(l:List Way)(n:Nat)(town hour:Int):adG:=iz l n (qD (begun town hour)+1) (begun town hour)
theorem mz{α:Type}(P:adG->Prop)(f:adG->α->adG)(a:∀t x,P t->P (f t x)):∀(l:List α) (t:adG),P t->P (l.foldl f t)
 |[],_,h=>h
 |x::l,t,h=>mz P f a l _ (a t x h)
def zk(t:adG):Prop:=t.length=4/\∀i,0<=t.getD i 0/\t.getD i 0<=1048576
theorem EI{t:adG}{b i:Nat}{v:Int}:(t.set b v).getD i 0=if i=b/\b<t.length then v else t.getD i 0:=by grind
theorem zk.to{l:List Way}(c:∀x∈l,1<=x.cA/\x.cA<=12){a b:Nat}{t:adG}(h:zk t):zk (my l a b t):=by
 unfold my;split
 . refine⟨by rw[abW];exact h.1,λi=>?_⟩
   rw[EI];split
   . have:=EH (h:=t.getD a 0) (a:=a) (b:=b) c (h.2 a).1
     split
     . exact this
     . exact h.2 b
   . exact h.2 i
 . exact h
theorem zk.from{l:List Way}(b:∀x∈l,1<=x.cA/\x.cA<=12){n a:Nat}{t:adG}(h:zk t):zk (ug l n a t):=mz zk _ (λ_ _ h=>h.to b) _ _ h
theorem zk.pass{l:List Way}(a:∀x∈l,1<=x.cA/\x.cA<=12){n:Nat}{t:adG}(h:zk t):zk (pass l n t):=mz zk _ (λ_ _ h=>h.from a) _ _ h
def nC(a t:adG):Prop:=a.length=t.length/\∀i,a.getD i 0<=t.getD i 0
theorem nC.trans{a b c:adG}(h:nC a b)(h':nC b c):nC a c:=⟨h.1.trans h'.1,λi=>Int.le_trans (h.2 i) (h'.2 i)⟩
theorem Kh(l:List Way)(a b:Nat)(t:adG):nC (my l a b t) t:=by
 unfold my;split
 . refine⟨abW,λi=>?_⟩
   grind
 . exact⟨rfl,λi=>abF _⟩
theorem EJ(l:List Way)(n a:Nat)(t:adG):nC (ug l n a t) t:=mz (nC · t) _ (λu b h=>(Kh l a b u).trans h) _ _ ⟨rfl,λi=>abF _⟩
theorem qE(l:List Way)(n:Nat)(t:adG):nC (pass l n t) t:=mz (nC · t) _ (λu a h=>(EJ l n a u).trans h) _ _ ⟨rfl,λi=>abF _⟩
theorem Cp{a t:adG}(h:nC a t)(d:zk a)(c:zk t)(e:a≠t):qD a<qD t:=by
 obtain⟨f,b⟩:=d;obtain⟨g,q⟩:=c
 match a,t,f,g with
 | [r,s,u,v],[w,x,y,z],_,_=>
   have i:=h.2 0;have j:=h.2 1;have k:=h.2 2;have l:=h.2 3;have m:=b 0;have n:=b 1;have o:=b 2;have p:=b 3;simp at i j k l m n o p;unfold qD
   grind
theorem pw{l:List Way}(a:∀x∈l,1<=x.cA/\x.cA<=12){n:Nat}:∀(k:Nat) (t:adG),zk t->qD t<k->iz l n k t=iz l n (qD t+1) t
 |0,t,_,h=>by omega
 | k+1,t,b,h=>by
   show(if pass l n t=t then t else iz l n k (pass l n t))=if pass l n t=t then t else iz l n (qD t) (pass l n t);split
   . rfl
   . next c=>have d:=Cp (qE l n t) (b.pass a) b c;rw[pw a k _ (b.pass a) (by omega),pw a (qD t) _ (b.pass a) d]
 termination_by k=>k
theorem EK{l:List Way}(a:∀x∈l,1<=x.cA/\x.cA<=12){n:Nat}{t:adG}(b:zk t):iz l n (qD t+1) t=if pass l n t=t then t else iz l n (qD (pass l n t)+1) (pass l n t):=by
 show(if pass l n t=t then t else iz l n (qD t) (pass l n t))=_;split
 . rfl
 . next c=>exact pw a _ _ (b.pass a) (Cp (qE l n t) (b.pass a) b c)
theorem AZ{town hour:Int}(a:0<=hour/\hour<=72):zk (begun town hour):=by
 refine⟨by simp[begun],λi=>?_⟩;unfold begun;rw[EI];split
 . omega
 . match i with
   |0=>simp
   |1=>simp
   |2=>simp
   |3=>simp
   |i+4=>simp
theorem vW{l:List Way}(a:∀x∈l,1<=x.cA/\x.cA<=12){n:Nat}:∀(k:Nat) (t:adG),zk t->zk (iz l n k t)
 |0,_,h=>h
 | k+1,t,h=>by
   unfold iz;split
   . exact h
   . exact vW a k _ (h.pass a)
theorem Cq{l:List Way}(e:∀x∈l,1<=x.cA/\x.cA<=12){n:Nat}{town hour:Int}(f:0<=hour/\hour<=72):∃a b c d,ru l n town hour=[a,b,c,d]:=by
 have:=(vW e (n:=n) (qD (begun town hour)+1) _ (AZ (town:=town) f)).1;unfold ru
 match iz l n (qD (begun town hour)+1) (begun town hour),this with
 |[a,b,c,d],_=>simp_all
theorem VW:Rb prog 167 3:=⟨by kernel_rfl,by kernel_rfl,by kernel_rfl⟩
theorem GL{fb mb:Nat}{w:bY}{U V W:AV}{hole:adH}{town hour:Int}(hh:∀i∈hole,9<=i)(hl:w.ways.length<1152921504606846976)(hw:∀x∈w.ways,uf w.bc x)(hn:1<=w.bc/\w.bc<=4)(ht:0<=town/\town<w.bc)(h0:0<=hour/\hour<=72)
 (hK:∀σ',σ.Le σ'->KF (.val (.agg ((ru w.ways w.bc.toNat town hour).map int))) σ'):aA prog m 92 [Qs fb mb w U V W hole 0,int town,int hour] σ KF:=by
 have n6:6∉hole:=λq=>by grind
 refine aA.start lay [6,7,9] Xw 3 Tryz.func92 rfl rfl (by rfl) (by kernel_rfl) ?_
 simp[Tryz.f92];refine bK.intro λr hr=>?_
 simp;refine bK.intro λd hd=>?_
 obtain⟨n1,n2,hd⟩:=aa.aP hd;simp;have b4:town<4:=by omega
 have b5:town.toNat<4:=by omega
 have b6:town<=3:=by omega
 refine af.u6 ?_;refine af.run lay [6,7,9] ?_;simp;refine af.again (by kernel_rfl) ?_
 refine af.run lay [6,7,9] ?_;simp;refine af.again (by kernel_rfl) ?_
 refine af.run lay [6,7,9] ?_;simp;refine af.again (by kernel_rfl) ?_
 refine af.run lay [6,7,9] ?_;simp;refine af.again (by kernel_rfl) ?_
 refine af.runN lay [6,7,9] 16 ?_;simp[ht.1,b4,b5,b6]
 change af _ _ _ _ _ _ _ _ _
 obtain⟨X,J⟩:∃T,T=begun town hour:=⟨_,rfl⟩;have hc:([int 1048576,int 1048576,int 1048576,int 1048576]:adL).set town.toNat (int hour)=X.map int:=by rw[J];simp[begun,acv]
 rw[hc];have a7:zk X:=J ▸ AZ h0;have N:∀x∈w.ways,1<=x.cA/\x.cA<=12:=λx hx=>(hw x hx).2.2.1
 refine af.lower (λa s=>∃env t,s=⟨env,(σ.set r (.cells [int 0,int 0,int 0,int 0])).set d (.cells (t.map int)),[],.no⟩/\env 0=Qs fb mb w U V W hole 0/\env 6=.ref r 0/\env 7=.ref d 0/\zk t/\qD t=a/\iz w.ways w.bc.toNat (qD t+1) t=ru w.ways w.bc.toNat town hour) (qD X) ⟨_,X,rfl,by simp,by simp,by simp,a7,rfl,by rw[J];rfl⟩ ?_
 rintro a _ ⟨env,t,rfl,E,F,g,Y,rfl,I⟩ ih
 obtain⟨h,l,p,y,rfl⟩:∃h l p y,t=[h,l,p,y]:=by
  match t,Y.1 with
  |[h,l,p,y],_=>grind
 refine af.runN lay [6,7,9] 5 ?_;simp[g];refine bK.intro λo Z=>?_
 obtain⟨m1,m2,Z⟩:=aa.aP Z;obtain⟨m3,m4,Z⟩:=aa.aP Z;simp
 change af _ _ _ _ _ _ _ _ _
 refine af.bq 9 (b:=o) (.agg [int h,int l,int p,int y]) (aa.an _ _ _) (by simp) rfl ?_
 rw[ew (by omega)]
 refine af.run lay [6,7,9] ?_;simp[E,n6];refine af.loop w.bc.toNat (λk s=>∃env u,s=⟨env,(σ.set r (.cells [int 0,int 0,int 0,int 0])).set d (.cells (u.map int)),[],.no⟩/\env 0=Qs fb mb w U V W hole 0/\env 6=.ref r 0/\env 7=.ref d 0/\env 9=.cp (.agg [int h,int l,int p,int y]) 0/\env 26=int w.bc/\env 27=int k/\zk u/\u=(List.range k).foldl (λt a=>ug w.ways w.bc.toNat a t) [h,l,p,y]) ⟨_,[h,l,p,y],rfl,by simp[E],by simp[F],by simp[g],by simp,by simp,by simp,Y,rfl⟩ ?_
 rintro cc k _ hk ⟨env,u,rfl,E,F,g,M,z,f,hU,hu⟩ a8
 refine af.runN lay [6,7] 17 ?_;simp[z,f];apply aH.intro<;>intro g1<;>simp at g1<;>simp[E,g,M,f,g1]
 . change af _ _ _ _ _ _ _ _ _
   refine af.run lay [6,7,9] ?_;simp[n6];refine af.loop w.bc.toNat (λj s=>∃env v,s=⟨env,(σ.set r (.cells [int 0,int 0,int 0,int 0])).set d (.cells (v.map int)),[],.no⟩/\env 0=Qs fb mb w U V W hole 0/\env 6=.ref r 0/\env 7=.ref d 0/\env 9=.cp (.agg [int h,int l,int p,int y]) 0/\env 10=int k/\env 26=int w.bc/\env 27=int k/\env 34=int w.bc/\env 35=int j/\zk v/\v=(List.range j).foldl (λt b=>my w.ways k b t) u) ⟨_,u,rfl,by simp[E],by simp[F],by simp[g],by simp[M],by simp,by simp[z],by simp[f],by simp,by simp,hU,rfl⟩ ?_
   rintro cc j _ hj ⟨env,v,rfl,E,F,g,M,cS,z,f,K,G,H,hv⟩ O
   refine af.runN lay [6,7] 17 ?_;simp[K,G];apply aH.intro<;>intro g2<;>simp at g2<;>simp[cS,f,G,g2]
   . have k4:k<4:=by omega
     have j4:j<4:=by omega
     have k5:k<v.length:=by rw[H.1];exact k4
     have j5:j<v.length:=by rw[H.1];exact j4
     have L:v.getD k 0=v[k]:=by simp[k5]
     have a9:v.getD j 0=v[j]:=by simp[j5]
     have i4:(k:Int)<4:=by omega
     have l4:(j:Int)<4:=by omega
     have j3:j<=3:=by omega
     refine af.runN lay [6,7] 5 ?_;simp[g,H.1,k4,i4];apply aH.intro<;>intro g3<;>simp at g3<;>(try simp[g3])
     . change af _ _ _ _ _ _ _ _ _
       refine af.run lay [6,7] ?_;simp[E,g,cS,H.1,k4,j4,i4,l4];have P:=H.2 k;rw[L]at P;have Q:(v.map int).set j (int (if og w.ways v[k] k j<v[j]then og w.ways v[k] k j else v[j]))=(my w.ways k j v).map int:=by rw[my,L,a9,aaB g3,acv]
       refine⟨?_,?_,?_⟩
       all_goals
        refine cf Tryz.func77 rfl (N9 hh hl hw P ?_);refine aM.go lay [6,7] ?_;simp[H.1,j4,j3];rw[Q];refine af.run lay [6,7] ?_;simp[G];refine⟨by omega,O _ (by omega) ⟨_,my w.ways k j v,rfl,?_,?_,?_,?_,?_,?_,?_,?_,?_,H.to N,?_⟩⟩
        rotate_right
        . rw[aaO,abf,<-hv];rfl
        all_goals simp[E,F,g,M,cS,z,f,K]
     . change af _ _ _ _ _ _ _ _ _
       refine af.run lay [6,7] ?_;simp[G];refine⟨by omega,O _ (by omega) ⟨_,v,rfl,?_,?_,?_,?_,?_,?_,?_,?_,?_,H,?_⟩⟩
       rotate_right
       . rw[aaO,abf,<-hv]
         show v=my w.ways k j v;rw[my,L,aay (by omega)]
       all_goals simp[E,F,g,M,cS,z,f,K]
   . have ej:j=w.bc.toNat:=by omega
     subst ej;refine⟨by omega,a8 _ (by omega) ⟨_,v,rfl,?_,?_,?_,?_,?_,?_,H,?_⟩⟩
     rotate_right
     . rw[aaO,abf,<-hu]
       exact hv
     all_goals simp[E,F,g,M,z]
 . have ek:k=w.bc.toNat:=by omega
   subst ek
   obtain⟨A,B,C,D,rfl⟩:∃A B C D,u=[A,B,C,D]:=by
    match u,hU.1 with
    |[A,B,C,D],_=>exact⟨A,B,C,D,rfl⟩
   have R:=EK N (n:=w.bc.toNat) Y;rw[show pass w.ways w.bc.toNat [h,l,p,y]=[A,B,C,D]from hu.symm]at R
   refine⟨by simp,?_⟩
   refine Gb lay VW rD rfl rfl (a:=A) (b:=B) (c:=C) (d:=D) (a':=h) (b':=l) (c':=p) (d':=y) rfl (by simp) (by simp) ?_
   cases e:(A==h && (B==l && (C==p && D==y)))
   . have S:¬([A,B,C,D]=[h,l,p,y]):=λq=>by simp at q;simp[q]at e
     rw[aay S,I]at R;refine af.runN lay [6,7] 2 ?_;simp
     change af _ _ _ _ _ _ _ _ _
     refine af.goto rfl (by kernel_rfl) ?_
     refine af.runN lay [6,7,9] 2 ?_;simp;refine ih (qD [A,B,C,D]) _ (Cp (hu.symm ▸ qE w.ways w.bc.toNat [h,l,p,y]) hU Y S) ⟨_,[A,B,C,D],rfl,?_,?_,?_,hU,rfl,R.symm⟩<;>simp[E,F,g]
   . simp at e
     obtain⟨rfl,rfl,rfl,rfl⟩:=e;rw[aaB rfl,I]at R;refine af.run lay [6,7,9] ?_;simp[F,g,n2,aa.ai];refine .done ?_;have:=hK _ (aa.fC (b:=r) (x:=.cells [int A,int B,int C,int D]) (aa.fC (b:=d) (x:=.cells [int A,int B,int C,int D]) (aa.fC (b:=r) (x:=.cells [int 0,int 0,int 0,int 0]) (aa.le_refl σ) hr) hd) hr);rw[R]at this;exact this
theorem er{a lo hi:Int}(h:KF (.val (bool (bt a lo hi))) σ):aA prog m 71 [int a,int lo,int hi] σ KF:=by
 refine fs [] Tryz.func71 rfl (by kernel_rfl) ?_;simp[Tryz.f71];unfold bt at h;by_cases g:lo<=a
 . simp[g]
   refine .done ?_
   simp_all
 . simp[g]
   refine .done ?_
   simp_all
theorem nf{x:Int}(h:KF (.val (ints (aB x))) σ):aA prog m 60 [u8 x] σ KF:=by
 refine fs [] Tryz.func60 rfl (by kernel_rfl) ?_;simp[Tryz.f60];refine af.loop 6 (λk s=>∃env b,s=⟨env,b,[],.no⟩/\env 0=u8 x/\env 5=int k/\Tok σ b (env 3) 1 ((((List.range k).map λn:Nat=>(n:Int)).filter λn=>fR x n).map int)) ⟨_,_,rfl,by simp,by simp,.nil σ 1⟩ ?_;rintro l k _ o ⟨env,b,rfl,d,c,a⟩ f;rcases abe k 6 with g1|g1
 . have e:(k:Int)<6:=by omega
   have p:(((List.range k).map λn:Nat=>(n:Int)).filter λn=>fR x n).length<=k:=by grind
   have q:(((List.range (k+1)).map λn:Nat=>(n:Int)).filter λn=>fR x n)=(((List.range k).map λn:Nat=>(n:Int)).filter λn=>fR x n)++if fR x k then[(k:Int)]else[]:=by
    rw[aaO,aaN,abH]
    grind
   apply rn;simp[d,c,e,va];have g:fR x k=(Eg (x.fdiv (2 ^ min k IntKind.u8.bits)) 1==1):=by simp[fR]
   rw[<-g];cases hb:fR x k
   . simp[c]
     refine⟨by omega,f _ g1 ⟨_,_,rfl,by simp[d],by simp,?_⟩⟩
     simp_all
   . simp
     refine aN lay rfl rfl rfl dD rfl dD rfl rD (by decide) (by grind) (σ0:=σ) (es:=(((List.range k).map λn:Nat=>(n:Int)).filter λn=>fR x n).map int) (xs:=[int k]) (by simp_all) (.inr ⟨_,rfl⟩) λr i j=>?_
     apply rn;simp[c];refine⟨by omega,f _ g1 ⟨_,_,rfl,by simp[d],by simp,?_⟩⟩
     simp_all
 . have:k=6:=by omega
   subst this;apply rn;simp[c];exact .pM a.W (.less a.1 (.done h))
abbrev pQ(n:Nat):adG:=(List.range n).map λn:Nat=>(n:Int)
theorem rv{n:Nat}(j:n<=1000)(h:KF (.val (ints (pQ n))) σ):aA prog m 49 [int n] σ KF:=by
 refine fs [] Tryz.func49 rfl (by kernel_rfl) ?_;simp[Tryz.f49];refine af.loop n (λk s=>∃env b,s=⟨env,b,[],.no⟩/\env 5=int n/\env 6=int k/\Tok σ b (env 3) 1 ((pQ k).map int)) ⟨_,_,rfl,by simp,by simp,.nil σ 1⟩ ?_;rintro l k _ o ⟨env,b,rfl,c,d,a⟩ g;rcases abe k n with g1|g1
 . have e:(k:Int)<n:=by omega
   have f1:-9223372036854775808<=(k:Int)+1/\(k:Int)+1<=9223372036854775807:=by omega
   apply rn;simp[c,d,e];refine aN lay rfl rfl rfl dD rfl dD rfl rD (by decide) (by grind) (σ0:=σ) (es:=(pQ k).map int) (xs:=[int k]) (by simp_all) (.inr ⟨_,rfl⟩) λp i f=>?_
   apply rn;simp[d];refine⟨by omega,g _ g1 ⟨_,_,rfl,by simp[c],by simp,?_⟩⟩;rw[show pQ (k+1)=pQ k++[(k:Int)]by unfold pQ;rw[aaO,aaN];rfl,aaN];exact f
 . have:k=n:=by omega
   subst this;apply rn;simp[c,d];exact .pM a.W (.less a.1 (.done h))
theorem Oa(h:KF (.val (.agg [u8 1,u8 2,u8 4])) σ):aA prog m 101 [] σ KF:=by
 refine aA.F8 lay [] [] 3 0 Tryz.func101 rfl rfl (by rfl) (by kernel_rfl) ?_;simp[Tryz.f101];refine bK.intro λc a=>?_
 simp;change af _ _ _ _ _ _ _ _ _;refine af.runN lay [] 3 ?_;simp;change af _ _ _ _ _ _ _ _ _;refine af.op rfl (bW rfl) (by simp) (λc=>by simp) (qu lay rfl Vq rfl MB (l:=[u8 1,u8 2,u8 4]) (by simp) rfl ?_);apply rn;simp;refine .less ?_ (.done h);exact aa.fC (aa.le_refl _) a
theorem GM{n:Int}{t:Nat}(a:t=if n=1 then 125 else if n=3 then 284 else 195)(h:KF (.val (.lM t (.agg []))) σ):aA prog m 149 [int n] σ KF:=by
 subst a;refine fs [] Tryz.func149 rfl (by kernel_rfl) ?_;simp[Tryz.f149];by_cases g:n=1
 . subst g
   simp;exact .done h
 . by_cases b:n=3
   . subst b
     simp;exact .done h
   . have c:(n==1)=false:=by grind
     have d:(n==3)=false:=by simp_all
     simp[c,d];refine .done ?_
     simp_all
abbrev yO(l:List Kg):adR:=l.map (·.lost)
theorem Ob{l:List Kg}(p:l.length<=1000)(h:KF (.val (jI (yO l))) σ):aA prog m 76 [kY l] σ KF:=by
 refine fs [] Tryz.func76 rfl (by kernel_rfl) ?_;simp[Tryz.f76];refine af.loop l.length (λk s=>∃env c,s=⟨env,c,[],.no⟩/\env 6=kY l/\env 7=int l.length/\env 8=int k/\Tok σ c (env 3) 6 ((yO (l.take k)).map bs)) ⟨_,_,rfl,by simp,by simp,by simp,.nil σ 6⟩ ?_;rintro q k _ r ⟨env,c,rfl,j,e,f,a⟩ n;rcases abe k l.length with g1|g1
 . have g:(k:Int)<l.length:=by omega
   refine af.runN lay [] 17 ?_;simp[j,e,f,g1,g];refine bK.intro λd hd=>?_
   simp;change af _ _ _ _ _ _ _ _ _;refine af.runN lay [] 1 ?_;simp;change af _ _ _ _ _ _ _ _ _;refine af.bq 5 (b:=d) (iy l[k]) (aa.an _ _ _) (by simp) rfl ?_;rw[ew hd];apply rn;simp;refine aN lay rfl rfl rfl nB rfl nB rfl zJ (by decide) (by grind) (σ0:=σ) (es:=(yO (l.take k)).map bs) (xs:=[bs l[k].lost]) (by simp_all) (.inr ⟨_,rfl⟩) λt o i=>?_
   apply rn;simp[f];refine⟨by omega,n _ g1 ⟨_,_,rfl,by simp[j],by simp[e],by simp,?_⟩⟩;rw[show(yO (l.take (k+1))).map bs=(yO (l.take k)).map bs++[bs l[k].lost]by unfold yO;rw[zD g1,aaN,aaN];rfl];exact i
 . have:k=l.length:=by omega
   subst this;apply rn;simp[e,f];rw[aaJ]at a;exact .pM a.W (.less a.1 (.done h))
theorem zP{l:adR}(f:l.length<=1000)(h:∀a σ',Tok σ σ' a 6 (l.map bs)->KF (.val a) σ'):aA prog m 115 [jI l] σ KF:=by
 refine fs [] Tryz.func115 rfl (by kernel_rfl) ?_;simp[Tryz.f115];refine BC (es:=l.map bs) (sp:=.any) (kk:=6) lay rfl nB rfl rfl (by simp) (.inl rfl) (λb=>?_) ?_
 . have:l=[]:=by simp_all
   subst this;have c:(BinOp.eql==BinOp.eql)=true:=rfl;apply rn;simp;exact .done (h _ _ (.nil σ 6))
 . have c:(BinOp.eql==BinOp.neq)=false:=rfl
   apply rn;simp[c];refine aN lay rfl rfl rfl nB rfl nB rfl zJ (by decide) (by grind) (σ0:=σ) (es:=[]) (xs:=l.map bs) ⟨aa.le_refl _,.inr (.inl (by simp))⟩ (.inr ⟨_,rfl⟩) λg d e=>?_
   apply rn;simp;exact .done (h _ _ (by simp_all))
theorem EL{f:Fr}{l:adR}(u:f.aD.length+l.length<=1000)(h:KF (.val (cz {f with aD:=f.aD++l})) σ):aA prog m 75 [cz f,jI l] σ KF:=by
 refine aA.start lay [2] [] 2 Tryz.func75 rfl rfl (by rfl) (by kernel_rfl) ?_;simp[Tryz.f75];refine bK.intro λb hb=>?_
 simp;refine bK.intro λd hd=>?_
 obtain⟨o,j,hd⟩:=aa.aP hd;simp[j,aa.ai];refine cf Tryz.func115 rfl (zP (by omega) λa p q=>?_);refine af.run lay [2] ?_;simp;refine aN lay rfl rfl rfl nB rfl nB rfl zJ (by decide) (by grind) (es:=f.aD.map bs) (xs:=l.map bs) q (.inr ⟨_,rfl⟩) λa' i g=>?_
 rw[<-List.map_append]at g;generalize f.aD++l=L at h g;refine af.Jb 9 (a':=jI L) (by simpa using g.W) ?_;have r:i b=some (.cells (Ee f)):=g.1 _ _ (by simp[j,aa.ai]);have s:i d=some (.cells [.lit (.slice none 0 0),.lit (.slice none 0 0),int 0,int 0,int 0,int 0]):=g.1 _ _ (by simp);refine af.run lay [2] ?_;simp[r,s,o,aa.ai];refine .less (λc x t=>?_) (.done h);have k:c≠b:=λe=>by simp_all
 have n:c≠d:=λe=>by simp_all
 rw[aa.ai _ _ n,aa.ai _ _ k];exact g.1 _ _ (by rw[aa.ai _ _ n,aa.ai _ _ k];exact t)
theorem yP(h:KF (.val (int 0)) σ):aA prog m 69 [.lit .nilIface] σ KF:=by
 refine fs [] Tryz.func69 rfl (by kernel_rfl) ?_;simp[Tryz.f69];refine bK.intro λb hb=>?_
 simp;refine cf Tryz.func111 rfl (Rl ?_);apply rn;simp;exact .less (by repeat (first|exact aa.le_refl _|assumption|refine aa.fC ?_ (by assumption)|refine aa.lR ?_ (by assumption))) (.done h)
theorem r6{f:Fr}(a:f.Fits)(b:check f=0)(h:KF (.val (.lit .nilIface)) σ):aA prog m 70 [cz f] σ KF:=by
 refine fs [] Tryz.func70 rfl (by kernel_rfl) ?_;simp[Tryz.f70];refine cf Tryz.func112 rfl (Ej a ?_);apply rn;simp[b];exact .done h
def qF(t:Int)(x:Way):Int:=if bt x.a 0 (t-1)=false then 3 else if bt x.b 0 (t-1)=false then 3 else if x.a=x.b then 8 else if bt x.cA 1 12=false then 1 else if bt x.aU 0 72=false then 1 else if bt x.eZ 0 72=false then 1 else if x.aU>x.eZ then 5 else 0
theorem Cr{x:Way}{t:Int}(i:0<=t/\t<=100)(h:KF (.val (int (qF t x))) σ):aA prog m 72 [jR x,int t] σ KF:=by
 unfold qF at h;refine fs [] Tryz.func72 rfl (by kernel_rfl) ?_;simp[Tryz.f72];refine⟨by omega,?_⟩;refine cf Tryz.func71 rfl (er ?_);apply rn;simp;refine uu.intro (λa=>?_) (λa=>?_)<;>(try simp at a)<;>(try simp[a]at h)<;>(try simp[a])<;>(try exact .done h);refine⟨by omega,?_⟩;refine cf Tryz.func71 rfl (er ?_);apply rn;simp;refine aH.intro (λb=>?_) (λb=>?_)<;>(try simp at b)<;>(try simp[b]at h)<;>(try simp[b])<;>(try exact .done h);refine aH.intro (λc=>?_) (λc=>?_)<;>(try simp at c)<;>(try simp[c]at h)<;>(try simp[c])<;>(try exact .done h);refine cf Tryz.func71 rfl (er ?_);apply rn;simp;refine uu.intro (λd=>?_) (λd=>?_)<;>(try simp at d)<;>(try simp[d]at h)<;>(try simp[d])<;>(try exact .done h)
 refine cf Tryz.func71 rfl (er ?_);apply rn;simp;refine uu.intro (λe=>?_) (λe=>?_)<;>(try simp at e)<;>(try simp[e]at h)<;>(try simp[e])<;>(try exact .done h);refine cf Tryz.func71 rfl (er ?_);apply rn;simp;refine aH.intro (λf=>?_) (λf=>?_)<;>(try simp at f)<;>(try simp[f]at h)<;>(try simp[f])<;>(try exact .done h);refine aH.intro (λg=>?_) (λg=>?_)<;>(try simp[-Int.not_lt,-Int.not_le]at g)<;>(try simp[g]at h)<;>(try simp[g])<;>(try exact .done h)
def fT{α:Type}(g:α->Int):List α->Int
 |[]=>0
 |x::l=>if g x=0 then fT g l else g x
theorem A7{α:Type}(g:α->Int)(l:List α)(i:Nat)(h:i<l.length):fT g (l.drop i)=if g l[i]=0 then fT g (l.drop (i+1))else g l[i]:=by rw[abc h,fT]
abbrev lone(f:Fr)(e:m5):Fr:={f with aD:=[e]}
abbrev jl(w:bY):Fr:={w.fair with aD:=w.fair.aD++yO w.aF}
def zQ(w:bY)(c:Kg):Int:=if bt c.town 0 (w.bc-1)=false then 3 else if bt c.hour 0 72=false then 1 else if c.hour<c.lost.hour then 5 else 0
def nD(w:bY):Int:=if bt w.bc 1 4=false then 1 else if(6:Int)<w.ways.length then 6 else if fT (qF w.bc) w.ways≠0 then fT (qF w.bc) w.ways else if(3:Int)<w.aF.length then 6 else if fT (zQ w) w.aF≠0 then fT (zQ w) w.aF
 else if(6:Int)<(w.fair.aD.length:Int)+w.aF.length then 6 else if iv (jl w)=0 then 9 else 0
structure bY.qG(w:bY):Prop where
 fits:w.fair.Fits
 C7:check w.fair=0
 VX:∀c∈w.aF,(lone w.fair c.lost).Fits/\check (lone w.fair c.lost)=0
 ways:w.ways.length<1152921504606846976
 aF:w.aF.length<1152921504606846976
theorem SE{es:adL}{sp:cU}{l:adL}:(AV.agg (.sl 6 es sp::l)).W (.agg (.sl 6 es .any::l)):=qy rfl λi x y b a=>by
 cases i with
 |zero=>simp at b a;subst b;subst a;exact gy _ _ _
 |succ i=>simp at b a;rw[b]at a;cases a;exact .refl _
theorem Ct{w:bY}{c:Kg}(j:0<=w.bc/\w.bc<=100)(f:(lone w.fair c.lost).Fits)(g:check (lone w.fair c.lost)=0)(h:KF (.val (int (zQ w c))) σ):aA prog m 73 [dB w,iy c] σ KF:=by
 unfold zQ at h;have i:Wl [AV.agg [.sl 6 [bs c.lost] .exact,rows w.fair.roads,int w.fair.aU,int w.fair.eZ,int w.fair.cP,int w.fair.aR]] [cz (lone w.fair c.lost)]:=.cons SE .nil;refine aA.thaw ?_;refine fs [] Tryz.func73 rfl (by kernel_rfl) ?_;simp[Tryz.f73];refine bK.intro λb hb=>?_
 simp;refine bP Tryz.func70 rfl rfl i (r6 f g ?_);apply rn;simp;refine cf Tryz.func69 rfl (yP ?_);apply rn;simp
 replace h:=nK.less (aa.fC (b:=b) (x:=.cells [.sl 6 [bs c.lost] .exact,rows w.fair.roads,int w.fair.aU,int w.fair.eZ,int w.fair.cP,int w.fair.aR]) (aa.le_refl _) hb) (.done h)
 refine⟨by omega,?_⟩;refine cf Tryz.func71 rfl (er ?_);apply rn;simp;refine aH.intro (λa=>?_) (λa=>?_)<;>(try simp at a)<;>(try simp[a]at h)<;>(try simp[a])<;>(try exact .done h);refine cf Tryz.func71 rfl (er ?_);apply rn;simp;refine aH.intro (λd=>?_) (λd=>?_)<;>(try simp at d)<;>(try simp[d]at h)<;>(try simp[d])<;>(try exact .done h);refine aH.intro (λe=>?_) (λe=>?_)<;>(try simp[-Int.not_lt,-Int.not_le]at e)<;>(try simp[e]at h)<;>(try simp[e])<;>(try exact .done h)
theorem mC{w:bY}(b:w.qG)(f:w.fair.aD.length+w.aF.length<=6):(jl w).Good:=by
 have a:=Fr.n8 b.fits b.C7;refine⟨⟨?_,a.fits.roads,a.fits.row,λe he=>?_⟩,a.fr,a.to,a.le,a.cP,a.aR,?_,λe he=>?_,a.KJ⟩
 . grind
 . rcases aaC.1 he with he|he
   . exact a.fits.marks e he
   . obtain⟨c,d,rfl⟩:=aaL.1 he
     exact(b.VX c d).1.marks _ (lb.2 rfl)
 . simp_all
 . rcases aaC.1 he with he|he
   . exact a.sJ e he
   . obtain⟨c,d,rfl⟩:=aaL.1 he
     exact(Fr.n8 (b.VX c d).1 (b.VX c d).2).sJ _ (lb.2 rfl)
theorem GN{w:bY}(D:m.solo=true)(e:w.qG)(h:KF (.val (int (nD w))) σ):aA prog m 33 [dB w] σ KF:=by
 have E:=e.ways;have F:=e.aF;unfold nD at h;refine fs Xr Tryz.func33 rfl (by kernel_rfl) ?_;simp[Tryz.f33];refine cf Tryz.func70 rfl (r6 e.fits e.C7 ?_);apply rn;simp;refine cf Tryz.func69 rfl (yP ?_);apply rn;simp;refine cf Tryz.func71 rfl (er ?_);apply rn;simp;refine aH.intro (λj=>?_) (λj=>?_)<;>(try simp at j)<;>(try simp[j]at h)<;>(try simp[j])<;>(try exact .done h);have I:=dF j;refine aH.intro (λv=>?_) (λv=>?_)<;>(try simp[-Int.not_lt,-Int.not_le]at v)<;>(try simp[v]at h)<;>(try simp[v])<;>(try exact .done h);refine af.loop w.ways.length (λk s=>∃env,s=⟨env,σ,[],.no⟩/\env 1=.cp (dB w) 0/\env 28=vm w.ways/\env 29=int w.ways.length/\env 30=int k/\fT (qF w.bc) w.ways=fT (qF w.bc) (w.ways.drop k)) ⟨_,rfl,by simp⟩ ?_;rintro G k _ H ⟨env,rfl,c,l,o,g,a⟩ B;refine af.runN lay [] 17 ?_;simp[o,g];apply aH.intro<;>intro C<;>simp at C<;>simp[c,l,g,C]
 . rw[A7 _ _ k C]at a
   refine bK.intro λd hd=>?_
   simp;change af _ _ _ _ _ _ _ _ _;refine af.runN lay [] 1 ?_;simp;change af _ _ _ _ _ _ _ _ _;refine af.bq 5 (b:=d) (jR w.ways[k]) (aa.an _ _ _) (by simp) rfl ?_;rw[ew hd];apply rn;simp[c];refine cf Tryz.func72 rfl (Cr (by omega) ?_);apply rn;simp;apply aH.intro<;>intro p<;>simp at p<;>simp[g,p]
   . rw[aay p]at a
     simp[a,p]at h;exact .done h
   . rw[aaB p]at a
     refine⟨by omega,B _ (by omega) ⟨_,rfl,?_,?_,?_,?_,a⟩⟩<;>simp[c,l,o]
 . have ek:k=w.ways.length:=by omega
   subst ek;rw[acm]at a;rw[show fT (qF w.bc) []=0 from rfl]at a;simp[a]at h;refine aH.intro (λx=>?_) (λx=>?_)<;>(try simp[-Int.not_lt,-Int.not_le]at x)<;>(try simp[x]at h)<;>(try simp[x])<;>(try exact .done h)
   . apply rn
     simp;exact .done h
   apply rn;simp[c];refine af.loop w.aF.length (λk s=>∃env,s=⟨env,σ,[],.no⟩/\env 1=.cp (dB w) 0/\env 47=kY w.aF/\env 48=int w.aF.length/\env 49=int k/\fT (zQ w) w.aF=fT (zQ w) (w.aF.drop k)) ⟨_,rfl,by simp[c]⟩ ?_;rintro G k _ H ⟨env,rfl,c,q,r,i,a⟩ B;refine af.runN lay [] 17 ?_;simp[r,i];apply aH.intro<;>intro t<;>simp at t<;>simp[c,q,i,t]
   . rw[A7 _ _ k t]at a
     refine bK.intro λd hd=>?_
     simp;change af _ _ _ _ _ _ _ _ _;refine af.runN lay [] 1 ?_;simp;change af _ _ _ _ _ _ _ _ _;refine af.bq 8 (b:=d) (iy w.aF[k]) (aa.an _ _ _) (by simp) rfl ?_;rw[ew hd];apply rn;simp[c];refine cf Tryz.func73 rfl (Ct (by omega) (e.VX _ (zG t)).1 (e.VX _ (zG t)).2 ?_);apply rn;simp;apply aH.intro<;>intro u<;>simp at u<;>simp[i,u]
     . rw[aay u]at a
       simp[a,u]at h;exact .done h
     . rw[aaB u]at a
       refine⟨by omega,B _ (by omega) ⟨_,rfl,?_,?_,?_,?_,a⟩⟩<;>simp[c,q,r]
   . have ek:k=w.aF.length:=by omega
     subst ek;rw[acm]at a;rw[show fT (zQ w) []=0 from rfl]at a;simp[a]at h;have J:=(Fr.n8 e.fits e.C7).pJ;have f1:-9223372036854775808<=(w.fair.aD.length:Int)+w.aF.length/\(w.fair.aD.length:Int)+w.aF.length<=9223372036854775807:=by omega
     apply rn;simp[f1.1,f1.2];refine aH.intro (λy=>?_) (λy=>?_)<;>(try simp[-Int.not_lt,-Int.not_le]at y)<;>(try simp[y]at h)<;>(try simp[c,y])<;>(try exact .done h);have z:=mC e (by omega);refine cf Tryz.func76 rfl (Ob (by omega) ?_);apply pg;simp;refine cf Tryz.func75 rfl (EL (by grind) ?_);apply pg;simp;refine cf Tryz.func74 rfl (NT (f:=jl w) D z.fits z.C7 ⟨Nat.lt_of_le_of_lt (Co z _) (by decide),Nat.lt_of_le_of_lt (Co z _) (by decide)⟩ ?_);apply pg;simp;obtain⟨n,a⟩:∃n,n=iv (jl w):=⟨_,rfl⟩;rw[<-a]at h;change af _ _ _ _ _ _ _ _ _;simp only[<-a];apply rn;simp;refine aH.intro (λA=>?_) (λA=>?_)<;>(try simp at A)<;>(try simp[A]at h)<;>(try simp[A])<;>(try exact .done h)
