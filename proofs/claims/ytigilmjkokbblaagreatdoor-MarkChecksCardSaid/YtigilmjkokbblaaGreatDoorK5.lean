/- Part 5 of the proof. -/
import Derived.Test.YtigilmjkokbblaaGreatDoorK4
set_option linter.all false
namespace Go.Proofs.YtigilmjkokbblaaGreatDoor
open Go.bd Go.Conc
set_option maxHeartbeats 2000000
set_option maxRecDepth 4000
variable{m:Mo}{σ:aa}{KF:dV->aa->Prop}
theorem sC{l:List Nat}(h:l.Nodup){i j:Nat}{a:i<l.length}{b:j<l.length}(c:i≠j):l[i]≠l[j]:=by
 rw[List.Nodup,List.pairwise_iff_getElem]at h;rcases Nat.lt_or_ge i j with q|q
 . exact h i j a b q
 . exact Ne.symm (h j i b a (by omega))
def iK(rs:List Nat)(M:List (List Int))(n j:Nat):List AV:=(List.range rs.length).map λl=>if l<j then ints (M.getD l [])else AV.ew (rs.getD l 0) 0 n n
theorem oh(rs:List Nat)(M:List (List Int))(n j:Nat):(iK rs M n j).length=rs.length:=by rw[iK,List.length_map,List.length_range]
theorem oi{rs:List Nat}{M:List (List Int)}{n j l:Nat}(a:l<rs.length):(iK rs M n j)[l]?=some (if l<j then ints (M.getD l [])else AV.ew (rs.getD l 0) 0 n n):=by rw[iK,List.getElem?_map,List.getElem?_range a];rfl
theorem Cl{fid x:Nat}{ro:Option Nat}{hold:List Entry}{K:bd.Exit->St->Prop}{todo:List Item}{env:Env}{D:List lQ}{rc:Rec}{d n at_:Nat}{rs:List Nat}{M:List (List Int)}{cs:List AV}{spr:cG}(σ0:aa)(o:rs.Nodup)(z:∀l,l<rs.length->(M.getD l []).length=n)(p:at_<cs.length)(hd:d∉rs)
 (A:∀σ',σ' d=some (.cells (cs.set at_ (.sl 1 (iK rs M n rs.length) spr)))->(∀y,y≠d->y∉rs->σ' y=σ0 y)->ab Tryz.prog m fid x ro hold todo ⟨env,σ',D,rc⟩ K):
 ∀(f j:Nat),j+f=rs.length->∀σ,σ d=some (.cells (cs.set at_ (.sl 1 (iK rs M n j) spr)))->(∀(l:Nat) (c:l<rs.length),j<=l->σ rs[l]=some (.cells ((M.getD l []).map int)))->(∀y,y≠d->y∉rs->σ y=σ0 y)->ab Tryz.prog m fid x ro hold todo ⟨env,σ,D,rc⟩ K
 | 0,j,G,σ,t,_,u=>by
   have:j=rs.length:=by omega
   subst this;exact A σ t u
 | f + 1,j,G,σ,t,B,u=>by
   have a:j<rs.length:=by omega
   have v:=z j a;have w:d≠rs[j]:=λe=>hd (e ▸ List.getElem_mem a)
   have h:∀e∈iK rs M n j,e.cells=[e]:=λe s=>by unfold iK at s;obtain⟨l,_,rfl⟩:=List.mem_map.1 s;split<;>rfl
   have hlen:(iK rs M n j).length=rs.length:=oh _ _ _ _;have g:∀l,l<rs.length->(iK rs M n j)[l]?=some (if l<j then ints (M.getD l [])else AV.ew (rs.getD l 0) 0 n n):=λl c=>oi c
   have k:(iK rs M n j).set j (.sl 1 ((M.getD j []).map int) .any)=iK rs M n (j+1):=by
    apply List.ext_getElem?;intro l
    by_cases c:l<rs.length
    . have H:(iK rs M n (j+1))[l]?=some (if l<j+1 then ints (M.getD l [])else AV.ew (rs.getD l 0) 0 n n):=oi c
      rw[H]
      by_cases r:l=j
      . subst r
        rw[List.getElem?_set_self (by omega),if_pos (by omega)]
      . rw[List.getElem?_set_ne (Ne.symm r),g l c]
        by_cases q:l<j
        . rw[if_pos q,if_pos (by omega)]
        . rw[if_neg q,if_neg (by omega)]
    . rw[List.getElem?_eq_none (by rw[List.length_set,hlen];omega),List.getElem?_eq_none (by rw[oh];omega)]
   refine ab.NC (b:=rs[j]) (d:=d) (i:=j) (l:=(M.getD j []).map int) (at_:=at_) w (B j a (Nat.le_refl _)) (λe s=>by obtain⟨_,_,rfl⟩:=List.mem_map.1 s;rfl) t (by rw[List.getElem?_set_self p]) h (by rw[g j a,if_neg (by omega),List.length_map,v];simp[List.getD_eq_getElem?_getD,a]) ?_
   rw[List.set_set,k];refine Cl σ0 o z p hd A f (j+1) (by omega) _ (aa.ak _ _ _) (λl c C=>?_) (λy E F=>?_)
   . have I:rs[l]≠d:=λe=>hd (e ▸ List.getElem_mem c)
     rw[aa.ag _ _ I];simp only[aa.del,sC o (show l≠j by omega),if_false]
     exact B l c (by omega)
   . rw[aa.ag _ _ E]
     have:y≠rs[j]:=λe=>F (e ▸ List.getElem_mem a)
     simp only[aa.del,this,if_false];exact u y E F
section
variable{c k:Nat}{nums:List Int}
abbrev fP:List AV:=[.lit (.slice none 0 0),.lit (.slice none 0 0),int 0,int 0,int 0,int 0]
theorem wD{cnt:Int}(hk:k+20+11*cnt.toNat<1000000)(hn:nums.length<1152921504606846976)(hr:0<=cnt/\cnt<=1000)(hb:cq c nums k σ)(h:∀(f:Fr) (a:AV) σ',m5 cnt f->nB c nums (k+20+11*cnt.toNat) σ σ'->(f.aA=[]->a=.lit (.slice none 0 0))/\(f.aA≠[]->a=iQ f.aA)->KF (.val (.agg [a,rows f.roads,int f.bH,int f.hH,int f.dO,int f.most])) σ'):aB Tryz.prog m 38 [.ref c 0,int cnt] σ KF:=by
 obtain⟨n0,s0,_,eA⟩:=id hb;refine aB.start lay [] UG 2 Tryz.func38 rfl rfl (by rfl) (by kernel_rfl) ?_
 simp[Tryz.f38];refine bL.intro λH h4=>?_
 have n4:c≠H:=λe=>by subst e;rw[eA]at h4;cases h4
 have O:∀x,cq c nums k (σ.set H x):=λx=>⟨n0,s0,by assumption,by rw[aa.ag _ _ n4];exact eA⟩
 simp;refine an Tryz.func78 rfl rfl (km (by omega) hn ⟨by omega,by omega⟩ ⟨by omega,by omega⟩ (O _) λdO hz gG ee=>?_)
 refine ab.run lay [] ?_;simp;refine an Tryz.func83 rfl rfl (qj (l:=[1,2,2,3,3,6]) (by omega) hn ⟨by simp,by simp⟩ ee.1 λmost A eB cb=>?_)
 refine ab.run lay [] ?_;simp;refine bL.intro λF h5=>?_
 have a9:H≠c:=Ne.symm n4;have b3:nB c nums (k+2) (σ.set H (.cells fP)) A:=ee.trans cb;have eg:A H=some (.cells fP):=by rw[b3.2 H a9,aa.ak]
 have U:F≠c:=λe=>by subst e;obtain⟨_,_,_,q⟩:=cb.1;rw[q]at h5;cases h5
 have V:F≠H:=λe=>by subst e;rw[eg]at h5;cases h5
 have a8:σ F=none:=by rw[b3.2 F U,aa.ag _ _ V]at h5;exact h5
 simp[aG]
 have eK:∀x,cq c nums (k+2) (A.set F x):=λx=>by obtain⟨n,z,h1,h2⟩:=cb.1;exact⟨n,z,by omega,by rw[aa.ag _ _ (Ne.symm U)];exact h2⟩
 refine an Tryz.func78 rfl rfl (km (by omega) hn ⟨by omega,by omega⟩ ⟨by omega,by omega⟩ (eK _) λdE g gH ei=>?_)
 refine ab.run lay [] ?_;simp;refine an Tryz.func18 rfl rfl (eH (by omega) hn ⟨by omega,by omega⟩ ei.1 λlo b7 gP ej=>?_)
 refine ab.run lay [] ?_;simp;have b4:nB c nums (k+4) (A.set F (.cells [.lit (.slice none 0 0),.lit (.slice none 0 0),int 0,int 0,int dO,int most])) b7:=ei.trans ej;obtain⟨sp,rfl⟩:∃sp:Nat,dE=(sp:Int):=⟨dE.toNat,by omega⟩
 have hA:1<=sp/\sp<=3:=by omega
 have gR:0<=lo/\lo<=4:=by omega
 have eR:1<=dO/\dO<=4:=by omega
 have ep:most=1\/most=2\/most=3\/most=6:=by simp at eB;omega
 have eW:b7 F=some (.cells [.lit (.slice none 0 0),.lit (.slice none 0 0),int 0,int 0,int dO,int most]):=by rw[b4.2 F U,aa.ak]
 have fc:b7 H=some (.cells fP):=by rw[b4.2 H a9,aa.ag _ _ (Ne.symm V)];exact eg
 have dj:(σ.del c).Le b7:=λy x t=>by
  have y1:y≠c:=λe=>by subst e;simp[aa.del]at t
  have y0:σ y=some x:=by simpa[aa.del,y1]using t
  have y5:y≠F:=λe=>by subst e;rw[a8]at y0;cases y0
  have y4:y≠H:=λe=>by subst e;rw[h4]at y0;cases y0
  rw[b4.2 y y1,aa.ag _ _ y5,b3.2 y y1,aa.ag _ _ y4];exact y0
 have b9:=ej.1;clear ee cb ei ej b3 b4 O eK h5 eg gG eB gH gP
 refine ab.loop sp (λi s=>∃env σ' a rs,s=⟨env,σ',[],.no⟩/\env 0=.ref c 0/\env 1=int cnt/\env 4=.ref H 0/\env 5=.ref F 0/\env 6=int sp/\env 7=int lo/\env 8=int i/\cq c nums (k+4) σ'/\σ' H=some (.cells fP)/\σ' F=some (.cells [.lit (.slice none 0 0),a,int 0,int 0,int dO,int most])/\
  Tok (σ.del c) σ' a 1 (rs.map λb:Nat=>AV.ew b 0 sp sp)/\rs.length=i/\rs.Nodup/\(∀b∈rs,σ b=none/\b≠c/\b≠H/\b≠F/\σ' b=some (.cells (List.replicate sp (int 0))))) ⟨_,b7,.lit (.slice none 0 0),[],rfl,by simp,by simp,by simp,by simp,by simp,by simp,by simp,b9,fc,eW,⟨dj,.inl ⟨rfl,rfl⟩⟩,rfl,List.nodup_nil,by simp⟩ ?_
 rintro c0 i _ hi ⟨env,σ',a,rs,rfl,u,C,w,p,r,D,e8,S,q4,X,E,bq,ad,av⟩ ih
 have P:=E.cells
 rcases Nat.lt_or_ge i sp with g1|g1
 . have gU:(i:Int)<sp:=by omega
   have f1:-9223372036854775808<=(i:Int)+1/\(i:Int)+1<=9223372036854775807:=by omega
   have et:∀ax:aa,Tok (σ.del c) ax a 1 (rs.map λb:Nat=>AV.ew b 0 sp sp)->∀y l,ax y=some (.cells l)->bX a≠some y:=λax Q y l t e=>by obtain⟨_,_,q⟩:=Q.bc e;rw[t]at q;cases q
   have fresh:∀b,σ' b=none->σ b=none/\b≠c/\b≠H/\b≠F/\F≠b/\b∉rs:=λb I=>by
    have n1:b≠c:=λe=>by subst e;obtain⟨_,_,_,q⟩:=S;rw[q]at I;cases I
    refine⟨?_,n1,λe=>(by subst e;rw[q4]at I;cases I),λe=>(by subst e;rw[X]at I;cases I),λe=>(by subst e;rw[X]at I;cases I),λe=>(by rw[(av b e).2.2.2.2]at I;cases I)⟩
    cases e:σ b with
    |none=>rfl
    |some x=>have:=E.1 b x (by simp[aa.del,n1,e]);rw[I]at this;cases this
   refine ab.run lay [] ?_;simp[u,C,w,p,r,D,e8,X,P.1,P.2,gU];refine⟨?_,?_⟩
   . ((
       refine oe lay rfl cK rfl rl rfl (by decide) rfl rfl (n:=sp) (by simp[r]) (by simp[r]) ⟨by omega,by omega⟩ λb I=>?_
       obtain⟨cg,ay,b0,b1,bz,b2⟩:=fresh b I;have up:=E.up (aa.dg (x:=.cells (List.replicate sp (int 0))) (aa.le_refl _) I);have b8:(σ'.set b (.cells (List.replicate sp (int 0)))) F=some (.cells [.lit (.slice none 0 0),a,int 0,int 0,int dO,int most]):=(aa.ag _ _ bz).trans X;refine aU.go lay [] ?_;simp[p,r,b8,P.1,P.2]))
     ((
       refine aS lay rfl rfl rfl jO rfl jO rfl cK (by decide) (by simp;omega) (σ0:=(σ'.set b (.cells (List.replicate sp (int 0)))).off a) (es:=rs.map λb:Nat=>AV.ew b 0 sp sp) (xs:=[AV.ew b 0 sp sp]) (by simpa using up.here.1) (.inr ⟨_,by simp;rfl⟩) λa' g B=>?_
       have J:=B.cells;have N:∀y l,(σ'.set b (.cells (List.replicate sp (int 0)))) y=some (.cells l)->g y=some (.cells l):=λy l t=>B.1 _ _ (by rw[aa.gh (et _ up y l t)];exact t)
       have t5:=N _ _ b8;refine aU.go lay [] ?_;simp[p,t5,J.1,J.2,aG];refine ab.run lay [] ?_;simp[e8,f1.1,f1.2];obtain⟨nb,zb,O,K⟩:=S
       have L:Tok (σ.del c) g a' 1 ((rs++[b]).map λb:Nat=>AV.ew b 0 sp sp):=by have:=B.base up.here.2;simpa using this
       refine ih _ g1 ⟨_,_,a',rs++[b],rfl,by simp[u],by simp[C],by simp[w],by simp[p],by simp[r],by simp[D],by simp,⟨nb,zb,O,?_⟩,?_,aa.ak _ _ _,L.beside (by simp[aa.del,U,a8]) (λe=>by obtain⟨_,_,q⟩:=L.bc e;rw[t5]at q;cases q),by simp[bq],?_,?_⟩
       . rw[aa.ag _ _ (Ne.symm U)];exact N _ _ ((aa.ag _ _ (Ne.symm ay)).trans K)
       . rw[aa.ag _ _ (Ne.symm V)];exact N _ _ ((aa.ag _ _ (Ne.symm b0)).trans q4)
       . rw[List.nodup_append]
         exact⟨ad,by simp,λx Q y t=>by simp at t;subst t;exact λe=>b2 (e ▸ Q)⟩
       . intro d hd
         rcases List.mem_append.1 hd with hd|hd
         . obtain⟨p1,p2,p3,p4,p5⟩:=av d hd
           have bA:d≠b:=λe=>b2 (e ▸ hd)
           exact⟨p1,p2,p3,p4,by rw[aa.ag _ _ p4];exact N _ _ ((aa.ag _ _ bA).trans p5)⟩
         . simp at hd
           subst hd;exact⟨cg,ay,b0,b1,by rw[aa.ag _ _ b1];exact N _ _ (aa.ak _ _ _)⟩))
   . ((
       refine oe lay rfl cK rfl rl rfl (by decide) rfl rfl (n:=sp) (by simp[r]) (by simp[r]) ⟨by omega,by omega⟩ λb I=>?_
       obtain⟨cg,ay,b0,b1,bz,b2⟩:=fresh b I;have up:=E.up (aa.dg (x:=.cells (List.replicate sp (int 0))) (aa.le_refl _) I);have b8:(σ'.set b (.cells (List.replicate sp (int 0)))) F=some (.cells [.lit (.slice none 0 0),a,int 0,int 0,int dO,int most]):=(aa.ag _ _ bz).trans X;refine aU.go lay [] ?_;simp[p,r,b8,P.1,P.2]))
     refine⟨?_,?_⟩
     . ((
         refine aS lay rfl rfl rfl jO rfl jO rfl cK (by decide) (by simp;omega) (σ0:=(σ'.set b (.cells (List.replicate sp (int 0)))).off a) (es:=rs.map λb:Nat=>AV.ew b 0 sp sp) (xs:=[AV.ew b 0 sp sp]) (by simpa using up.here.1) (.inr ⟨_,by simp;rfl⟩) λa' g B=>?_
         have J:=B.cells;have N:∀y l,(σ'.set b (.cells (List.replicate sp (int 0)))) y=some (.cells l)->g y=some (.cells l):=λy l t=>B.1 _ _ (by rw[aa.gh (et _ up y l t)];exact t)
         have t5:=N _ _ b8;refine aU.go lay [] ?_;simp[p,t5,J.1,J.2,aG];refine ab.run lay [] ?_;simp[e8,f1.1,f1.2];obtain⟨nb,zb,O,K⟩:=S
         have L:Tok (σ.del c) g a' 1 ((rs++[b]).map λb:Nat=>AV.ew b 0 sp sp):=by have:=B.base up.here.2;simpa using this
         refine ih _ g1 ⟨_,_,a',rs++[b],rfl,by simp[u],by simp[C],by simp[w],by simp[p],by simp[r],by simp[D],by simp,⟨nb,zb,O,?_⟩,?_,aa.ak _ _ _,L.beside (by simp[aa.del,U,a8]) (λe=>by obtain⟨_,_,q⟩:=L.bc e;rw[t5]at q;cases q),by simp[bq],?_,?_⟩
         . rw[aa.ag _ _ (Ne.symm U)];exact N _ _ ((aa.ag _ _ (Ne.symm ay)).trans K)
         . rw[aa.ag _ _ (Ne.symm V)];exact N _ _ ((aa.ag _ _ (Ne.symm b0)).trans q4)
         . rw[List.nodup_append]
           exact⟨ad,by simp,λx Q y t=>by simp at t;subst t;exact λe=>b2 (e ▸ Q)⟩
         . intro d hd
           rcases List.mem_append.1 hd with hd|hd
           . obtain⟨p1,p2,p3,p4,p5⟩:=av d hd
             have bA:d≠b:=λe=>b2 (e ▸ hd)
             exact⟨p1,p2,p3,p4,by rw[aa.ag _ _ p4];exact N _ _ ((aa.ag _ _ bA).trans p5)⟩
           . simp at hd
             subst hd;exact⟨cg,ay,b0,b1,by rw[aa.ag _ _ b1];exact N _ _ (aa.ak _ _ _)⟩))
     . ((
         refine aS lay rfl rfl rfl jO rfl jO rfl cK (by decide) (by simp;omega) (σ0:=(σ'.set b (.cells (List.replicate sp (int 0)))).off a) (es:=rs.map λb:Nat=>AV.ew b 0 sp sp) (xs:=[AV.ew b 0 sp sp]) (by simpa using up.here.1) (.inr ⟨_,by simp;rfl⟩) λa' g B=>?_
         have J:=B.cells;have N:∀y l,(σ'.set b (.cells (List.replicate sp (int 0)))) y=some (.cells l)->g y=some (.cells l):=λy l t=>B.1 _ _ (by rw[aa.gh (et _ up y l t)];exact t)
         have t5:=N _ _ b8;refine aU.go lay [] ?_;simp[p,t5,J.1,J.2,aG];refine ab.run lay [] ?_;simp[e8,f1.1,f1.2];obtain⟨nb,zb,O,K⟩:=S
         have L:Tok (σ.del c) g a' 1 ((rs++[b]).map λb:Nat=>AV.ew b 0 sp sp):=by have:=B.base up.here.2;simpa using this
         refine ih _ g1 ⟨_,_,a',rs++[b],rfl,by simp[u],by simp[C],by simp[w],by simp[p],by simp[r],by simp[D],by simp,⟨nb,zb,O,?_⟩,?_,aa.ak _ _ _,L.beside (by simp[aa.del,U,a8]) (λe=>by obtain⟨_,_,q⟩:=L.bc e;rw[t5]at q;cases q),by simp[bq],?_,?_⟩
         . rw[aa.ag _ _ (Ne.symm U)];exact N _ _ ((aa.ag _ _ (Ne.symm ay)).trans K)
         . rw[aa.ag _ _ (Ne.symm V)];exact N _ _ ((aa.ag _ _ (Ne.symm b0)).trans q4)
         . rw[List.nodup_append]
           exact⟨ad,by simp,λx Q y t=>by simp at t;subst t;exact λe=>b2 (e ▸ Q)⟩
         . intro d hd
           rcases List.mem_append.1 hd with hd|hd
           . obtain⟨p1,p2,p3,p4,p5⟩:=av d hd
             have bA:d≠b:=λe=>b2 (e ▸ hd)
             exact⟨p1,p2,p3,p4,by rw[aa.ag _ _ p4];exact N _ _ ((aa.ag _ _ bA).trans p5)⟩
           . simp at hd
             subst hd;exact⟨cg,ay,b0,b1,by rw[aa.ag _ _ b1];exact N _ _ (aa.ak _ _ _)⟩))
 . have h3:sp=i:=by omega
   subst h3;clear ih b9 eW fc dj
   obtain⟨spr,rfl⟩:∃spr,a=.sl 1 (rs.map λb:Nat=>AV.ew b 0 sp sp) spr:=by
    rcases E.2 with⟨_,e⟩|e|⟨_,_,_,e,_⟩
    . have:=congrArg List.length e
      rw[List.length_map]at this;simp only[List.length_nil]at this;omega
    . exact⟨_,e⟩
    . exact⟨_,e⟩
   have Y:=E.1;clear E
   have al:∀(j:Nat) (hj:j<rs.length),σ rs[j]=none/\rs[j]≠c/\rs[j]≠H/\rs[j]≠F:=λj hj=>by obtain⟨p1,p2,p3,p4,_⟩:=av _ (List.getElem_mem hj);exact⟨p1,p2,p3,p4⟩
   refine ab.run lay [] ?_;simp[u,C,w,p,r,D,e8]
   have o:∀(j:Nat) (hj:j<rs.length),σ' rs[j]=some (.cells (((List.replicate sp (List.replicate sp (0:Int))).getD j []).map int)):=λj hj=>by rw[(av _ (List.getElem_mem hj)).2.2.2.2];simp[List.getD_eq_getElem?_getD,show j<sp by omega]
   clear av
   refine ab.loop sp (λi s=>∃env σ' M,s=⟨env,σ',[],.no⟩/\env 0=.ref c 0/\env 1=int cnt/\env 4=.ref H 0/\env 5=.ref F 0/\env 6=int sp/\env 7=int lo/\env 9=int i/\cq c nums (k+4+3*i) σ'/\σ' H=some (.cells fP)/\σ' F=some (.cells [.lit (.slice none 0 0),.sl 1 (rs.map λb:Nat=>AV.ew b 0 sp sp) spr,int 0,int 0,int dO,int most])/\
    (σ.del c).Le σ'/\Gh sp lo i 0 M/\∀(j:Nat) (hj:j<rs.length),σ' rs[j]=some (.cells ((M.getD j []).map int))) ⟨_,σ',_,rfl,by simp[u],by simp[C],by simp[w],by simp[p],by simp[r],by simp[D],by simp,S,q4,X,Y,Gh.start sp lo,o⟩ ?_
   clear u C w p r D e8 S q4 X Y o
   rintro c1 i _ hB ⟨env,σ',M,rfl,u,C,w,p,r,D,G,S,q4,X,Y,hM,o⟩ ih
   rcases Nat.lt_or_ge i sp with g2|g2
   . have tE:(i:Int)<sp:=by omega
     refine ab.run lay [] ?_;simp[u,C,w,p,r,D,G,tE]
     refine ab.loop i (λj s=>∃env σ' M,s=⟨env,σ',[],.no⟩/\env 0=.ref c 0/\env 1=int cnt/\env 4=.ref H 0/\env 5=.ref F 0/\env 6=int sp/\env 7=int lo/\env 9=int i/\env 10=int j/\cq c nums (k+4+3*i+j) σ'/\σ' H=some (.cells fP)/\σ' F=some (.cells [.lit (.slice none 0 0),.sl 1 (rs.map λb:Nat=>AV.ew b 0 sp sp) spr,int 0,int 0,int dO,int most])/\
      (σ.del c).Le σ'/\Gh sp lo i j M/\∀(j:Nat) (hj:j<rs.length),σ' rs[j]=some (.cells ((M.getD j []).map int))) ⟨_,σ',M,rfl,by simp[u],by simp[C],by simp[w],by simp[p],by simp[r],by simp[D],by simp[G],by simp,S,q4,X,Y,hM,o⟩ ?_
     clear u C w p r D G S q4 X Y hM o
     rintro c2 j _ hj ⟨env,σ',M,rfl,u,C,w,p,r,D,G,bg,S,q4,X,Y,hM,o⟩ fi
     rcases Nat.lt_or_ge j i with g3|g3
     . have zw:(j:Int)<i:=by omega
       have f1:-9223372036854775808<=(j:Int)+1/\(j:Int)+1<=9223372036854775807:=by omega
       have f2:-9223372036854775808<=2*lo/\2*lo<=9223372036854775807:=by omega
       refine ab.run lay [] ?_;simp[u,C,w,p,r,D,G,bg,zw,f2.1,f2.2];refine an Tryz.func78 rfl rfl (km (by omega) hn ⟨by omega,by omega⟩ ⟨by omega,by omega⟩ S λv A hv hd=>?_)
       have s5:A F=some (.cells [.lit (.slice none 0 0),.sl 1 (rs.map λb:Nat=>AV.ew b 0 sp sp) spr,int 0,int 0,int dO,int most]):=by rw[hd.2 F U];exact X
       have s4:A H=some (.cells fP):=by rw[hd.2 H a9];exact q4
       have dr:i<rs.length:=by omega
       have dx:j<rs.length:=by omega
       obtain⟨z1,z2,z3,z4⟩:=al i dr;obtain⟨y1,y2,y3,y4⟩:=al j dx;have si:A rs[i]=some (.cells ((M.getD i []).map int)):=by rw[hd.2 _ z2];exact o i dr
       have sj:A rs[j]=some (.cells ((M.getD j []).map int)):=by rw[hd.2 _ y2];exact o j dx
       have fl:rs[i]≠rs[j]:=sC ad (by omega)
       have fp:=Ne.symm fl;obtain⟨Ri,ft⟩:∃R,R=M.getD i []:=⟨_,rfl⟩;obtain⟨Rj,fv⟩:∃R,R=M.getD j []:=⟨_,rfl⟩;have li:=hM.row i (by omega)
       have lj:=hM.row j (by omega)
       rw[<-ft]at si li;rw[<-fv]at sj lj;have h6:j+1<=sp:=by omega
       have h7:i+1<=sp:=by omega
       have g4:j<sp:=by omega
       have h8:(j:Int)<sp:=by omega
       have fw:(i:Int)<sp:=by omega
       have hF:∀g,g=(A.set rs[i] (.cells ((Ri.map int).set j (int v)))).set rs[j] (.cells ((Rj.map int).set i (int v)))->cq c nums (k+4+3*i+(j+1)) g/\g H=some (.cells fP)/\g F=some (.cells [.lit (.slice none 0 0),.sl 1 (rs.map λb:Nat=>AV.ew b 0 sp sp) spr,int 0,int 0,int dO,int most])/\(σ.del c).Le g/\∀(l:Nat) (T:l<rs.length),g rs[l]=some (.cells (((yL M i j v).getD l []).map int)):=λg e3=>by
        subst e3;refine⟨?_,?_,?_,λy x t=>?_,λl T=>?_⟩
        . obtain⟨nb,zb,O,K⟩:=hd.1
          exact⟨nb,zb,by omega,by rw[aa.ag _ _ (Ne.symm y2),aa.ag _ _ (Ne.symm z2)];exact K⟩
        . rw[aa.ag _ _ (Ne.symm y3),aa.ag _ _ (Ne.symm z3)];exact s4
        . rw[aa.ag _ _ (Ne.symm y4),aa.ag _ _ (Ne.symm z4)];exact s5
        . have w1:y≠c:=λe=>by subst e;simp[aa.del]at t
          have w0:σ y=some x:=by simpa[aa.del,w1]using t
          have w2:y≠rs[i]:=λe=>by rw[e,z1]at w0;cases w0
          have w3:y≠rs[j]:=λe=>by rw[e,y1]at w0;cases w0
          rw[aa.ag _ _ w3,aa.ag _ _ w2,hd.2 y w1];exact Y y x t
        . rw [zv (by rw[hM.len];omega) (by rw[hM.len];omega) (by omega),<-ft,<-fv]
          by_cases q1:l=j
          . subst q1
            rw[if_pos rfl,aa.ak,List.map_set]
          . rw[if_neg q1,aa.ag _ _ (sC ad q1)]
            by_cases q2:l=i
            . subst q2
              rw[if_pos rfl,aa.ak,List.map_set]
            . rw[if_neg q2,aa.ag _ _ (sC ad q2),hd.2 _ (al l T).2.1]
              exact o l T
       have Z:=hF _ rfl;clear hF;refine ab.run lay [] ?_;simp[u,C,w,p,r,D,G,bg,s5,bq,g2,g4,h8,fw,h6,h7,li,lj,si,sj,aa.ag,fl,fp];refine⟨?_,?_⟩
       . refine ab.run lay [] ?_
         simp[u,C,w,p,r,D,G,bg,f1.1,f1.2];exact fi _ g3 ⟨_,_,yL M i j v,rfl,by simp[u,C,w,p,r,D,G,bg],by simp[u,C,w,p,r,D,G,bg],by simp[u,C,w,p,r,D,G,bg],by simp[u,C,w,p,r,D,G,bg],by simp[u,C,w,p,r,D,G,bg],by simp[u,C,w,p,r,D,G,bg],by simp[u,C,w,p,r,D,G,bg],by simp[u,C,w,p,r,D,G,bg],Z.1,Z.2.1,Z.2.2.1,Z.2.2.2.1,hM.next (by omega) g3 ⟨hv.1,by omega⟩,Z.2.2.2.2⟩
       . refine ab.run lay [] ?_
         simp[u,C,w,p,r,D,G,bg,f1.1,f1.2];exact fi _ g3 ⟨_,_,yL M i j v,rfl,by simp[u,C,w,p,r,D,G,bg],by simp[u,C,w,p,r,D,G,bg],by simp[u,C,w,p,r,D,G,bg],by simp[u,C,w,p,r,D,G,bg],by simp[u,C,w,p,r,D,G,bg],by simp[u,C,w,p,r,D,G,bg],by simp[u,C,w,p,r,D,G,bg],by simp[u,C,w,p,r,D,G,bg],Z.1,Z.2.1,Z.2.2.1,Z.2.2.2.1,hM.next (by omega) g3 ⟨hv.1,by omega⟩,Z.2.2.2.2⟩
     . have h9:i=j:=by omega
       subst h9;have f1:-9223372036854775808<=(i:Int)+1/\(i:Int)+1<=9223372036854775807:=by omega
       refine ab.run lay [] ?_;simp[u,C,w,p,r,D,G,bg,f1.1,f1.2];exact ih _ g2 ⟨_,_,M,rfl,by simp[u,C,w,p,r,D,G,bg],by simp[u,C,w,p,r,D,G,bg],by simp[u,C,w,p,r,D,G,bg],by simp[u,C,w,p,r,D,G,bg],by simp[u,C,w,p,r,D,G,bg],by simp[u,C,w,p,r,D,G,bg],by simp[u,C,w,p,r,D,G,bg],S.mono (by omega),q4,X,Y,hM.line,o⟩
   . have ha:sp=i:=by omega
     subst ha;clear ih;have fx:∀l,l<rs.length->(M.getD l []).length=sp:=λl T=>hM.row l (by omega)
     have fO:F∉rs:=λe=>by obtain⟨l,T,e'⟩:=List.mem_iff_getElem.1 e;exact(al l T).2.2.2 e'
     have b5:rs.map (λb:Nat=>AV.ew b 0 sp sp)=iK rs M sp 0:=by
      apply List.ext_getElem?;intro l
      by_cases T:l<rs.length
      . rw[oi T,if_neg (by omega),List.getElem?_map,List.getElem?_eq_getElem T]
        simp[List.getD_eq_getElem?_getD,T]
      . rw[List.getElem?_eq_none (by rw[List.length_map];omega),List.getElem?_eq_none (by rw[oh];omega)]
     have b6:iK rs M sp rs.length=M.map ints:=by
      have ev:=hM.len;apply List.ext_getElem?;intro l
      by_cases T:l<rs.length
      . have gd:l<M.length:=by omega
        rw[oi T,if_pos T,List.getElem?_map,List.getElem?_eq_getElem gd];simp[List.getD_eq_getElem?_getD,gd]
      . rw[List.getElem?_eq_none (by rw[oh];omega),List.getElem?_eq_none (by rw[List.length_map];omega)]
     rw[b5]at X;refine Cl (d:=F) (n:=sp) (at_:=1) (rs:=rs) (M:=M) (cs:=[.lit (.slice none 0 0),.bC,int 0,int 0,int dO,int most]) (spr:=spr) σ' ad fx (by simp) fO (λg ey gj=>?_) rs.length 0 (by omega) σ' (by simpa using X) (λl T _=>o l T) (λ_ _ _=>rfl)
     rw[b6]at ey;have gl:=hM.fin;have ev:=hM.len
     have N:∀(j:Nat),j≠F->(∀(l:Nat) (T:l<rs.length),rs[l]≠j)->g j=σ' j:=λj h1 h2=>gj j h1 λe=>by obtain⟨l,T,e'⟩:=List.mem_iff_getElem.1 e;exact h2 l T e'
     have gp:cq c nums (k+4+3*sp) g:=by obtain⟨nb,zb,O,K⟩:=S;exact⟨nb,zb,O,by rw[N c (Ne.symm U) (λl T=>(al l T).2.1)];exact K⟩
     have gw:g H=some (.cells fP):=by rw[N H (Ne.symm V) (λl T=>(al l T).2.2.1)];exact q4
     have gA:g F=some (.cells [.lit (.slice none 0 0),.sl 1 (M.map ints) spr,int 0,int 0,int dO,int most]):=by simpa using ey
     have dy:(σ.del c).Le g:=λy x t=>by
      have w1:y≠c:=λe=>by subst e;simp[aa.del]at t
      have w0:σ y=some x:=by simpa[aa.del,w1]using t
      rw[N y (λe=>by subst e;rw[a8]at w0;cases w0) (λl T e=>by subst e;rw[(al l T).1]at w0;cases w0)]
      exact Y y x t
     clear ey gj o b5 b6 S q4 X Y hM fx fO N al ad bq;refine ab.run lay [] ?_;simp[u,C,w,p,r,D,G];refine an Tryz.func18 rfl rfl (eH (by omega) hn ⟨by omega,by omega⟩ gp λfr b7 hD bB=>?_)
     refine ab.run lay [] ?_;simp[u,C,w,p,r,D,G];refine an Tryz.func78 rfl rfl (km (by omega) hn ⟨by omega,by omega⟩ ⟨by omega,by omega⟩ bB.1 λto cl hE c6=>?_)
     have t5:cl F=some (.cells [.lit (.slice none 0 0),.sl 1 (M.map ints) spr,int 0,int 0,int dO,int most]):=by rw[c6.2 F U,bB.2 F U];exact gA
     refine ab.run lay [] ?_;simp[u,C,w,p,r,D,G,t5,aG];have t4:cl H=some (.cells fP):=by rw[c6.2 H a9,bB.2 H a9];exact gw
     have ea:(σ.del c).Le cl:=λy x t=>by
      have w1:y≠c:=λe=>by subst e;simp[aa.del]at t
      rw[c6.2 y w1,bB.2 y w1];exact dy y x t
     have gB:∀x,cq c nums (k+6+3*sp) (cl.set F x):=λx=>by obtain⟨n,z,h1,h2⟩:=c6.1;exact⟨n,z,by omega,by rw[aa.ag _ _ (Ne.symm U)];exact h2⟩
     refine an Tryz.func18 rfl rfl (eH (by omega) hn ⟨by omega,by omega⟩ (gB _) λq cm hG c7=>?_)
     refine ab.run lay [] ?_;simp[u,C,w,p,r,D,G];have u5:cm F=some (.cells [.lit (.slice none 0 0),.sl 1 (M.map ints) spr,int fr,int to,int dO,int most]):=by rw[c7.2 F U,aa.ak]
     have u4:cm H=some (.cells fP):=by rw[c7.2 H a9,aa.ag _ _ (Ne.symm V)];exact t4
     have eb:(σ.del c).Le cm:=λy x t=>by
      have w1:y≠c:=λe=>by subst e;simp[aa.del]at t
      have w0:σ y=some x:=by simpa[aa.del,w1]using t
      rw[c7.2 y w1,aa.ag _ _ (λe=>by subst e;rw[a8]at w0;cases w0)];exact ea y x t
     obtain⟨qn,rfl⟩:∃qn:Nat,q=(qn:Int):=⟨q.toNat,by omega⟩
     have hI:(qn:Int)<=cnt:=by omega
     have ec:=c7.1;clear bB c6 c7 gB gp gw gA dy ea t5 t4
     refine ab.loop qn (λi s=>∃env σ' a es,s=⟨env,σ',[],.no⟩/\env 0=.ref c 0/\env 4=.ref H 0/\env 5=.ref F 0/\env 6=int sp/\env 13=int ((qn:Int)-i)/\cq c nums (k+7+3*sp+11*i) σ'/\σ' H=some (.cells fP)/\σ' F=some (.cells [a,.sl 1 (M.map ints) spr,int fr,int to,int dO,int most])/\
      Tok (σ.del c) σ' a 6 (es.map aW)/\es.length=i/\(∀e∈es,uP sp e)/\(es=[]->a=.lit (.slice none 0 0))) ⟨_,cm,.lit (.slice none 0 0),[],rfl,by simp[u],by simp[w],by simp[p],by simp[r],by simp,ec.mono (by omega),u4,u5,⟨eb,.inl ⟨rfl,rfl⟩⟩,rfl,by simp,λ_=>rfl⟩ ?_
     clear u C w p r D G ec u4 u5 eb
     rintro c3 i _ hK ⟨env,σ',a,es,rfl,u,w,p,r,c8,cv,q4,X,E,ez,dd,gC⟩ ih
     have P:=E.cells;have ca:∀ax:aa,Tok (σ.del c) ax a 6 (es.map aW)->∀y l,ax y=some (.cells l)->bX a≠some y:=λax Q y l t e=>by obtain⟨_,_,q⟩:=Q.bc e;rw[t]at q;cases q
     have gD:∃l,σ' c=some (.cells l):=by obtain⟨_,_,_,q⟩:=cv;exact⟨_,q⟩
     rcases Nat.lt_or_ge i qn with g1|g1
     . have f1 : -9223372036854775808<=(qn:Int)-i-1/\(qn:Int)-i-1<=9223372036854775807:=by omega
       refine ab.run lay [] ?_;simp[u,w,p,r,c8,X,P.1,P.2,g1];refine⟨?_,?_⟩
       . ((
           refine an Tryz.func79 rfl rfl (og (by omega) hn ⟨by omega,by omega⟩ cv λe A he hd=>?_)
           have s5:A F=some (.cells [a,.sl 1 (M.map ints) spr,int fr,int to,int dO,int most]):=by rw[hd.2 F U];exact X
           have s4:A H=some (.cells fP):=by rw[hd.2 H a9];exact q4
           have a7:Tok (σ.del c) A a 6 (es.map aW):=sz E (by simp[aa.del]) gD hd.2
           refine aU.go lay [] ?_;simp[p,s5,P.1,P.2]))
         ((
           refine aS lay rfl rfl rfl ko rfl ko rfl rp (by decide) (by simp;omega) (σ0:=A.off a) (es:=es.map aW) (xs:=[aW e]) (by simpa using a7.here.1) (.inr ⟨_,by simp;rfl⟩) λa' g B=>?_
           have J:=B.cells;have N:∀y l,A y=some (.cells l)->g y=some (.cells l):=λy l t=>B.1 _ _ (by rw[aa.gh (ca _ a7 y l t)];exact t)
           have t5:=N _ _ s5;have t4:=N _ _ s4;refine aU.go lay [] ?_;simp[p,t5,J.1,J.2,aG];refine ab.run lay [] ?_;simp[c8,f1.1,f1.2];obtain⟨nb,zb,O,K⟩:=hd.1
           have L:Tok (σ.del c) g a' 6 ((es++[e]).map aW):=by have:=B.base a7.here.2;simpa using this
           refine ih _ g1 ⟨_,_,a',es++[e],rfl,by simp[u],by simp[w],by simp[p],by simp[r],by simp;omega,⟨nb,zb,by omega,?_⟩,?_,aa.ak _ _ _,L.beside (by simp[aa.del,U,a8]) (λe=>by obtain⟨_,_,q⟩:=L.bc e;rw[t5]at q;cases q),by simp[ez],?_,λe=>by simp at e⟩
           . rw[aa.ag _ _ (Ne.symm U)];exact N _ _ K
           . rw[aa.ag _ _ (Ne.symm V)];exact t4
           . intro x Q
             rcases List.mem_append.1 Q with Q|Q
             . exact dd x Q
             . simp at Q;subst Q;exact he))
       . ((
           refine an Tryz.func79 rfl rfl (og (by omega) hn ⟨by omega,by omega⟩ cv λe A he hd=>?_)
           have s5:A F=some (.cells [a,.sl 1 (M.map ints) spr,int fr,int to,int dO,int most]):=by rw[hd.2 F U];exact X
           have s4:A H=some (.cells fP):=by rw[hd.2 H a9];exact q4
           have a7:Tok (σ.del c) A a 6 (es.map aW):=sz E (by simp[aa.del]) gD hd.2
           refine aU.go lay [] ?_;simp[p,s5,P.1,P.2]))
         refine⟨?_,?_⟩
         . ((
             refine aS lay rfl rfl rfl ko rfl ko rfl rp (by decide) (by simp;omega) (σ0:=A.off a) (es:=es.map aW) (xs:=[aW e]) (by simpa using a7.here.1) (.inr ⟨_,by simp;rfl⟩) λa' g B=>?_
             have J:=B.cells;have N:∀y l,A y=some (.cells l)->g y=some (.cells l):=λy l t=>B.1 _ _ (by rw[aa.gh (ca _ a7 y l t)];exact t)
             have t5:=N _ _ s5;have t4:=N _ _ s4;refine aU.go lay [] ?_;simp[p,t5,J.1,J.2,aG];refine ab.run lay [] ?_;simp[c8,f1.1,f1.2];obtain⟨nb,zb,O,K⟩:=hd.1
             have L:Tok (σ.del c) g a' 6 ((es++[e]).map aW):=by have:=B.base a7.here.2;simpa using this
             refine ih _ g1 ⟨_,_,a',es++[e],rfl,by simp[u],by simp[w],by simp[p],by simp[r],by simp;omega,⟨nb,zb,by omega,?_⟩,?_,aa.ak _ _ _,L.beside (by simp[aa.del,U,a8]) (λe=>by obtain⟨_,_,q⟩:=L.bc e;rw[t5]at q;cases q),by simp[ez],?_,λe=>by simp at e⟩
             . rw[aa.ag _ _ (Ne.symm U)];exact N _ _ K
             . rw[aa.ag _ _ (Ne.symm V)];exact t4
             . intro x Q
               rcases List.mem_append.1 Q with Q|Q
               . exact dd x Q
               . simp at Q;subst Q;exact he))
         . ((
             refine aS lay rfl rfl rfl ko rfl ko rfl rp (by decide) (by simp;omega) (σ0:=A.off a) (es:=es.map aW) (xs:=[aW e]) (by simpa using a7.here.1) (.inr ⟨_,by simp;rfl⟩) λa' g B=>?_
             have J:=B.cells;have N:∀y l,A y=some (.cells l)->g y=some (.cells l):=λy l t=>B.1 _ _ (by rw[aa.gh (ca _ a7 y l t)];exact t)
             have t5:=N _ _ s5;have t4:=N _ _ s4;refine aU.go lay [] ?_;simp[p,t5,J.1,J.2,aG];refine ab.run lay [] ?_;simp[c8,f1.1,f1.2];obtain⟨nb,zb,O,K⟩:=hd.1
             have L:Tok (σ.del c) g a' 6 ((es++[e]).map aW):=by have:=B.base a7.here.2;simpa using this
             refine ih _ g1 ⟨_,_,a',es++[e],rfl,by simp[u],by simp[w],by simp[p],by simp[r],by simp;omega,⟨nb,zb,by omega,?_⟩,?_,aa.ak _ _ _,L.beside (by simp[aa.del,U,a8]) (λe=>by obtain⟨_,_,q⟩:=L.bc e;rw[t5]at q;cases q),by simp[ez],?_,λe=>by simp at e⟩
             . rw[aa.ag _ _ (Ne.symm U)];exact N _ _ K
             . rw[aa.ag _ _ (Ne.symm V)];exact t4
             . intro x Q
               rcases List.mem_append.1 Q with Q|Q
               . exact dd x Q
               . simp at Q;subst Q;exact he))
     . have hh:i=qn:=by omega
       subst hh;refine ab.run lay [] ?_;simp[u,w,p,r,c8,X,P.1,P.2,q4,aG];obtain⟨nb,zb,O,K⟩:=cv;obtain⟨f,hf⟩:∃f:Fr,f=⟨es,M,fr,to,dO,most⟩:=⟨_,rfl⟩
       have ho:m5 cnt f:=by
        subst hf;refine⟨eR,ep,by show 1<=M.length/\M.length<=3;omega,⟨lo,gR,by show sA M.length lo M;rw[ev];exact gl⟩,by show 0<=fr/\fr<=2;omega,by show fr<=to/\to<=2;omega,by show(es.length:Int)<=cnt;omega,λe he=>?_⟩
        show uP M.length e;rw[ev];exact dd e he
       obtain⟨a2,hp,hq⟩:∃a2,((f.aA=[]->a2=.lit (.slice none 0 0))/\(f.aA≠[]->a2=iQ f.aA))/\a.W a2:=by
        by_cases e:es=[]
        . exact⟨_,⟨λ_=>rfl,λe2=>absurd (by subst hf;exact e) e2⟩,by rw[gC e];exact .refl _⟩
        . exact⟨_,⟨λe2=>absurd (by subst hf;exact e2) e,λ_=>rfl⟩,by subst hf;exact E.W⟩
       refine .iI (a':=.agg [a2,rows f.roads,int f.bH,int f.hH,int f.dO,int f.most]) (lT (by subst hf;rfl) λi x y x1 x2=>?_) (.less (σ':=σ.set c (.cells [ints nums,int nb,.lit (.int .u64 zb)])) (λy x t=>?_) (.done (h f a2 _ ho ⟨⟨nb,zb,by omega,aa.ak _ _ _⟩,λy t=>aa.ag _ _ t⟩ hp)))
       . subst hf
         match i with
         |0=>simp at x1 x2;subst x1;subst x2;exact hq
         |1=>simp at x1 x2;subst x1;subst x2;exact ck 1 _ spr
         |2=>simp at x1 x2;subst x1;subst x2;exact .refl _
         |3=>simp at x1 x2;subst x1;subst x2;exact .refl _
         |4=>simp at x1 x2;subst x1;subst x2;exact .refl _
         |5=>simp at x1 x2;subst x1;subst x2;exact .refl _
         |i+6=>simp at x1
       . by_cases y1:y=c
         . subst y1
           rw[aa.ak]at t;rw[aa.ag _ _ n4,K];exact t
         . rw[aa.ag _ _ y1]at t
           have y4:y≠H:=λe=>by subst e;rw[h4]at t;cases t
           rw[aa.ag _ _ y4];exact E.1 y x (by simpa[aa.del,y1]using t)
theorem HB{cnt:Int}(n:k+20+11*cnt.toNat<1000000)(o:nums.length<1152921504606846976)(g:0<=cnt/\cnt<=1000)(hb:cq c nums k σ)(h:∀(f:Fr) σ',m5 cnt f->nB c nums (k+20+11*cnt.toNat) σ σ'->KF (.val (aC f)) σ'):aB Tryz.prog m 38 [.ref c 0,int cnt] σ KF:=by
 refine aB.thaw (wD n o g hb λf a σ' j hd l=>?_);by_cases e:f.aA=[]
 . obtain rfl:=l.1 e
   refine .iI (a':=aC f) (lT rfl λi x y b d=>?_) (.done (h f σ' j hd))
   match i with
   |0=>simp at b d;subst b;subst d;rw[e];exact cW 6
   |1=>simp at b d;subst b;subst d;exact .refl _
   |2=>simp at b d;subst b;subst d;exact .refl _
   |3=>simp at b d;subst b;subst d;exact .refl _
   |4=>simp at b d;subst b;subst d;exact .refl _
   |5=>simp at b d;subst b;subst d;exact .refl _
   |i+6=>simp at b
 . obtain rfl:=l.2 e
   exact .done (h f σ' j hd)
end
end Go.Proofs.YtigilmjkokbblaaGreatDoor
namespace Go.Proofs.YtigilmjkokbblaaGreatDoor
open Go.bd Go.Conc
set_option maxHeartbeats 2000000
set_option maxRecDepth 4000
theorem Cm{n:Int}{k:Nat}{l:List Int}(h:l∈lu n k):Uo n k l:=kq k (Int.le_refl _) l h
theorem pF{n k:Int}(f:n<=6):∀(i:Nat),(i:Int)<=k->(du n k i).length<=7 ^ i
 |0,_=>by simp[du]
 | i + 1, j=>by
   have b:=pF (k:=k) f i (by omega)
   unfold du
   have:∀ l:List (List Int),(∀x∈l,Uo n i x)->(l.flatMap (aT n k i)).length<=l.length*7:=λl=>by
    induction l with
    |nil=>intro _;simp
    | cons x l b=>
      intro c;rw[List.flatMap_cons,List.length_append,List.length_cons];have d:=b λy g=>c y (by simp[g])
      have m:(aT n k i x).length<=7:=by
       have e:=c x (by simp)
       unfold aT EA;rw[List.length_map,List.length_map,List.length_range]
       have:0<=cz i x:=by
        unfold cz;split
        . omega
        . have a:i-1<x.length:=by rw[e.len];omega
          have h:x.getD (i-1) 0∈x:=by rw[List.getD_eq_getElem?_getD,List.getElem?_eq_getElem a];exact List.getElem_mem a
          have:=e.mem _ h;omega
       omega
      omega
   have d:=this _ (kq (n:=n) (k:=k) i (by omega))
   rw[Nat.pow_succ];exact Nat.le_trans d (Nat.mul_le_mul_right _ b)
theorem sD(low top:Int):(EA low top).length=(top+1-low).toNat:=by unfold EA;rw[List.length_map,List.length_range]
theorem sE{n k:Int}{i:Nat}{l:List Int}{j:Nat}(h:cz i l+j<=n-k+i):(aT n k i l).take (j+1)=(aT n k i l).take j++[l++[cz i l+j]]:=by
 have a:j<(aT n k i l).length:=by unfold aT;rw[List.length_map,sD];omega
 rw[List.take_succ_eq_append_getElem a];congr 2;simp only[aT,EA,List.getElem_map,List.getElem_range]
theorem uQ{n k:Int}{i:Nat}{l:List Int}{j:Nat}(h:¬cz i l+j<=n-k+i):(aT n k i l).take j=aT n k i l:=by apply List.take_of_length_le;unfold aT;rw[List.length_map,sD];omega
end Go.Proofs.YtigilmjkokbblaaGreatDoor
namespace Go.Proofs.YtigilmjkokbblaaGreatDoor
open Go.bd Go.Conc
set_option maxHeartbeats 1000000
set_option maxRecDepth 4000
section
variable{k:Int->Int}
abbrev Pe(k:Int->Int):Int->Int->Bool:=λa b=>decide (k a<k b)
theorem NH{x y:Int}{r:List Int}(h:k x<k y):gE (Pe k) x (y::r)=y::gE (Pe k) x r:=by simp[gE,Pe,h]
theorem NI{x y:Int}{r:List Int}(h:¬k x<k y):gE (Pe k) x (y::r)=x::y::r:=by simp[gE,Pe,h]
end
theorem Cn(f:Fr)(l:List Int):aL f l=(dk (Pe λn=>(bp f n).hour) l).reverse:=by
 unfold aL;congr 2;funext a b;unfold tF A8 Pe;by_cases c:(bp f a).hour<(bp f b).hour
 . simp[c]
 . by_cases d:(bp f b).hour<(bp f a).hour
   . simp[c,d]
   . simp[c,d]
theorem A9{f:Fr}{l:List Int}{n:Int}:n∈aL f l↔n∈l:=by unfold aL;rw[List.mem_reverse,qk]
theorem EB(f:Fr)(a b:Int)(r:List Int):bj f (a::b::r)=(gi f a b||bj f (b::r)):=by
 unfold bj;rw[show(a::b::r).length-1=r.length+1 from rfl,List.range_succ_eq_map,List.any_cons,List.any_map];rfl
theorem zx{f:Fr}:∀{l:List Int},l.Pairwise (Fit f)->bj f l=false
 |[],_=>rfl
 |[a],_=>rfl
 |a::b::r,h=>by obtain⟨c,d⟩:=List.pairwise_cons.1 h;rw[EB,zx d,Bool.or_false];exact c b (by simp)
abbrev tH:gX:=⟨0,0,0,[],0,0⟩
def NJ(f:Fr)(a b:gX):Prop:=rd f.roads a.place.toNat b.place.toNat+f.dO*bF (br a.marks) (br b.marks)<=b.hour-a.hour
structure Seen(f0:Fr)(most:Nat)(C H:List Int)(ks:List Int)(es last:List gX):Prop where
 len:ks.length=es.length
 NK:∀x∈ks,0<=x/\x<most
 yz:∀e∈es,bf f0.roads.length e=0
 bE:∀i,i<es.length->(es.getD i tH).bE=C.getD (ks.getD i 0).toNat 0
 Q9:∀i,i<es.length->H.getD (ks.getD i 0).toNat 0∈bI f0 (es.getD i tH)
 fit:∀i j,i<j->j<es.length->ks.getD i 0=ks.getD j 0->(∀m,i<m->m<j->ks.getD m 0≠ks.getD i 0)->NJ f0 (es.getD i tH) (es.getD j tH)
 UQ:∀i,i<es.length->(∀m,i<m->m<es.length->ks.getD m 0≠ks.getD i 0)->last.getD (ks.getD i 0).toNat tH=es.getD i tH
 Gi:∀k,k<most->(last.getD k tH).bE=C.getD k 0
 P3:last.length=most
theorem Seen.push{f0:Fr}{most:Nat}{C H ks:List Int}{es last:List gX}(h:Seen f0 most C H ks es last){k:Nat}{n:gX}(A:k<most)(B:bf f0.roads.length n=0)(y:n.bE=(last.getD k tH).bE)(D:H.getD k 0∈bI f0 n)(E:(k:Int)∈ks->NJ f0 (last.getD k tH) n):
 Seen f0 most C H (ks++[(k:Int)]) (es++[n]) (last.set k n):=by
 have hlen:=h.len;have t:=h.P3;have f:∀i,i<es.length->(es++[n]).getD i tH=es.getD i tH:=λi a=>by rw[nC,if_pos a]
 have r:(es++[n]).getD es.length tH=n:=by rw[nC,if_neg (by omega),if_pos rfl]
 have c:∀i,i<es.length->(ks++[(k:Int)]).getD i 0=ks.getD i 0:=λi a=>by rw[nC,if_pos (by omega)]
 have p:(ks++[(k:Int)]).getD es.length 0=(k:Int):=by rw[nC,if_neg (by omega),if_pos hlen.symm]
 have u:∀i,i<es.length->0<=ks.getD i 0/\ks.getD i 0<most:=λi a=>by
  have d:i<ks.length:=by omega
  rw[List.getD_eq_getElem?_getD,List.getElem?_eq_getElem d];exact h.NK _ (List.getElem_mem d)
 refine⟨by simp[hlen],λx g=>?_,λe he=>?_,λi a=>?_,λi a=>?_,λi j v s he l=>?_,λi a l=>?_,λj s=>?_,by rw[List.length_set];exact t⟩
 . rcases List.mem_append.1 g with g|g
   . exact h.NK x g
   . simp at g;subst g;omega
 . rcases List.mem_append.1 he with he|he
   . exact h.yz e he
   . simp at he;subst he;exact B
 . rw[List.length_append,List.length_singleton]at a
   by_cases e:i=es.length
   . subst e;rw[r,p,y,Int.toNat_natCast];exact h.Gi k A
   . rw[f i (by omega),c i (by omega)];exact h.bE i (by omega)
 . rw[List.length_append,List.length_singleton]at a
   by_cases e:i=es.length
   . subst e;rw[r,p,Int.toNat_natCast];exact D
   . rw[f i (by omega),c i (by omega)];exact h.Q9 i (by omega)
 . rw [List.length_append,List.length_singleton]at s
   have a:i<es.length:=by omega
   by_cases e:j=es.length
   . subst e
     rw[c i a,p]at he
     have z:=h.UQ i a λm q o=>by
      have:=l m q o
      rwa [c m o,c i a]at this
     rw[he,Int.toNat_natCast]at z;rw[f i a,r,<-z];refine E ?_;have d:i<ks.length:=by omega
     rw[<-he,List.getD_eq_getElem?_getD,List.getElem?_eq_getElem d];exact List.getElem_mem d
   . rw[c i a,c j (by omega)]at he
     rw[f i a,f j (by omega)];refine h.fit i j v (by omega) he λm q o=>?_
     have:=l m q o
     rwa [c m (by omega),c i a]at this
 . rw[List.length_append,List.length_singleton]at a l
   by_cases e:i=es.length
   . subst e
     rw[r,p,Int.toNat_natCast,List.getD_eq_getElem?_getD,List.getElem?_set_self (by omega)];rfl
   . have b:i<es.length:=by omega
     have w:=l es.length b (by omega);rw[p,c i b]at w;have F:=u i b;rw[f i b,c i b,List.getD_eq_getElem?_getD,List.getElem?_set_ne (by omega),<-List.getD_eq_getElem?_getD];refine h.UQ i b λm q o=>?_
     have:=l m q (by omega)
     rwa [c m o,c i b]at this
 . by_cases e:j=k
   . subst e
     rw[List.getD_eq_getElem?_getD,List.getElem?_set_self (by omega),Option.getD_some,y];exact h.Gi j s
   . rw[List.getD_eq_getElem?_getD,List.getElem?_set_ne (Ne.symm e),<-List.getD_eq_getElem?_getD]
     exact h.Gi j s
section
variable{f:Fr}{most:Nat}{C H ks:List Int}{last:List gX}
end
theorem zy(lt:Int->Int->Bool)(x:Int):∀r:List Int,(gE lt x r).Perm (x::r)
 |[]=>List.Perm.refl _
 | y::r=>by
   unfold gE;split
   . exact((zy lt x r).cons y).trans (List.Perm.swap x y r)
   . exact List.Perm.refl _
theorem EC(lt:Int->Int->Bool)(l:List Int):(dk lt l).Perm l:=by
 have key:∀(l r:List Int),(l.foldl (λr x=>gE lt x r) r).Perm (l++r):=by
  intro l;induction l with
  |nil=>intro r;exact List.Perm.refl _
  |cons a l b=>intro r;rw[List.foldl_cons];refine(b _).trans (((zy lt a r).append_left l).trans ?_);exact List.perm_middle
 simpa[dk]using key l []
theorem j7(f:Fr)(l:List Int):(aL f l).Perm l:=(List.reverse_perm _).trans (EC _ _)
def dv(f:Fr)(e:gX)(h:Int):Bool:=if e.fj=0 then decide (e.aQ=h)else if e.fj=1 then dz (e.aQ-h) f.bH f.hH else decide (e.aQ=h)||dz (e.aQ-h) f.bH f.hH
def rq:List Int:=(List.range 34).map λi:Nat=>(i:Int)-3
def dm(f:Fr)(l:List Int):List Int:=rq.filter λh=>l.all λn=>dv f (bp f n) h
theorem qm{f:Fr}{e:gX}{h:Int}(a:e.fj≠0):h∈fQ f e↔f.bH<=e.aQ-h/\e.aQ-h<=f.hH:=by
 rw[wE a,List.mem_map];constructor
 . rintro⟨i,b,rfl⟩
   have:=List.mem_range.1 b;omega
 . rintro⟨c,d⟩
   exact⟨(h-(e.aQ-f.hH)).toNat,List.mem_range.2 (by omega),by omega⟩
theorem ru{f:Fr}{e:gX}(a:e.fj=0):fQ f e=[]:=by unfold fQ;rw[if_neg (by simpa using a)]
theorem tJ{f:Fr}{e:gX}{h:Int}(c:0<=e.fj/\e.fj<=2):h∈bI f e↔dv f e h=true:=by
 unfold dv;by_cases a:e.fj=0
 . rw[if_pos a]
   unfold bI;rw[ru a,if_pos ⟨by omega,by simp⟩];simp[eq_comm]
 rw[if_neg a];by_cases b:e.fj=1
 . rw[if_pos b]
   unfold bI;rw[if_neg (by simp[b]),qm a,jl]
 . rw [if_neg b,Bool.or_eq_true,decide_eq_true_eq,jl,<-qm a]
   unfold bI;split
   . rw[List.mem_append,List.mem_singleton]
     constructor
     . rintro(h|h)
       . exact .inr h
       . exact .inl h.symm
     . rintro(h|h)
       . exact .inr h.symm
       . exact .inl h
   . next q=>
     have q:e.aQ∈fQ f e:=by refine Classical.byContradiction λg=>q ⟨b,g⟩
     constructor
     . exact .inr
     . rintro(h|h)
       . subst h;exact q
       . exact h
theorem Co{f:Fr}(e:gX):(fQ f e).Pairwise (·<·):=by
 by_cases a:e.fj=0
 . rw[ru a];exact List.Pairwise.nil
 . rw[wE a,List.pairwise_map]
   exact List.pairwise_lt_range.imp λh=>by omega
theorem J5{f:Fr}(h:f.Good)(e:gX):(bI f e).Pairwise (·<·):=by
 have i:=h.fr;have j:=h.le;unfold bI;split
 . next q=>
   rw[List.pairwise_append];refine⟨Co e,List.pairwise_singleton _ _,λa c b hb=>?_⟩;simp at hb;subst hb;by_cases d:e.fj=0
   . rw[ru d]at c;cases c
   . have k:=(qm d).1 c
     have l:¬(f.bH<=e.aQ-e.aQ/\e.aQ-e.aQ<=f.hH):=λg=>q.2 ((qm d).2 g)
     omega
 . exact Co e
theorem J6{h:Int}:h∈rq↔-3<=h/\h<=30:=by
 unfold rq;rw[List.mem_map];constructor
 . rintro⟨i,a,rfl⟩
   have:=List.mem_range.1 a;omega
 . rintro⟨b,c⟩
   exact⟨(h+3).toNat,List.mem_range.2 (by omega),by omega⟩
theorem HC{f:Fr}(b:f.Good){e:gX}(c:e∈f.aA){h:Int}(a:dv f e h=true):-3<=h/\h<=30:=by
 have hb:=(oX (b.yz e c)).2.2.2.1;have d:=b.fr;have g:=b.to;unfold dv at a;split at a
 . have:=of_decide_eq_true a;omega
 split at a
 . have:=jl.1 a;omega
 . rw[Bool.or_eq_true,decide_eq_true_eq,jl]at a
   omega
theorem sF{f:Fr}(g:f.Good){l:List Int}(d:l≠[])(i:∀n∈l,0<=n/\n<f.aA.length){h:Int}:h∈dm f l↔∀j∈l,h∈bI f (bp f j):=by
 unfold dm;rw[List.mem_filter,J6,List.all_eq_true];have e:∀j∈l,0<=(bp f j).fj/\(bp f j).fj<=2:=λj b=>(oX (g.yz _ (nD (i j b)))).2.2.2.2.1
 constructor
 . rintro⟨_,c⟩ j b
   exact(tJ (e j b)).2 (c j b)
 . intro c
   obtain⟨a,r,rfl⟩:=List.exists_cons_of_ne_nil d;refine⟨HC g (nD (i a (by simp))) ((tJ (e a (by simp))).1 (c a (by simp))),λj b=>(tJ (e j b)).1 (c j b)⟩
theorem uR{f:Fr}(c:f.Good){l:List Int}(b:l≠[])(d:∀n∈l,0<=n/\n<f.aA.length):dm f l=dT f l:=by
 refine rv ?_ ?_ λx=>(sF c b d).trans (Ba b).symm
 . unfold dm rq
   refine List.Pairwise.filter _ ?_;rw[List.pairwise_map];exact List.pairwise_lt_range.imp λh=>by omega
 . obtain⟨a,r,rfl⟩:=List.exists_cons_of_ne_nil b
   show(cO (bI f (bp f a)) (r.map λi=>bI f (bp f i))).Pairwise (·<·);unfold cO;exact List.Pairwise.filter _ (J5 c _)
def sG(a b:List Int):Int:=(((List.range 5).filter λi:Nat=>decide ((i:Int)∈a)!=decide ((i:Int)∈b)).length:Int)
def Gj:List (List Int):=(List.range 32).map λx:Nat=>((List.range 5).map λi:Nat=>(i:Int)).filter λi=>x.testBit i.toNat
theorem Cp:∀{l:List Int}{p:Option Int},mw p l=0->(∀q,p=some q->∀x∈l,q<x)/\l.Pairwise (·<·)
 |[],p,_=>⟨λ_ _ x b=>(by cases b),List.Pairwise.nil⟩
 | a::l,p,h=>by
   unfold mw at h;split at h
   . cases h
   split at h
   . cases h
   next d=>
   obtain⟨e,f⟩:=Cp h;have b:∀x∈l,a<x:=e a rfl;refine⟨λq g x c=>?_,List.pairwise_cons.2 ⟨b,f⟩⟩;subst g;have:q<a:=by simpa[mL]using d
   rcases List.mem_cons.1 c with rfl|hm
   . exact this
   . have:=b x hm;omega
theorem HE:∀a b c d e:Bool,(((List.range 5).map λi:Nat=>(i:Int)).filter λi=>[a,b,c,d,e].getD i.toNat false)∈Gj:=by decide +kernel
theorem zz{l:List Int}(h:mw none l=0):l∈Gj:=by
 have c:=om h;have d:=(Cp h).2
 have:l=((List.range 5).map λi:Nat=>(i:Int)).filter λi=>[decide ((0:Int)∈l),decide ((1:Int)∈l),decide ((2:Int)∈l),decide ((3:Int)∈l),decide ((4:Int)∈l)].getD i.toNat false:=by
  refine rv d ?_ λx=>?_
  . refine List.Pairwise.filter _ ?_
    rw[List.pairwise_map];exact List.pairwise_lt_range.imp λh=>by omega
  . rw[List.mem_filter,List.mem_map]
    constructor
    . intro a
      have hb:=c x a;refine⟨⟨x.toNat,List.mem_range.2 (by omega),by omega⟩,?_⟩;have:x=0\/x=1\/x=2\/x=3\/x=4:=by omega
      rcases this with rfl|rfl|rfl|rfl|rfl<;>simpa using a
    . rintro⟨⟨i,b,rfl⟩,a⟩
      have b:=List.mem_range.1 b;have:i=0\/i=1\/i=2\/i=3\/i=4:=by omega
      rcases this with rfl|rfl|rfl|rfl|rfl<;>simpa using a
 rw[this];exact HE _ _ _ _ _
theorem NL:∀a∈Gj,∀b∈Gj,sG a b=bF (br a) (br b):=by decide +kernel
theorem Cq{a b:List Int}(c:mw none a=0)(hb:mw none b=0):sG a b=bF (br a) (br b):=NL _ (zz c) _ (zz hb)
def tK(f:Fr)(l:List Int):Bool:=l.all λn=>decide ((bp f n).bE=(bp f (l.getD 0 0)).bE)
def NM(f:Fr)(l:List Int):Bool:=tK f l && decide (dm f l≠[]) && !bj f (aL f (pG f l))
theorem Cr(f:Fr){l:List Int}(b:l≠[]):tK f l=!dM f (aL f l):=by
 have g:=j7 f l;have d:∀n,n∈aL f l↔n∈l:=λn=>g.mem_iff
 have z:∀{r:List Int},r≠[]->r.getD 0 0∈r:=λ{r} h=>by
  match r,h with
  |a::r,_=>simp
 have c:aL f l≠[]:=λe=>by rw[e]at g;exact b (List.nil_perm.1 g)
 rw[Bool.eq_iff_iff];unfold tK dM;rw[Bool.not_eq_true',List.any_eq_false,List.all_eq_true];simp only[decide_eq_true_eq,Decidable.not_not];have j:=z b;have k:=z c;constructor
 . intro h x i
   rw[h x ((d x).1 i),h _ ((d _).1 k)]
 . intro h x i
   rw[h x ((d x).2 i),h _ ((d _).2 j)]
theorem wF{f:Fr}(k:f.Good){l:List Int}(a:l≠[])(m:∀n∈l,0<=n/\n<f.aA.length):decide (dm f l≠[])=!cC f (aL f l):=by
 have c:=j7 f l;have i:∀n,n∈aL f l↔n∈l:=λn=>c.mem_iff
 have b:aL f l≠[]:=λe=>by rw[e]at c;exact a (List.nil_perm.1 c)
 have key:∀x,x∈dm f l↔x∈dT f (aL f l):=λx=>by rw[sF k a m,Ba b];exact⟨λh j d=>h j ((i j).1 d),λh j d=>h j ((i j).2 d)⟩
 unfold cC;rw[Bool.eq_iff_iff,Bool.not_eq_true',decide_eq_true_eq,decide_eq_false_iff_not];constructor
 . intro h e
   obtain⟨x,g⟩:=List.exists_mem_of_ne_nil _ h;have:=(key x).1 g;rw[e]at this;cases this
 . intro h e
   obtain⟨x,g⟩:=List.exists_mem_of_ne_nil _ h;have:=(key x).2 g;rw[e]at this;cases this
theorem NN{f:Fr}(d:f.Good){l:List Int}(a:l≠[])(b:l.Pairwise (·<·))(c:∀n∈l,0<=n/\n<f.aA.length):NM f l=decide (kr f l=0):=by unfold NM;rw[Gk b c,Cr f a,wF d a c,Bool.eq_iff_iff,decide_eq_true_eq,Cs];simp[and_assoc]
end Go.Proofs.YtigilmjkokbblaaGreatDoor
