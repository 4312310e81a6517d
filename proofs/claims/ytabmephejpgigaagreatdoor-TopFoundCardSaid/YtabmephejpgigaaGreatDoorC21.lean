import Derived.Test.YtabmephejpgigaaGreatDoorC20
set_option linter.all false
set_option maxHeartbeats 2000000
set_option maxRecDepth 4000
namespace Go.Proofs.YtabmephejpgigaaGreatDoor
open Go.Proofs.Tryz (prog)
open Go Go.cr Go.Conc
variable{m:Mo}{σ:ab}{KF:aaQ}
def QC:u6:=⟨3,0,0,[],15,0⟩
def Vy(l:List u6)(n:Int):Fr:=⟨l,[[0]],0,0,1,n⟩
def tW:gO:=⟨Vy [QC] 1,1,[],[⟨⟨1,0,0,[],15,0⟩,0,4⟩]⟩
def Rz:Fr:=Vy [QC,⟨3,0,0,[],16,0⟩] 2
theorem OF:tW.xJ:=Oz (by decide +kernel)
theorem OG:tW.Open:=Oy (L:=[(0,0),(1,0),(1,1)]) (by decide +kernel)
theorem QD:nf tW [] [] [0]=0:=by decide +kernel
theorem OH:eP tW 4 0 0=1/\((List.range 4).all λh=>decide (eP tW (h:Nat) 0 0≠1))=true:=by decide +kernel
theorem ML:(∀h i:Nat,h<73->i<tW.fair.aA.length->foundAt tW 0 h i->h=4/\i=0)/\¬(∀b c:Nat,b<73->c<tW.fair.aA.length->eP tW b c 0≠1):=by
 obtain⟨f1,d⟩:=OH;have e:tW.fair.aA.length=1:=rfl;refine⟨λh i k l f=>?_,λq=>q 4 0 (by omega) (by omega) f1⟩;simp only[YE,KD,YB]at d;have a:i=0:=by omega
 subst a;by_cases g:h<4
 . exact absurd f.1 (d h g)
 . by_cases j:h=4
   . exact⟨j,rfl⟩
   . exact absurd f1 (f.2 4 0 (by omega) (by omega))
theorem TZ:Rz.Fits/\check Rz=0/\jU Rz [0,1]=2:=⟨sP (by decide +kernel),by decide +kernel,by decide +kernel⟩
abbrev eA(h n:Int):AV:=.agg [int h,int 0,int 0,.lit (.slice none 0 0),int n,int 0]
theorem Gu:(AV.sl 1 [.sl 1 [int 0] .exact] .exact).W (rows [[0]]):=TM rfl (λa b=>by simp at b;subst b;rfl) (λa b=>by simp at b;subst b;rfl) (λi a e c d=>by
 match i with
 |0=>simp at c d;subst c;subst d;exact jH 1 [int 0] .exact
 |i+1=>simp at c)
theorem MM{k:Nat}{es d:abj}{sp:kW}(g:es.length=d.length)(l:∀e∈d,e.cells.length=k)(h:Wl (flatten es) (flatten d)):(AV.sl k es sp).W (.sl k d .any):=λK x m=>by
 cases m with
 | sl b off cap v N E _ _ c i n o w p q y=>
   rw[g]at i ⊢;refine .sl b off cap k N E d .any c i n o l (λj r=>p j (by rw[h.len];exact r)) (λj a s=>?_) trivial;obtain⟨f,t,u⟩:=h.at s;exact u K _ (q j f t)
 | slnil f=>
   have:d=[]:=by cases d with|nil=>rfl|cons _ _=>simp at g
   subst this;exact .slnil f k .any (.inl rfl)
theorem OI{h n:Int}{l a:abj}(q:Wl l a):Wl (int h::int 0::int 0::.lit (.slice none 0 0)::int n::int 0::l) (int h::int 0::int 0::ints []::int n::int 0::a):=.cons (.refl _) (.cons (.refl _) (.cons (.refl _) (.cons (lR 1) (.cons (.refl _) (.cons (.refl _) q)))))
theorem QE:(AV.sl 8 [.agg [int 1,int 0,int 0,.lit (.slice none 0 0),int 15,int 0,int 0,int 4]] .exact).W (qJ tW.aF):=MM rfl (λa b=>by simp[tW]at b;subst b;rfl) (OI (.cons (.refl _) (.cons (.refl _) .nil)))
theorem QF:(AV.sl 6 [eA 3 15] .exact).W (iv [QC]):=MM rfl (λa b=>by simp at b;subst b;rfl) (OI .nil)
theorem QG:(AV.sl 6 [eA 3 15,eA 3 16] .exact).W (iv Rz.aA):=MM rfl (λa b=>by simp[Rz,Vy]at b;rcases b with rfl|rfl<;>rfl) (OI (OI .nil))
theorem yB(g:m.solo=true)(h:KF (.val (bool true)) σ):aB prog m 11 [] σ KF:=by
 obtain⟨f1,j⟩:=ML;obtain⟨k,l,n⟩:=TZ;have o:=OF;have p:=OG;have r:=QD;refine aB.Ey lay [] [] 9 0 Tryz.func11 rfl rfl (by rfl) (by kernel_rfl) ?_;simp[Tryz.f11];refine cz.intro λb hb=>?_
 simp[aH];change aa _ _ _ _ _ _ _ _ _;refine aa.bu 1 (b:=b) (eA 3 15) (ab.aj _ _ _) (by simp) rfl ?_;rw[eG hb];refine aa.runN lay [] 10 ?_;simp[aH];refine cz.intro λd hd=>?_
 simp[aH];change aa _ _ _ _ _ _ _ _ _;refine aa.bu 2 (b:=d) (.agg [.sl 6 [eA 3 15] .exact,.sl 1 [.sl 1 [int 0] .exact] .exact,int 0,int 0,int 1,int 1]) (ab.aj _ _ _) (by simp) rfl ?_;rw[eG hd];apply rn;simp[aH]
 have s:Wl [.agg [.sl 6 [eA 3 15] .exact,.sl 1 [.sl 1 [int 0] .exact] .exact,int 0,int 0,int 1,int 1,int 1,.lit (.slice none 0 0),.sl 8 [.agg [int 1,int 0,int 0,.lit (.slice none 0 0),int 15,int 0,int 0,int 4]] .exact],int 0] [ia tW,int 0]:=.cons (pv rfl λi a t c e=>by
  match i with
  |0=>cases c;cases e;exact QF
  |1=>cases c;cases e;exact Gu
  |2=>cases c;cases e;exact .refl _
  |3=>cases c;cases e;exact .refl _
  |4=>cases c;cases e;exact .refl _
  |5=>cases c;cases e;exact .refl _
  |6=>cases c;cases e;exact .refl _
  |7=>cases c;cases e;exact lR 5
  |8=>cases c;cases e;exact QE
  |i+9=>simp at c) (.cons (.refl _) .nil)
 refine dQ Tryz.func6 rfl rfl s (zQ g o p (by decide) r (λh i u v w=>?_) λq=>absurd q j);obtain⟨rfl,rfl⟩:=f1 h i u v w;apply rn;simp[aH]
 have f:Wl [.agg [.sl 6 [eA 3 15,eA 3 16] .exact,.sl 1 [.sl 1 [int 0] .exact] .exact,int 0,int 0,int 1,int 2],int 0,int 1] [cj Rz,int 0,int 1]:=.cons (pv rfl λi a t c e=>by
  match i with
  |0=>cases c;cases e;exact QG
  |1=>cases c;cases e;exact Gu
  |2=>cases c;cases e;exact .refl _
  |3=>cases c;cases e;exact .refl _
  |4=>cases c;cases e;exact .refl _
  |5=>cases c;cases e;exact .refl _
  |i+6=>simp at c) (.cons (.refl _) (.cons (.refl _) .nil))
 refine dQ Tryz.func23 rfl rfl f (IH k l ⟨by decide,by decide⟩ ⟨by decide,by decide⟩ (.inl ⟨rfl,rfl⟩) (by decide) ?_);rw[n];apply rn;simp;exact .done h
theorem Du(I:m.solo=true){v:abe}(hn:v.length<1152921504606846976)(h:∀σ',KF (.val (bool true)) σ'):wy prog lay m 3 [ints v] σ KF:=by
 refine wy.start lay [] Ym 1 Tryz.func3 rfl rfl (by rfl) (by kernel_rfl) ?_
 simp[Tryz.f3];refine cf Tryz.func5 rfl (Ip λc b0 hc hb C=>?_)
 apply rn;simp;refine cf Tryz.func4 rfl (WA.Fo (by omega) hn ⟨by omega,by omega⟩ hb λw own lost b3 hm hd=>?_)
 refine aa.runN lay [] 8 ?_;simp;refine cz.intro λd K=>?_
 simp[aH]
 change aa _ _ _ _ _ _ _ _ _
 refine aa.bu 3 (b:=d) (ia w) (ab.aj _ _ _) (by simp) rfl ?_
 rw[eG K];have l:=hm.valid;have Z:=hm.Dv;have hO:=l.open;have c3:=l.Fa.1;have h6:=l.qo;clear hm hd hb C hc K;apply rn;simp;refine aa.jR (λenv _=>env 3=.cp (ia w) 0/\env 6=int 0) ?_ ?_
 . exact⟨by simp,by simp⟩
 rintro env n ⟨e,g⟩
 refine aa.loop w.aF.length (λc s=>∃env σ',s=⟨env,σ',[],.no⟩/\env 3=.cp (ia w) 0/\env 6=int c) ⟨env,n,rfl,e,g⟩ ?_
 clear e g env n
 rintro c0 c _ b4 ⟨env,n,rfl,e,g⟩ ih
 apply rn;simp[e,g];refine aI.intro (λD=>?_) (λD=>?_)<;>(try simp[-Int.not_lt,-Int.not_le,-Nat.not_lt,-Nat.not_le]at D)<;>(try simp[e,g,D])
 . have oc : nf w [] [] [(c:Int)]=0:=xX Z (by simp) (by simp) (by simp;omega)
   have a7:(0:Int)<=c/\(c:Int)<3:=by omega
   refine cf Tryz.func6 rfl (zQ I l.Mi hO a7 oc (λM y q1 q2 hF=>?_) λq=>?_)
   . have z1 : ¬72<(M:Int)/\¬(M:Int)<0:=by omega
     apply rn;simp[e,g,z1];refine aa.MZ 10 (a':=ints [(M:Int),72]) (by simp;exact jH 1 _ .exact) ?_
     obtain⟨L,hL⟩:∃L,L=[(M:Int),72]:=⟨_,rfl⟩
     have a8:∀x∈L,(M:Int)<=x/\x<=72:=λx o=>by rw[hL]at o;simp only[YQ,ZK,or_false]at o;omega
     have b5:L.length=2:=by rw[hL];rfl
     refine aa.loop 2 (λk s=>∃env σ',s=⟨env,σ',[],.no⟩/\env 3=.cp (ia w) 0/\env 6=int c/\env 8=int y/\env 10=ints L/\env 11=int k) ⟨_,_,rfl,by simp[e,g],by simp[e,g],by simp[e,g],by simp[e,g,hL],by simp[e,g]⟩ ?_
     clear e g env n hL
     rintro c1 k _ b6 ⟨env,p,rfl,e,g,j,bc,aX⟩ a9
     apply rn;simp[e,g,j,bc,aX];refine aI.intro (λO=>?_) (λO=>?_)<;>(try simp[-Int.not_lt,-Int.not_le,-Nat.not_lt,-Nat.not_le]at O)<;>(try simp[e,g,j,bc,aX,O])
     . obtain⟨t,ht⟩:∃t,t=L[k]:=⟨_,rfl⟩
       have ad:=a8 t (ht ▸ zD O);have al:L[k]?=some t:=by rw[ht];exact zR O
       have Q:0<=t/\t<=72:=by omega
       simp only[<-ht];obtain⟨J,hJ⟩:∃J:aaO,J=λenv _=>env 3=.cp (ia w) 0/\env 6=int c/\env 8=int y/\env 10=ints L/\env 11=int k/\env 12=.cp (cj (iy w t)) 0/\env 13=ints (bI w t)/\env 14=bool true:=⟨_,rfl⟩
       refine Ov (P:=?P3) (λkey=>?f3) ?p3
       case f3=>
        refine⟨?_,?_⟩
        . refine cf Tryz.func7 rfl (TB.zV I l Z Q ?_)
          apply pg;simp[e,g,j,bc,aX];refine rO.intro λb hb=>?_
          simp[e,g,j,bc,aX,aH];refine aa.bu 12 (b:=b) (cj (iy w t)) (ab.aj _ _ _) (by simp) rfl ?_
          rw[eG hb];refine aa.jR J (by rw[hJ];exact⟨by simp[e,g,j,bc,aX],by simp[e,g,j,bc,aX],by simp[e,g,j,bc,aX],by simp[e,g,j,bc,aX],by simp[e,g,j,bc,aX],by simp,by simp,by simp⟩) ?_
          exact key
        . refine rO.intro λb hb=>?_
          simp[e,g,j,bc,aX,aH];refine cf Tryz.func7 rfl (TB.zV I l Z Q ?_);apply pg;simp[e,g,j,bc,aX,aH];refine aa.bu 12 (b:=b) (cj (iy w t)) (ab.aj _ _ _) (by simp) rfl ?_
          rw[eG hb];refine aa.jR J (by rw[hJ];exact⟨by simp[e,g,j,bc,aX],by simp[e,g,j,bc,aX],by simp[e,g,j,bc,aX],by simp[e,g,j,bc,aX],by simp[e,g,j,bc,aX],by simp,by simp,by simp⟩) ?_
          exact key
       case p3=>
       rw[hJ];clear e g j bc aX env hJ J p
       rintro env p ⟨e,g,j,bc,aX,bO,a,wo⟩
       have R:eP w t y c=1:=Dp l D q2 hF ad.1;have F:(y:Int)∈bI w t:=((xS l ⟨by omega,by omega⟩ ⟨by omega,by omega⟩).1 R).1.1
       have r:=λ(x:Int) o=>MB l (t:=t) (x:=x) D o R ⟨by omega,by omega⟩
       have av:=rl w t;have S:∀x∈bI w t,0<=x/\x<(w.fair.aA.length:Int):=λx=>gN
       have T:=sO w t;have hg:=og l t;have U:=(qh w t).len;have G:=vu hg []
       have W:aG (iy w t) []≠[]:=by
        have:=(hO.bk t).some
        rwa [l.kE,l.kC]at this
       obtain⟨E,hE⟩:∃E,E=bI w t:=⟨_,rfl⟩;obtain⟨f,hf⟩:∃f,f=iy w t:=⟨_,rfl⟩;rw[<-hE]at a av S T F;simp only[<-hE]at r;rw[<-hf]at bO hg G W U;simp only[<-hf]at r;have ax:∀(i:Nat) (hi:i<E.length),E.idxOf E[i]=i:=λi hi=>T.idxOf_getElem i hi
       have b7:E.length<=f.aA.length:=by rw[U,YL,<-hE];omega
       have A:nW E y=(E.idxOf (y:Int):Int):=by unfold nW;rw[xT _ _ _ F];omega
       have ay:=List.idxOf_lt_length_iff.2 F;obtain⟨N,hN⟩:∃N,N=E.idxOf (y:Int):=⟨_,rfl⟩;rw[<-hN]at A ay;simp only[<-hN]at r;have aC:¬(N:Int)<0:=by omega
       apply rn;simp[e,g,j,bc,aX,bO,a,wo];refine cf Tryz.func8 rfl (m5 (by omega) ?_)
       rw[A];apply rn;simp[e,g,j,bc,aX,bO,a,wo,aC];refine aa.loop E.length (λi s=>∃env σ',s=⟨env,σ',[],.no⟩/\env 3=.cp (ia w) 0/\env 6=int c/\env 8=int y/\env 10=ints L/\env 11=int k/\env 12=.cp (cj f) 0/\env 13=ints E/\env 15=int N/\env 16=int i) ?_ ?_
       . exact⟨_,_,rfl,by simp[e,g,j,bc,aX,bO,a,wo],by simp[e,g,j,bc,aX,bO,a,wo],by simp[e,g,j,bc,aX,bO,a,wo],by simp[e,g,j,bc,aX,bO,a,wo],by simp[e,g,j,bc,aX,bO,a,wo],by simp[e,g,j,bc,aX,bO,a,wo],by simp[e,g,j,bc,aX,bO,a,wo],by simp,by simp⟩
       clear e g j bc aX bO a wo env p
       rintro c2 i _ hi ⟨env,p,rfl,e,g,j,bc,aX,bO,a,ju,iR⟩ H
       apply rn;simp[e,g,j,bc,aX,bO,a,ju,iR];refine aI.intro (λu=>?_) (λu=>?_)<;>(try simp[-Int.not_lt,-Int.not_le,-Nat.not_lt,-Nat.not_le]at u)<;>(try simp[e,g,j,bc,aX,bO,a,ju,iR,u])
       . obtain⟨x,o⟩:∃x,x=E[i]:=⟨_,rfl⟩
         have X:x∈E:=by rw[o];exact zD u
         have aE:E[i]?=some x:=by rw[o];exact zR u
         have aL:=S x X;have hV:=r x X;rw[o,ax i u,<-o]at hV;have ow:nf w [t] [x] []=0:=xX Z (by simp;omega) (by simp;omega) (by simp)
         have b8:=MK w t x;refine cf Tryz.func9 rfl (Gh I hg.fits hg.Dv ⟨by omega,by omega⟩ ⟨by omega,by omega⟩ W (by omega) ?_)
         obtain⟨V,Y⟩:∃V,V=fJ (((aG f []).filter (fE (N:Int) (i:Int))).length:Int) (aG f []).length:=⟨_,rfl⟩;have aO:tQ (aG f []) N i=V:=Y.symm;rw[aO]at hV;rw[<-Y];apply rn;simp[e,g,j,bc,aX,bO,a,ju,iR,al,aE];refine cf Tryz.func10 rfl (Oo I l.Mi hO ⟨aL.1,by omega⟩ ow ?_)
         apply pg;simp[e,g,j,bc,aX,bO,a,ju,iR];apply rn;simp[e,g,j,bc,aX,bO,a,ju,iR];refine cf Tryz.func8 rfl (m5 (by omega) ?_)
         have B:=jS (yz w t x) c
         by_cases v1:V=1
         . have:=B.2 (hV.1 v1)
           rw[v1];apply rn;simp[e,g,j,bc,aX,bO,a,ju,iR,this];refine⟨by omega,H _ u ⟨_,_,rfl,by simp[e,g,j,bc,aX,bO,a,ju,iR],by simp[e,g,j,bc,aX,bO,a,ju,iR],by simp[e,g,j,bc,aX,bO,a,ju,iR],by simp[e,g,j,bc,aX,bO,a,ju,iR],by simp[e,g,j,bc,aX,bO,a,ju,iR],by simp[e,g,j,bc,aX,bO,a,ju,iR],by simp[e,g,j,bc,aX,bO,a,ju,iR],by simp[e,g,j,bc,aX,bO,a,ju,iR],by simp⟩⟩
         . have b1:(V==1)=false:=by rw[beq_eq_false_iff_ne];exact v1
           by_cases v2:V=2
           . have:¬0<=nW (yz w t x) c:=λz=>hV.2 v2 (B.1 z)
             rw[v2];apply rn;simp[e,g,j,bc,aX,bO,a,ju,iR,this];refine⟨by omega,H _ u ⟨_,_,rfl,by simp[e,g,j,bc,aX,bO,a,ju,iR],by simp[e,g,j,bc,aX,bO,a,ju,iR],by simp[e,g,j,bc,aX,bO,a,ju,iR],by simp[e,g,j,bc,aX,bO,a,ju,iR],by simp[e,g,j,bc,aX,bO,a,ju,iR],by simp[e,g,j,bc,aX,bO,a,ju,iR],by simp[e,g,j,bc,aX,bO,a,ju,iR],by simp[e,g,j,bc,aX,bO,a,ju,iR],by simp⟩⟩
           . have b2:(V==2)=false:=by rw[beq_eq_false_iff_ne];exact v2
             apply rn;simp[e,g,j,bc,aX,bO,a,ju,iR,b1,b2];refine⟨by omega,H _ u ⟨_,_,rfl,by simp[e,g,j,bc,aX,bO,a,ju,iR],by simp[e,g,j,bc,aX,bO,a,ju,iR],by simp[e,g,j,bc,aX,bO,a,ju,iR],by simp[e,g,j,bc,aX,bO,a,ju,iR],by simp[e,g,j,bc,aX,bO,a,ju,iR],by simp[e,g,j,bc,aX,bO,a,ju,iR],by simp[e,g,j,bc,aX,bO,a,ju,iR],by simp[e,g,j,bc,aX,bO,a,ju,iR],by simp⟩⟩
       . refine⟨by omega,a9 _ (by omega) ⟨_,_,rfl,by simp[e,g,j,bc,aX,bO,a,ju,iR],by simp[e,g,j,bc,aX,bO,a,ju,iR],by simp[e,g,j,bc,aX,bO,a,ju,iR],by simp[e,g,j,bc,aX,bO,a,ju,iR],by simp⟩⟩
     . refine⟨by omega,ih _ D ⟨_,_,rfl,by simp[e,g,j,bc,aX],by simp⟩⟩
   . apply rn
     simp[e,g];refine⟨by omega,ih _ D ⟨_,_,rfl,by simp[e,g],by simp⟩⟩
 . refine cf Tryz.func11 rfl (yB I ?_)
   apply rn;simp[e,g];exact .done (h _)
