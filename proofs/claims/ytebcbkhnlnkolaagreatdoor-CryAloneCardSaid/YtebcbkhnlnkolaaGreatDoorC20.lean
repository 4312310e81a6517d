import Derived.Test.YtebcbkhnlnkolaaGreatDoorC19
set_option linter.all false
set_option maxHeartbeats 2000000
set_option maxRecDepth 4000
namespace Go.Proofs.YtebcbkhnlnkolaaGreatDoor
open Go.Proofs.Tryz (prog)
section
open Go Go.bN Go.Conc
def KC(f:Fr):Bool:=decide (f.az.length<100) && decide (f.roads.length<100) && f.roads.all (λr=>decide (r.length<100)) && f.az.all (λe=>decide (e.marks.length<100))
theorem Bz{f}(h:KC f=true):f.Fits:=by simp only[KC,zj,zR,aau]at h;obtain⟨⟨⟨a,b⟩,c⟩,d⟩:=h;exact⟨by omega,by omega,λr g=>by grind,λe i=>by grind⟩
def Hv(f:Fr):Bool:=KC f && decide (check f=0)
theorem Q9{f}(h:Hv f=true):f.Good:=by simp only[Hv,zj,zR]at h;exact Fr.pw (Bz h.1) h.2
def rO(h:Int):Int:=if h<0 then -1 else if 72<h then 72 else h
theorem Q'  h :∃k:Nat,k<74/\rO h=(k:Int)-1:=by refine⟨(rO h+1).toNat,?_,?_⟩<;>(unfold rO;split<;>(try split)<;>omega)
def Jo(w:cC):Bool:=(m8 w.fair.az.length).all (λi=>decide (0<=(aP w.fair i).hour) && decide ((aP w.fair i).hour<=72)) && (m8 w.aj.length).all λi=>decide (0<=ba w i.toNat)
theorem Hw{w}(a:Jo w=true)  h :kE w h=kE w (rO h)/\kC w h=kC w (rO h):=by
 simp only[Jo,zj,aau,zR]at a
 have c:dE w h=dE w (rO h):=ads λx b=>by
  have:=a.1 x b;unfold pE rO
  grind
 have d:dv w h=dv w (rO h):=ads λx b=>by
  have:=a.2 x b;unfold pC rO
  grind
 grind
def bkB(w:cC)(p:Int × Int):Bool:=(aD p.1).all (λi=>decide (0<=i) && decide (i<w.fair.az.length)) && (aD p.2).all (λi=>decide (0<=i) && decide (i<w.aj.length)) && Hv (bs w (aD p.1) (aD p.2)) && decide (aJ (bs w (aD p.1) (aD p.2)) []≠[])
theorem YP{w p}(h:bkB w p=true):w.Bk p.1 p.2:=by simp only[bkB,zj,aau,zR]at h;exact⟨h.1.1.1,h.1.1.2,Q9 h.1.2,h.2⟩
def Ue(w:cC)(L:aeI):Bool:=decide (w.fair.az.length<=6) && decide (w.aj.length<=3) && Jo w && (List.range 74).all (λk=>L.contains (kE w ((k:Int)-1),kC w ((k:Int)-1))) && L.all (bkB w)
theorem Fa{w L}(h:Ue w L=true):w.Open:=by
 simp only[Ue,zj,aau,zR]at h;refine⟨⟨h.1.1.1.1,h.1.1.1.2⟩,λt=>?_⟩;obtain⟨a,b⟩:=Hw h.1.1.2 t;obtain⟨k,c,ek⟩:=Q' t;rw[a,b,ek];exact YP (p:=(kE w ((k:Int)-1),kC w ((k:Int)-1))) (h.2 _ (by grind))
def Uf(w:cC):Bool:=Hv w.fair && w.aj.all (λc=>KC (lone w.fair c.lost) && decide (check (lone w.fair c.lost)=0)) && decide (w.ways.length<100) && decide (w.aj.length<100)
theorem KG{w}(h:Uf w=true):w.pv:=by simp only[Uf,Hv,zj,aau,zR]at h;obtain⟨⟨⟨⟨d,e⟩,a⟩,f⟩,g⟩:=h;exact⟨Bz d,e,λc b=>⟨Bz (a c b).1,(a c b).2⟩,by omega,by omega⟩
theorem Tj:(lW 2).pv/\(lW 3).pv:=⟨KG (by decide +kernel),KG (by decide +kernel)⟩
theorem KH:(lW 2).Open/\(lW 3).Open:=⟨Fa (L:=[(0,0),(0,1),(1,0),(1,1),(3,1),(7,1),(15,1)]) (by decide +kernel),Fa (L:=[(0,0),(0,1),(1,1),(3,1),(7,1),(15,1)]) (by decide +kernel)⟩
end
section
open Go Go.bN Go.Conc
variable{m:Mo}{σ:ab}{KF:aeQ}
theorem Vx:Km prog 28 3:=.of (by kernel_rfl) (by kernel_rfl) (by kernel_rfl) (by kernel_rfl)
namespace SR
abbrev aai:aeV:=[⟨4,.take [0,1,2,3,4,5,6,7] false (.one 8 (.done))⟩]
theorem B4{a b}(A:a.length<1152921504606846976)(hb:b.length<1152921504606846976)(h:KF (.val (bool (decide (a=b)))) σ):aB prog m 40 [rN a,rN b] σ KF:=by
 refine fs aai Tryz.func40 rfl (by kernel_rfl) ?_;simp[Tryz.f40];refine aa.loop a.length (λk s=>∃env,s=⟨env,σ,[],.no⟩/\env 0=rN a/\env 1=rN b/\env 5=int k/\k<=b.length/\a.take k=b.take k) ⟨_,rfl,by simp⟩ ?_;rintro B k _ C ⟨env,rfl,g,l,i,r,o⟩ t;apply rn;simp[g,i];refine tL.intro (λf=>?_) (λf=>?_)<;>(try simp[-Nat.not_lt,-Nat.not_le]at f)<;>(try simp[g,l,i,f])
 . refine aG.intro (λj=>?_) (λj=>?_)<;>(try simp[-Nat.not_lt,-Nat.not_le]at j)<;>(try simp[g,l,i,j,f])
   . obtain⟨x,u⟩:∃x,x=a[k]:=⟨_,rfl⟩
     obtain⟨y,v⟩:∃y,y=b[k]:=⟨_,rfl⟩;simp only[<-u,<-v];refine LW lay Vx pQ rfl rfl (a:=x.1) (b:=x.2) (c:=y.1) (d:=y.2) (by simp) (by simp) (.inr ⟨rfl,rfl⟩) ?_;have w:(!(x.1==y.1 && x.2==y.2))=!decide (x=y):=by grind
     rw[w];by_cases p:x=y
     . apply pg
       simp[p];apply rn;simp[i];have z:a[k]=b[k]:=by simp_all
       refine⟨by omega,t _ f ⟨_,rfl,by simp[g],by simp[l],by simp,by omega,?_⟩⟩;rw[za f,za j,o,z]
     have:a≠b:=λe=>by simp_all
     simp[this]at h;apply pg;simp[p];apply rn;simp;exact .done h
   have:a≠b:=λe=>by simp_all
   have n:((a.length:Int)==b.length)=false:=by grind
   rw[n];exact .done (by simp_all)
 have:k=a.length:=by omega
 subst this;rw[aar]at o;by_cases e:a.length=b.length
 . have:a=b:=by grind
   exact .done (by grind)
 have:a≠b:=λq=>e (by rw[q])
 have n:((a.length:Int)==b.length)=false:=by grind
 rw[n];exact .done (by grind)
end SR
theorem Ra:dI (lW 3) [] [] [0]=0/\dI (lW 3) [14] [] []=0/\dI (lW 3) [] [1] []=0/\dI (lW 2) [] [] []=0/\dI (lW 3) [] [] []=0:=by decide +kernel
theorem Tl:ba (lW 3) 0=8/\ot (lW 3) 14=[0,1]/\cR (lW 3) 1=[(12,15)]/\iB (lW 2) (lW 2).fair.az.length=67/\KB (lW 3)=[0]:=by decide +kernel
theorem Rb:il (lW 3) 16 0 0=1/\((List.range 16).all λh=>(List.range 4).all fun  i=>decide (il (lW 3) (h:Nat) i 0≠1))=true:=by decide +kernel
theorem Vy:∀l ,(∀c∈l,0<=c/\c<((lW 3).aj.length:Int))->l.length<=(lW 3).aj.length->((lW 3).only l).Open:=λl d g=>by
 have f:l=[]\/l=[0]:=by
  match l with
  |[]=>simp_all
  | [a]=>
    have:=d a (by simp);have e:(lW 3).aj.length=1:=rfl
    grind
  | a::b::t=>
    have e:(lW 3).aj.length=1:=rfl
    simp_all
 rcases f with rfl|rfl
 . exact Fa (L:=[(0,0),(1,0),(3,0),(7,0),(15,0)]) (by decide +kernel)
 exact KH.2
theorem Jp:(∀h i ,h<73->i<(lW 3).fair.az.length->foundAt (lW 3) 0 h i->h=16/\i=0)/\¬(∀a b:Nat,a<73->b<(lW 3).fair.az.length->il (lW 3) a b 0≠1):=by
 obtain⟨f1,c⟩:=Rb;have e:(lW 3).fair.az.length=4:=rfl;refine⟨λh i j k d=>?_,λq=>q 16 0 (by omega) (by omega) f1⟩;simp only[aau,zR,zH]at c;by_cases f:h<16
 . exact absurd d.1 (c h f i (by omega))
 by_cases g:h=16/\i=0
 . exact g
 exact absurd f1 (d.2 16 0 (by omega) (by omega))
theorem zk(d:m.solo=true)(h:KF (.val (bool true)) σ):aB prog m 14 [] σ KF:=by
 have e:∀(σ:ab) (KF:aeQ),KF (.val (bS (lW 3))) σ->aB prog m 37 [int 3] σ KF:=λσ KF h=>Dj (n:=3) (by decide) h
 have k:∀(σ:ab) (KF:aeQ),KF (.val (bS (lW 2))) σ->aB prog m 37 [int 2] σ KF:=λσ KF h=>Dj (n:=2) (by decide) h
 obtain⟨j,l,o,p,r⟩:=Ra;obtain⟨s,t,u,v,w⟩:=Tl;obtain⟨f1,x⟩:=Jp;obtain⟨y,f⟩:=Tj;obtain⟨z,g⟩:=KH;have sub:=Vy;generalize lW 3=A at *;generalize lW 2=B at *;refine fs [] Tryz.func14 rfl (by kernel_rfl) ?_;simp[Tryz.f14];refine cf Tryz.func37 rfl (e _ _ ?_);apply rn;simp;refine cf Tryz.func15 rfl (ja d f (c:=0) (by decide) j ?_);rw[s,KD (by decide)];apply rn;simp;refine cf Tryz.func37 rfl (e _ _ ?_);apply rn;simp;refine cf Tryz.func17 rfl (Q4 d f g (λq=>absurd l q) λ_=>?_);rw[t];apply rn;simp;refine cf Tryz.func37 rfl (e _ _ ?_);apply rn;simp;refine cf Tryz.func38 rfl (M4 d f g (by decide) (λq=>absurd o q) λ_=>?_);rw[u];apply rn;simp;refine cf Tryz.func37 rfl (e _ _ ?_);apply rn;simp;refine cf Tryz.func19 rfl (M6 d f g (by decide) j (λh i C D E=>?_) λq=>absurd q x)
 obtain⟨rfl,rfl⟩:=f1 h i C D E;apply rn;simp;refine cf Tryz.func37 rfl (k _ _ ?_);apply rn;simp;refine cf Tryz.func30 rfl (wZ d y z p ?_);rw[v];apply rn;simp;refine cf Tryz.func37 rfl (e _ _ ?_);apply rn;simp;refine cf Tryz.func39 rfl (Jn d f g sub r ?_);rw[w];apply rn;simp;refine bp Tryz.func18 rfl rfl (.cons (.refl _) (.cons (eZ 1 [int 0,int 1] .exact) .nil)) (kg (a:=[0,1]) (b:=[0,1]) (by simp) (by simp) ?_);apply rn;simp;refine bp Tryz.func40 rfl rfl (.cons (.refl _) (.cons (eZ 2 [mK (12,15)] .exact) .nil)) (SR.B4 (a:=[(12,15)]) (b:=[(12,15)]) (by simp) (by simp) ?_);apply rn;simp;refine bp Tryz.func18 rfl rfl (.cons (.refl _) (.cons (eZ 1 [int 0] .exact) .nil)) (kg (a:=[0]) (b:=[0]) (by simp) (by simp) ?_);apply rn;simp;exact .done h
end
section
open Go.bN Go.Conc
variable{m:Mo}{σ:ab}{KF:aeQ}
theorem xV{P m fid n ro hold K todo D rc}{G:Prop}(I:aeO)
 (a:(∀env σ,I env σ->aa P m fid n ro hold todo ⟨env,σ,D,rc⟩ K)->G) (b:∀env σ,I env σ->aa P m fid n ro hold todo ⟨env,σ,D,rc⟩ K):G:=a b
end
section
open Go Go.bN Go.Conc
variable{m:Mo}{σ:ab}{KF:aeQ}
section
variable{c k:Nat}{nums:afe}
namespace WY
abbrev aaj:aeV:=[⟨2,.take [0,2,3,4,7,9] false (.both 1 (.one 5 (.take [6,8] true (.one 10 (.done)))) (.one 5 (.take [1,6,8] true (.one 10 (.done)))))⟩]
theorem Vz{a b t:Int}(c:2<=t/\t<=4)(d:0<=a/\a<t)(hb:1<=b/\b<t):0<=(a+b).tmod t/\(a+b).tmod t<t/\(a+b).tmod t≠a:=by
 rw[Int.tmod_eq_emod_of_nonneg (by omega)];have:t=2\/t=3\/t=4:=by omega
 grind
theorem Rc{a t}(b:2<=t/\t<=4):r8 .rem .i64 a t=some (.int .i64 (a.tmod t)):=by simp[r8];omega
theorem Rd{t}(hk:k+7<1000000)(H:nums.length<1152921504606846976)(ht:2<=t/\t<=4)(hb:bg c nums k σ)(h:∀  x  σ',kF t x=0->qZ c nums (k+7) σ σ'->KF (.val (eM x)) σ'):aB prog m 34 [.ref c 0,int t] σ KF:=by
 obtain⟨n0,s0,_,a7⟩:=id hb;refine fs aaj Tryz.func34 rfl (by kernel_rfl) ?_
 simp[Tryz.f34];refine bO.intro λi h4=>?_
 have v:c≠i:=λe=>by simp_all
 have P:∀x,bg c nums k (σ.set i x):=λx=>⟨n0,s0,by assumption,by rw[ab.ah _ _ v];exact a7⟩
 simp;have W:-9223372036854775808<=t-1/\t-1<=9223372036854775807:=by omega
 simp[W.1,W.2];refine cf Tryz.func16 rfl (fE (by omega) H ⟨by omega,by omega⟩ (P _) λd aC Q M=>?_)
 apply rn;simp;refine cf Tryz.func13 rfl (fY (by omega) H (by omega) (by omega) M.1 λr w aE A=>?_)
 apply rn;simp;refine bO.intro λf h5=>?_
 have B:f≠c:=λe=>by subst e;obtain⟨_,_,_,q⟩:=A.1;simp_all
 have aL:∀y,y≠c->y≠i->w y=σ y:=λy o Y=>by rw[A.2 y o,M.2 y o,ab.ah _ _ Y]
 have q4:w i=some (.cells [int 0,int 0,int 0,int 0,int 0]):=by rw[A.2 i (zs v),M.2 i (zs v),ab.ai]
 have s:f≠i:=λe=>by simp_all
 have Q:0<=d/\d<t:=by omega
 apply xV (I:=λenv σ'=>∃b,(1<=b/\b<t)/\env 0=.ref c 0/\env 1=int t/\env 4=.ref i 0/\env 5=.ref f 0/\bg c nums (k+3) σ'/\σ' i=some (.cells [int 0,int 0,int 0,int 0,int 0])/\σ' f=some (.cells [int d,int ((d+b).tmod t),int r,int 0,int 0])/\∀y,y≠c->y≠i->y≠f->σ' y=σ y)
 . intro u
   simp[aI,W.1,W.2]
   have R:bg c nums (k+2) (w.set f (.cells [int d,int 0,int r,int 0,int 0])):=by obtain⟨n,z,C,S⟩:=A.1;exact⟨n,z,C,by rw[ab.ah _ _ (zs B)];exact S⟩
   have fin:∀(b:Int) (g:ab),1<=b/\(b<=t-1\/b=1)->qZ c nums (k+2+1) (w.set f (.cells [int d,int 0,int r,int 0,int 0])) g->g f=some (.cells [int d,int 0,int r,int 0,int 0])/\(-9223372036854775808<=d+b/\d+b<=9223372036854775807)/\∀(env:Env) (X:uq),env 0=.ref c 0->env 1=int t->env 4=.ref i 0->env 5=.ref f 0->X=.cells [int d,int ((d+b).tmod t),int r,int 0,int 0]->(∃b,(1<=b/\b<t)/\env 0=.ref c 0/\env 1=int t/\env 4=.ref i 0/\env 5=.ref f 0/\bg c nums (k+3) (g.set f X)/\(g.set f X) i=some (.cells [int 0,int 0,int 0,int 0,int 0])/\(g.set f X) f=some (.cells [int d,int ((d+b).tmod t),int r,int 0,int 0])/\∀y,y≠c->y≠i->y≠f->(g.set f X) y=σ y):=λb g p j=>by
    refine⟨by rw[j.2 f B,ab.ai],by omega,λenv X N J K L eX=>⟨b,by omega,N,J,K,L,?_,?_,by rw[ab.ai,eX],λy o Y y3=>?_⟩⟩
    . obtain⟨n,z,C,S⟩:=j.1
      exact⟨n,z,by omega,by rw[ab.ah _ _ (zs B)];exact S⟩
    . rw[ab.ah _ _ (zs s),j.2 i (zs v),ab.ah _ _ (zs s)];exact q4
    rw[ab.ah _ _ y3,j.2 y o,ab.ah _ _ y3];grind
   refine⟨?_,?_⟩
   . refine cf Tryz.func13 rfl (fY (by omega) H (by omega) (by omega) R λb g p j=>?_)
     obtain⟨g5,C,gI⟩:=fin b g p j;have Z:=Rc (a:=d+b) ht;apply pg;simp[g5,C.1,C.2,Z,aI];exact u _ _ (gI _ _ (by simp) (by simp) (by simp) (by simp) rfl)
   refine cf Tryz.func13 rfl (fY (by omega) H (by omega) (by omega) R λb g p j=>?_)
   obtain⟨g5,C,gI⟩:=fin b g p j;have Z:=Rc (a:=d+b) ht;apply pg;simp[g5,C.1,C.2,Z,aI];exact u _ _ (gI _ _ (by simp) (by simp) (by simp) (by simp) rfl)
 rintro env g ⟨b,p,N,J,K,L,a8,u4,u5,a9⟩
 apply rn;simp[N,J,K,L];refine cf Tryz.func16 rfl (fE (by omega) H ⟨by omega,by omega⟩ a8 λo aO b0 D=>?_)
 apply rn;simp[N,J,K,L];refine cf Tryz.func63 rfl (po (l:=[0,0,o]) (by omega) H (by simp) D.1 λfr T b1 E=>?_)
 have hf:0<=fr/\fr<=20:=by grind
 have v5:T f=some (.cells [int d,int ((d+b).tmod t),int r,int 0,int 0]):=by rw[E.2 f B,D.2 f B];exact u5
 have r2:-9223372036854775808<=fr+20/\fr+20<=9223372036854775807:=by omega
 apply rn;simp[N,J,K,L,v5,aI,r2.1,r2.2];obtain⟨hi,ad,ax⟩:∃hi:Int,hi=(if fr+20<72 then fr+20 else 72)/\fr<=hi/\hi<=72:=⟨_,rfl,by omega,by omega⟩
 rw[<-ad]
 have U:bg c nums (k+5) (T.set f (.cells [int d,int ((d+b).tmod t),int r,int fr,int 0])):=by obtain⟨n,z,C,S⟩:=E.1;exact⟨n,z,by omega,by rw[ab.ah _ _ (zs B)];exact S⟩
 refine cf Tryz.func13 rfl (fY (by omega) H (by omega) (by omega) U λY σ6 b2 F=>?_)
 apply rn;simp[N,J,K,L];refine cf Tryz.func63 rfl (po (l:=[72,72,Y]) (by omega) H (by simp) F.1 λtt V al G=>?_)
 have b3:fr<=tt/\tt<=72:=by simp at al;omega
 have w5:V f=some (.cells [int d,int ((d+b).tmod t),int r,int fr,int 0]):=by rw[G.2 f B,F.2 f B,ab.ai]
 have w4:V i=some (.cells [int 0,int 0,int 0,int 0,int 0]):=by rw[G.2 i (zs v),F.2 i (zs v),ab.ah _ _ (zs s),E.2 i (zs v),D.2 i (zs v)];exact u4
 apply rn;simp[N,J,K,L,w5,w4,s,zs s,ab.ah,aI];obtain⟨nb,zb,P,av⟩:=G.1;have ay:=Vz ht Q p
 have hw:kF t ⟨d,(d+b).tmod t,r,fr,tt⟩=0:=by
  have J:bz d 0 (t-1)=true:=by simp only[bz,zj,zR];omega
  have Z:bz ((d+b).tmod t) 0 (t-1)=true:=by simp only[bz,zj,zR];omega
  have e3:bz r 1 12=true:=by simp only[bz,zj,zR];omega
  have K:bz fr 0 72=true:=by simp only[bz,zj,zR];omega
  have L:bz tt 0 72=true:=by simp only[bz,zj,zR];omega
  unfold kF
  grind
 refine .less (σ':=σ.set c (.cells [ints nums,int nb,.lit (.int .u64 zb)])) (λy x O=>?_) (.done (h ⟨d,(d+b).tmod t,r,fr,tt⟩ _ hw ⟨⟨nb,zb,by omega,ab.ai _ _ _⟩,λy O=>ab.ah _ _ O⟩))
 have s5:σ f=none:=by simp_all
 by_cases o:y=c
 . subst o
   rw[ab.ai]at O;rw[ab.ah _ _ v,ab.ah _ _ (zs B),av];exact O
 rw[ab.ah _ _ o]at O;have y4:y≠i:=λe=>by simp_all
 have y5:y≠f:=λe=>by simp_all
 rw[ab.ah _ _ y4,ab.ah _ _ y5,G.2 y o,F.2 y o,ab.ah _ _ y5,E.2 y o,D.2 y o,a9 y o y4 y5];exact O
end WY
end
end
section
open Go.bN Go.Conc
variable{m:Mo}{σ:ab}{KF:aeQ}
def mr(a b:afe):afe:=a.filter λx=>decide (x∉b)
def YQ(a b:afe):Int:=((mr a b).length:Int)+((mr b a).length:Int)
theorem BA{a b:afe}{i}  h :mr (a.take (i+1)) b=mr (a.take i) b++if a[i]∈b then[]else[a[i]]:=by
 unfold mr;rw[za h,aca]
 grind
theorem qA  a b :(mr a b).length<=a.length:=aaN _ _
def Re:aeJ:=[[],[0],[1],[2],[0,1],[0,2],[1,2],[0,1,2]]
theorem Hx{l}(h:l.Sublist [0,1,2]):l∈Re:=by cases h<;>(rename_i h;cases h<;>(rename_i h;cases h<;>(rename_i h;cases h;decide)))
theorem Tm:∀a∈Re,∀b∈Re,YQ a b=bM (aR a) (aR b):=by decide +kernel
theorem Hy{a b}(c:a.Sublist [0,1,2])(hb:b.Sublist [0,1,2]):YQ a b=bM (aR a) (aR b):=Tm _ (Hx c) _ (Hx hb)
theorem Jq{a b}(x:a.length<1000000)(hb:b.length<1000000)(h:KF (.val (int (YQ a b))) σ):aB prog m 62 [ints a,ints b] σ KF:=by
 refine fs [] Tryz.func62 rfl (by kernel_rfl) ?_
 simp[Tryz.f62];refine aa.loop a.length (λi s=>∃env,s=⟨env,σ,[],.no⟩/\env 0=ints a/\env 1=ints b/\env 5=int ((mr (a.take i) b).length:Int)/\env 6=int i) ⟨_,rfl,by simp[mr]⟩ ?_
 rintro u i _ v ⟨env,rfl,e,f,d,n⟩ r
 rcases aaA i a.length with g1|g1
 . have t:(i:Int)<a.length:=by omega
   have j:=qA (a.take i) b;rw[ack]at j;have f1:-9223372036854775808<=(i:Int)+1/\(i:Int)+1<=9223372036854775807:=by omega
   have o:-9223372036854775808<=((mr (a.take i) b).length:Int)+1/\((mr (a.take i) b).length:Int)+1<=9223372036854775807:=by omega
   have c:=BA (b:=b) g1;apply rn;simp[e,f,d,n,g1];refine cf Tryz.func21 rfl (lR (by omega) ?_)
   by_cases q:a[i]∈b
   . rw[Rp q,aaE]at c
     have k:¬pT b a[i]<0:=by have:=(iS b a[i]).2 q;omega
     apply rn;simp[e,f,d,n,k,f1.1,f1.2]
     simp_all
   rw[KD q]at c
   have k:pT b a[i]<0:=by
    rcases aew (pT b a[i]) 0 with g|g
    . exact g
    exact absurd ((iS b a[i]).1 g) q
   apply rn;simp[e,f,d,n,k,f1.1,f1.2,o.1,o.2]
   simp_all
 have l:i=a.length:=by omega
 subst l;rw[aar]at d;have w:=qA a b;apply rn;simp[e,f,d,n];refine aa.loop b.length (λi s=>∃env,s=⟨env,σ,[],.no⟩/\env 0=ints a/\env 1=ints b/\env 5=int (((mr a b).length:Int)+((mr (b.take i) a).length:Int))/\env 7=int i) ⟨_,rfl,by simp[e,f,mr,d]⟩ ?_
 clear e f d n r
 rintro u i _ v ⟨env,rfl,e,f,d,p⟩ r
 rcases aaA i b.length with g1|g1
 . have t:(i:Int)<b.length:=by omega
   have j:=qA (b.take i) a;rw[ack]at j;have f1:-9223372036854775808<=(i:Int)+1/\(i:Int)+1<=9223372036854775807:=by omega
   have o:-9223372036854775808<=((mr a b).length:Int)+((mr (b.take i) a).length:Int)+1/\((mr a b).length:Int)+((mr (b.take i) a).length:Int)+1<=9223372036854775807:=by omega
   have c:=BA (b:=a) g1;apply rn;simp[e,f,d,p,g1];refine cf Tryz.func21 rfl (lR (by omega) ?_)
   by_cases q:b[i]∈a
   . rw[Rp q,aaE]at c
     have k:¬pT a b[i]<0:=by have:=(iS a b[i]).2 q;omega
     apply rn;simp[e,f,d,p,k,f1.1,f1.2]
     simp_all
   rw[KD q]at c
   have k:pT a b[i]<0:=by
    rcases aew (pT a b[i]) 0 with g|g
    . exact g
    exact absurd ((iS a b[i]).1 g) q
   apply rn;simp[e,f,d,p,k,f1.1,f1.2,o.1,o.2];refine r _ g1 ⟨_,rfl,by simp_all,by simp_all,by simp[c,Int.add_assoc]⟩
 have l:i=b.length:=by omega
 subst l;rw[aar]at d;apply rn;simp[e,f,d,p];exact .done h
structure Rf  fq  (e:yz):Prop where
 hour:0<=e.hour/\e.hour<=72
 place:0<=e.place/\e.place<fq
 cy:0<=e.cy/\e.cy<=1
 marks:e.marks.Sublist [0,1,2]
 bd:0<=e.bd/\e.bd<=30
 im:0<=e.im/\e.im<=2
theorem Rf.check{fq e}(h:Rf fq e):bX fq e=0:=by
 obtain⟨b,c,d,a,f,g⟩:=h;have a:=(nC a).1;unfold bX bz
 grind
structure Jr  cnt  (f:Fr)  ks :Prop where
 pw:f.Good
 len:(f.az.length:Int)<=cnt
 fq:f.roads.length<=3
 row:∀r∈f.roads,r.length<=3
 marks:∀e∈f.az,e.marks.length<=3
 aX:f.aX<=3
 seen:∃  aX   C H   last ,Seen f aX C H ks f.az last/\(aX:Int)=f.aX
theorem Dk{k}:∀  es   i   x ,i<es.length->(∀e∈es,e.cells.length=k)->x.cells.length=k->(flatten es).take (i*k)++x.cells++(flatten es).drop (i*k+k)=flatten (es.set i x)
 | e::es,0,x,_,a,b=>by
   have c:=a e (by simp);rw[List.set_cons_zero,flatten_cons,flatten_cons]
   grind
 | e::es,i+1,x,g,a,b=>by
   have c:=a e (by simp);have d:=Dk es i x (by simp_all) (λy f=>a y (by simp[f])) b;rw[List.set_cons_succ,flatten_cons,flatten_cons,<-d,adK,Nat.one_mul,aeu,List.drop_append];rw[aaY (by omega),List.drop_eq_nil_of_le (by omega),c,show i*k+k-k=i*k by omega,show i*k+k+k-k=i*k+k by omega];simp
theorem Rg{f n h}(g:f.aU<=f.dD)(i:0<=n.im/\n.im<=2)(hb:(n.im≠1/\n.bd=h)\/(n.im≠0/\∃y,f.aU<=y/\y<=f.dD/\n.bd=h+y)):h∈bU f n:=by
 have a:n.im≠1->n.bd∈bU f n:=λc=>by
  unfold bU
  grind
 have b:∀x,x∈iQ f n->x∈bU f n:=λx j=>by
  unfold bU
  grind
 rcases hb with⟨c,rfl⟩|⟨d,y,k,l,e⟩
 . exact a c
 refine b _ ?_;unfold iQ;rw[Rp d];exact aab.2 ⟨(f.dD-y).toNat,zH.2 (by omega),by omega⟩
theorem wj{σ0 σ c σ' a kk es}(h:Tok σ0 σ a kk es)(d:c.Le σ')(hb:∀b,bt a=some b->σ' b=σ b/\c b=none):Tok c σ' a kk es:=by
 refine⟨d,?_⟩;rcases h.2 with q|q|⟨b,e,g,f,i⟩
 . exact .inl q
 . simp_all
 obtain⟨j,k⟩:=hb b (by rw[f];rfl)
 grind
theorem Em{σ0 σ σ2 a kk es c}(h:bo σ0 σ a kk es)(i:σ0 c=none)(f:bJ a≠some c)(d:∀y,y≠c->σ2 y=σ y):bo σ0 σ2 a kk es:=h.keep (λy x g=>by rw[d y (λe=>by simp_all)];exact h.1 y x g) λb hb=>⟨d b (λe=>f (e ▸ hb)),(h.cS hb).1⟩
theorem Tn{σ0 σ σ' a c j kk k m es n o}(h:Tok σ0 σ a kk es)(f:bo σ0 σ c k n)(g:bo (σ.BO c) σ' j m o):Tok σ0 σ' a kk es:=
 wj h (ab.le_trans f.here.2 g.1) λb hb=>by
  obtain⟨p,e,i⟩:=h.aV hb;have d:bJ c≠some b:=λq=>by obtain⟨_,l,r⟩:=f.cS q;simp_all
  exact⟨by rw[i];exact g.1 b _ (by rw[ab.oQ d];exact i),p⟩
theorem Tp{σ0 σ σ' a c j kk k m es n o}(h:bo σ0 σ a kk es)(f:Tok σ0 σ c k n)(g:Tok (σ.off c) σ' j m o):bo σ0 σ' a kk es:=
 h.keep (ab.le_trans f.here.2 g.1) λb hb=>by
  obtain⟨p,l,i⟩:=h.cS hb;have d:bt c≠some b:=λq=>by obtain⟨_,e,r⟩:=f.aV q;simp_all
  exact⟨by rw[i];exact g.1 b _ (by rw[ab.dF d];exact i),p⟩
theorem m7{env:Env}{t u v}(h:u≠t):(env.upd t v) u=env u:=by simp_all
theorem Wq{env:Env}{t v}:(env.upd t v) t=v:=by simp_all
structure KI(V:Nat->AV)(B5:Env)  σ6   c c13 K   nums   T  (X:Int->afk) (done:aff) (env:Env)  σ :Prop where
 base:∀s,s<97->env s=B5 s
 eQ:∀i,i∈done->i≠33->i≠34->i<36->env (97+i)=V i
 pre:33∉done->σ=σ6
 post:33∈done->36∉done->bg c nums K σ/\∀y,y≠c->σ y=σ6 y
 pick:33∈done->∃p ,(0<=p/\p<=3)/\env 130=int p/\(34∈done->env 131=int (T+p))
 all:36∈done->∀j,j<36->j∈done
 dep:34∈done->33∈done
 fin:36∈done->∃p ,(0<=p/\p<=3)/\bg c nums K σ/\σ c13=some (.cells (X (T+p)))/\∀y,y≠c->y≠c13->σ y=σ6 y
section
variable{V:Nat->AV}{B5 env:Env}{σ6:ab}{c c13 K:Nat}{nums:afe}{T:Int}{X:Int->afk}{done:aff}
theorem KI.Tq(h:KI V B5 σ6 c c13 K nums T X done env σ){i}(hi:i<36)(b:i∉done):36∉done:=λa=>b (h.all a i hi)
theorem KI.keep(h:KI V B5 σ6 c c13 K nums T X done env σ){i}(hi:i<36)(a:i∉done){y}(b:y≠c):σ y=σ6 y:=by
 by_cases q:33∈done
 . exact(h.post q (h.Tq hi a)).2 y b
 rw[h.pre q]
theorem KI.next(h:KI V B5 σ6 c c13 K nums T X done env σ){i}(hi:i<36)(m:i∉done)(w:i≠33)(x:i≠34){a}(y:a=V i):KI V B5 σ6 c c13 K nums T X (i::done) (env.upd (97+i) a) σ:=by
 have b:33∈i::done↔33∈done:=by grind
 have f:34∈i::done↔34∈done:=by grind
 have k:=h.Tq hi m;have d:36∉i::done:=by grind
 refine⟨λs n=>?_,λj o r t u=>?_,λq=>h.pre λl=>q (b.2 l),λq _=>h.post (b.1 q) k,λq=>?_,λq=>absurd q d,λq=>b.2 (h.dep (f.1 q)),λq=>absurd q d⟩
 . rw[m7 (by omega)];exact h.base s n
 . by_cases e:j=i
   . simp_all
   rw[m7 (by omega)];exact h.eQ j ((aaw.1 o).resolve_left e) r t u
 obtain⟨p,v,l,z⟩:=h.pick (b.1 q);exact⟨p,v,by rw[m7 (by omega)];exact l,λg=>by rw[m7 (by omega)];simp_all⟩
theorem KI.VA(h:KI V B5 σ6 c c13 K nums T X done env σ)(l:33∉done)(b:34∉done){p}(m:0<=p/\p<=3){σ'}(hb:bg c nums K σ')(d:∀y,y≠c->σ' y=σ6 y):KI V B5 σ6 c c13 K nums T X (33::done) (env.upd 130 (int p)) σ':=by
 have e:=h.Tq (i:=33) (by omega) l;have a:36∉33::done:=by simp[e]
 have f:34∉33::done:=by simp[b]
 refine⟨λs d=>?_,λj n k o r=>?_,λq=>absurd (by simp) q,λ_ _=>⟨hb,d⟩,λq=>⟨p,m,by simp_all,λg=>absurd g f⟩,λq=>absurd q a,λ_=>by simp,λq=>absurd q a⟩
 . rw[m7 (by omega)];exact h.base s d
 rw[m7 (by omega)];exact h.eQ j ((aaw.1 n).resolve_left k) k o r
theorem KI.summed(h:KI V B5 σ6 c c13 K nums T X done env σ)(f:34∉done)(a:33∈done){p}(k:0<=p/\p<=3)(r:env 130=int p):KI V B5 σ6 c c13 K nums T X (34::done) (env.upd 131 (int (T+p))) σ:=by
 have b:=h.Tq (i:=34) (by omega) f;have d:36∉34::done:=by simp[b]
 refine⟨λs l=>?_,λj m n e o=>?_,λq=>absurd (by simp[a]) q,λ_ _=>h.post a b,λq=>⟨p,k,by simp_all,λg=>by simp_all⟩,λq=>absurd q d,λ_=>by simp[a],λq=>absurd q d⟩
 . rw[m7 (by omega)];exact h.base s l
 rw[m7 (by omega)];exact h.eQ j ((aaw.1 m).resolve_left e) n e o
end
theorem Fb{σ0 σ σ' a c f kk j k es l m}(h:Tok σ0 σ a kk es)(n:Tok σ0 σ c j l)(hd:∀b,bt a=some b->bt c≠some b)(d:Tok (σ.off c) σ' f k m):Tok σ0 σ' a kk es/\∀b,bt a=some b->bt f≠some b:=by
 have key:∀b,bt a=some b->(σ.off c) b=σ b:=λb hb=>ab.dF (hd b hb)
 refine⟨wj h (ab.le_trans n.here.2 d.1) λb hb=>?_,λb hb q=>?_⟩
 . obtain⟨g,e,i⟩:=h.aV hb
   exact⟨by rw[i];exact d.1 b _ (by simp_all),g⟩
 obtain⟨g,e,i⟩:=h.aV hb;obtain⟨o,_,_⟩:=d.aV q
 simp_all
section
variable{c k:Nat}{nums:afe}
theorem Na{cnt}(hk:k+500<1000000)(hn:nums.length<1152921504606846976)(sr:1<=cnt/\cnt<=6)(hb:bg c nums k σ)(h:∀  f   ks  σ',Jr cnt f ks->qZ c nums (k+500) σ σ'->KF (.val (.bL [bF f,ints ks])) σ'):aB prog m 32 [.ref c 0,int cnt] σ KF:=by
 obtain⟨n0,s0,_,ox⟩:=id hb;refine fs Z4 Tryz.func32 rfl (by kernel_rfl) ?_
 simp[Tryz.f32];refine bO.intro λX h4=>?_
 have n4:c≠X:=λe=>by simp_all
 have hS:∀x,bg c nums k (σ.set X x):=λx=>⟨n0,s0,by assumption,by rw[ab.ah _ _ n4];exact ox⟩
 simp;refine cf Tryz.func60 rfl (Ja (cnt:=0) (by omega) hn ⟨by omega,by omega⟩ (hS _) λf0 a0 hT Z eg oF=>?_)
 obtain rfl:=oF.1 (adg.1 (by have:=Z.len;omega))
 have bw:X≠c:=zs n4;have oG:hT X=some (.cells iw):=by rw[eg.2 X bw,ab.ai]
 apply rn;simp;refine bO.intro λP h6=>?_
 have n6:P≠c:=λe=>by subst e;obtain⟨_,_,_,q⟩:=eg.1;simp_all
 have fi:P≠X:=λe=>by simp_all
 have oK:σ P=none:=by rw[eg.2 P n6,ab.ah _ _ fi]at h6;exact h6
 simp
 have gR:∀x,bg c nums (k+20) (hT.set P x):=λx=>by obtain⟨n,z,g1,g2⟩:=eg.1;exact⟨n,z,g1,by rw[ab.ah _ _ (zs n6)];exact g2⟩
 refine cf Tryz.func13 rfl (fY (by omega) hn ⟨by omega,by omega⟩ ⟨by omega,by omega⟩ (gR _) λaX dy v9 fj=>?_)
 have t6:dy P=some (.cells [.lit (.slice none 0 0),rows f0.roads,int f0.aU,int f0.dD,int f0.cJ,int f0.aX]):=by rw[fj.2 P n6,ab.ai]
 have t4:dy X=some (.cells iw):=by rw[fj.2 X bw,ab.ah _ _ (zs fi)];exact oG
 apply rn;simp[t6,aI];obtain⟨mo,rfl⟩:∃mo:Nat,aX=(mo:Int):=⟨aX.toNat,by omega⟩
 have vc:1<=mo/\mo<=3:=by omega
 have gU:=Z.fq;obtain⟨A6,ei⟩:∃A6:AV->afk,A6=λa=>[a,rows f0.roads,int f0.aU,int f0.dD,int f0.cJ,int mo]:=⟨_,rfl⟩
 have oL:∀a,(A6 a).length=6:=λa=>by grind
 have b4:σ.del c c=none:=by simp[ab.del]
 have hU:bg c nums (k+21) (dy.set P (.cells (A6 (.lit (.slice none 0 0))))):=by obtain⟨n,z,g1,g2⟩:=fj.1;exact⟨n,z,by omega,by rw[ab.ah _ _ (zs n6)];exact g2⟩
 have al:(σ.del c).Le (dy.set P (.cells (A6 (.lit (.slice none 0 0))))):=λy x hy=>by
  have Y:y≠c:=λe=>by simp_all
  have y0:σ y=some x:=by simpa[ab.del,Y]using hy
  have y6:y≠P:=λe=>by simp_all
  have y4:y≠X:=λe=>by simp_all
  rw[ab.ah _ _ y6,fj.2 y Y,ab.ah _ _ y6,eg.2 y Y,ab.ah _ _ y4];exact y0
 have oM:σ.del c P=none:=by simp[ab.del,oK]
 have vj:σ.del c X=none:=by simp[ab.del,h4]
 have hX:(dy.set P (.cells (A6 (.lit (.slice none 0 0))))) X=some (.cells iw):=by rw[ab.ah _ _ (zs fi)];exact t4
 refine aa.loop mo (λi s=>∃env σ' la ha L H,s=⟨env,σ',[],.no⟩/\env 0=.ref c 0/\env 1=int cnt/\env 4=.ref X 0/\env 6=.ref P 0/\env 7=la/\env 8=ha/\env 9=int i/\bg c nums (k+21+12*i) σ'/\σ' X=some (.cells iw)/\σ' P=some (.cells (A6 (.lit (.slice none 0 0))))/\bo (σ.del c) σ' la 6 (L.map bj)/\Tok (σ.del c) σ' ha 1 (H.map int)/\bJ la≠some c/\bJ la≠some X/\bJ la≠some P/\L.length=i/\H.length=i/\(∀e∈L,Bh f0.roads.length e)/\(∀x∈H,13<=x/\x<=16))
  ⟨_,dy.set P (.cells (A6 (.lit (.slice none 0 0)))),.lit (.slice none 0 0),.lit (.slice none 0 0),[],[],by rw[ei],by simp,by simp,by simp,by simp,by simp,by simp,by simp,hU,hX,ab.ai _ _ _,⟨al,.inl ⟨rfl,.inl rfl⟩⟩,⟨al,.inl ⟨rfl,rfl⟩⟩,by simp[bJ],by simp[bJ],by simp[bJ],rfl,rfl,by simp⟩ ?_
 clear hU al hX
 rintro c0 i _ hi ⟨env,σ',la,ha,L,H,rfl,D,e1,G,E,F,J,e9,fl,q4,q6,ej,ep,et,fp,ft,hY,oN,h1,hZ⟩ ih
 have b5:=ej.cells;have d:=ep.cells;have a7:σ' P=some (.cells [.lit (.slice none 0 0),rows f0.roads,int f0.aU,int f0.dD,int f0.cJ,int mo]):=by rw[q6,ei]
 rcases aaA i mo with g1|g1
 . have ic:(i:Int)<mo:=by omega
   have f1:-9223372036854775808<=(i:Int)+1/\(i:Int)+1<=9223372036854775807:=by omega
   apply rn;simp[D,e1,G,E,F,J,e9,a7,b5.1,b5.2,d.1,d.2,g1];refine cf Tryz.func61 rfl (rH (by omega) hn ⟨by omega,by omega⟩ fl λe a8 he U=>?_)
   have ie:∃l,σ' c=some (.cells l):=by obtain⟨_,_,_,q⟩:=fl;exact⟨_,q⟩
   have ev:=Em ej b4 et U.2;have ix:=tF ep b4 ie U.2;have ey:a8 X=some (.cells iw):=by rw[U.2 X bw];exact q4
   have ez:a8 P=some (.cells (A6 (.lit (.slice none 0 0)))):=by rw[U.2 P n6];exact q6
   apply rn;simp[D,e1,G,E,F,J,e9,a7,b5.1,b5.2,d.1,d.2];refine fU lay rfl rfl rfl nX rfl nX rfl Ap (by decide) (by simp;omega) (σ0:=a8.BO la) (es:=L.map bj) (xs:=[bj e]) (by simpa using ev.here.1) (.inl (.inr ⟨_,by simp;rfl⟩)) (by simp) λfu aO av=>?_
   have k4:∀y l,bJ la≠some y->a8 y=some l->aO y=some l:=λy l hy hl=>av.1 _ _ (by rw[ab.oQ hy];exact hl)
   have k0:=Tn ix ev av;have h2:=av.base ev.here.2
   have k2:bg c nums (k+21+12*i+11) aO:=by obtain⟨n,z,g1,g2⟩:=U.1;exact⟨n,z,g1,k4 _ _ et g2⟩
   have gl:bJ fu≠some c:=λq=>by obtain⟨g,_⟩:=av.cS q;obtain⟨_,_,_,g2⟩:=U.1;rw[ab.oQ et,g2]at g;cases g
   have k3:bJ fu≠some X:=λq=>by obtain⟨g,_⟩:=av.cS q;rw[ab.oQ fp,ey]at g;cases g
   have k5:bJ fu≠some P:=λq=>by obtain⟨g,_⟩:=av.cS q;rw[ab.oQ ft,ez]at g;cases g
   have aL:=av.cells;apply rn;simp[D,J,aL.1,aL.2];refine cf Tryz.func13 rfl (fY (by omega) hn ⟨by omega,by omega⟩ ⟨by omega,by omega⟩ k2 λx ea oS b1=>?_)
   have k7:∃l,aO c=some (.cells l):=by obtain⟨_,_,_,q⟩:=k2;exact⟨_,q⟩
   have c9:=tF k0 b4 k7 b1.2;have k8:=Em h2 b4 gl b1.2;apply rn;simp[D,J,aL.1,aL.2,d.1,d.2];refine aN lay rfl rfl rfl cK rfl cK rfl pQ (by decide) (by simp;omega) (σ0:=ea.off ha) (es:=H.map int) (xs:=[int x]) (by simpa using c9.here.1) (.inr ⟨_,by simp;rfl⟩) λp0 σ6 ca=>?_
   have kt:=Tp k8 c9 ca;have h3:=ca.base c9.here.2;have gp:=ca.cells;have k6:∀y l,ea y=some (.cells l)->σ6 y=some (.cells l):=λy l hy=>ca.1 _ _ (by rw[ab.dF (λe=>by obtain⟨_,_,q⟩:=c9.aV e;rw[hy]at q;cases q)];exact hy)
   have p5:σ6 X=some (.cells iw):=k6 _ _ (by rw[b1.2 X bw];exact k4 _ _ fp ey)
   have p6:σ6 P=some (.cells (A6 (.lit (.slice none 0 0)))):=k6 _ _ (by rw[b1.2 P n6];exact k4 _ _ ft ez)
   have b2:bg c nums (k+21+12*(i+1)) σ6:=by obtain⟨n,z,g1,g2⟩:=b1.1;exact⟨n,z,by omega,k6 _ _ g2⟩
   apply rn;simp[D,e9,f1.1,f1.2,aL.1,aL.2,gp.1,gp.2];refine ih _ g1 ⟨_,σ6,fu,p0,L++[e],H++[x],rfl,by simp[D],by simp[e1],by simp[G],by simp[E],by simp,by simp,by simp,b2,p5,p6,by simpa using kt,by simpa using h3,gl,k3,k5,by simp[hY],by simp[oN],λy hy=>?_,λy hy=>?_⟩
   . rcases aan.1 hy with hy|hy
     . exact h1 y hy
     simp at hy;subst hy;exact he
   rcases aan.1 hy with hy|hy
   . exact hZ y hy
   simp at hy;omega
 have p7:i=mo:=by omega
 subst p7;clear ih
 obtain⟨Q,cap,rest,rfl,r1,r2,r3,r4,r5⟩:∃Q cap rest,la=.gK Q 0 i cap/\σ.del c Q=none/\i<=cap/\(∀e∈L.map bj,e.cells.length=6)/\σ' Q=some (.cells (flatten (L.map bj)++rest))/\rest.length=(cap-i)*6:=by
  have eA:(L.map bj).length=i:=by simp_all
  rcases ej.2 with⟨e,_⟩|⟨b,cap,rest,g1,g2,g3,g4,g5,g6⟩
  . grind
  rw[eA]at g1 g3 g6
  grind
 have ay:Q≠c:=λe=>et (by rw[e];rfl)
 have p8:Q≠X:=λe=>fp (by rw[e];rfl)
 have h5:Q≠P:=λe=>ft (by rw[e];rfl)
 have sy:σ Q=none:=by simpa[ab.del,ay]using r1
 refine aa.Am 8 (a':=ints H) (by rw[J];simpa using ep.W) ?_
 have b8:=ep.1;clear ej ep b5 d et fp ft J;apply rn;simp[D,e1,G,E,F,e9,a7];refine cf Tryz.func13 rfl (fY (by omega) hn ⟨by omega,by omega⟩ ⟨by omega,by omega⟩ fl λq a8 hq U=>?_)
 have ey:a8 X=some (.cells iw):=by rw[U.2 X bw];exact q4
 have ez:a8 P=some (.cells (A6 (.lit (.slice none 0 0)))):=by rw[U.2 P n6];exact q6
 have kv:a8 Q=some (.cells (flatten (L.map bj)++rest)):=by rw[U.2 Q ay];exact r4
 have al:(σ.del c).Le a8:=λy x hy=>by
  have Y:y≠c:=λe=>by simp_all
  rw[U.2 y Y];exact b8 y x hy
 obtain⟨qn,rfl⟩:∃qn:Nat,q=(qn:Int):=⟨q.toNat,by omega⟩
 have vk:1<=qn/\qn<=6:=by omega
 have gw:bg c nums (k+60) a8:=U.1.mono (by omega)
 obtain⟨C,hC⟩:∃C,C=L.map (·.cy):=⟨_,rfl⟩;obtain⟨f1,eB⟩:∃f1:Fr,f1=⟨[],f0.roads,f0.aU,f0.dD,f0.cJ,(i:Int)⟩:=⟨_,rfl⟩
 have cb:Seen f1 i C H [] [] L:=⟨rfl,by simp,by simp,λj hj=>by simp at hj,λj hj=>by simp at hj,λa b _ hb=>by simp at hb,λj hj=>by simp at hj,λj hj=>by simp_all,hY⟩
 have gx:∀e∈L,Rf f0.roads.length e:=λe he=>by have:=h1 e he;exact⟨⟨this.hour.1,by have:=this.hour;omega⟩,this.place,this.cy,this.marks,⟨by have:=this.bd;omega,by have:=this.bd;omega⟩,this.im⟩
 apply rn;simp[D,e1,G,E,F,e9,a7];have kx:=D;have ky:=G;have l1:=E;have l2:=F;clear D e1 G E F e9 a7 h1 r3
 refine aa.loop qn (λj s=>∃env σ' a hh M es ks,s=⟨env,σ',[],.no⟩/\env 0=.ref c 0/\env 4=.ref X 0/\env 6=.ref P 0/\env 7=.gK Q 0 i cap/\env 8=ints H/\env 10=hh/\env 11=int ((qn:Int)-j)/\bg c nums (k+60+16*j) σ'/\σ' X=some (.cells iw)/\σ' P=some (.cells (A6 a))/\σ' Q=some (.cells (flatten (M.map bj)++rest))/\Tok (σ.del c) σ' a 6 (es.map bj)/\Tok (σ.del c) σ' hh 1 (ks.map int)/\(∀b,bt a=some b->bt hh≠some b)/\Seen f1 i C H ks es M/\(∀e∈M,Rf f0.roads.length e)/\(∀e∈es,e.marks.length<=3)/\es.length<=j)
  ⟨_,a8,.lit (.slice none 0 0),.lit (.slice none 0 0),L,[],[],rfl,by simp[kx],by simp[ky],by simp[l1],by simp[l2],by simp,by simp,by simp,gw,ey,ez,kv,⟨al,.inl ⟨rfl,rfl⟩⟩,⟨al,.inl ⟨rfl,rfl⟩⟩,λb hb=>by simp[bt]at hb,cb,gx,by simp⟩ ?_
 clear kx ky l1 l2 gw ey ez kv al b8 cb gx q4 q6 fl U r4
 rintro c1 j _ hj ⟨env,σ',a,hh,M,es,ks,rfl,D,G,E,F,J,cu,bH,h7,q4,q6,ql,b9,eb,gA,O,fv,h8,vx⟩ ih
 have o:=b9.cells;have d:=eb.cells;have a7:σ' P=some (.cells [a,rows f0.roads,int f0.aU,int f0.dD,int f0.cJ,int i]):=by rw[q6,ei]
 rcases aaA j qn with g1|g1
 . have ic : (0:Int)<(qn:Int)-j:=by omega
   have BH:(j:Int)<qn:=by omega
   have f2:-9223372036854775808<=(i:Int)-1/\(i:Int)-1<=9223372036854775807:=by omega
   have f3:-9223372036854775808<=(qn:Int)-j-1/\(qn:Int)-j-1<=9223372036854775807:=by omega
   apply rn;simp[D,G,E,F,J,cu,bH,o.1,o.2,d.1,d.2,ic,BH,g1,a7,f2.1,f2.2];refine cf Tryz.func16 rfl (fE (by omega) hn ⟨by omega,by omega⟩ h7 λkk a8 vy U=>?_)
   obtain⟨R,rfl⟩:∃R:Nat,kk=(R:Int):=⟨kk.toNat,by omega⟩
   have bA:R<i:=by omega
   have w6:a8 P=some (.cells [a,rows f0.roads,int f0.aU,int f0.dD,int f0.cJ,int i]):=by rw[U.2 P n6];exact a7
   apply rn;simp[D,G,E,F,J,cu,bH,o.1,o.2,d.1,d.2,w6];refine cf Tryz.func61 rfl (rH (by omega) hn ⟨by omega,by omega⟩ U.1 λe aO he h9=>?_)
   have bB:∀y,y≠c->aO y=σ' y:=λy hy=>(h9.2 y hy).trans (U.2 y hy)
   have w6:aO P=some (.cells [a,rows f0.roads,int f0.aU,int f0.dD,int f0.cJ,int i]):=by rw[bB P n6];exact a7
   have wl:aO Q=some (.cells (flatten (M.map bj)++rest)):=by rw[bB Q ay];exact ql
   have w4:aO X=some (.cells iw):=by rw[bB X bw];exact q4
   apply rn;simp[D,G,E,F,J,cu,bH,o.1,o.2,d.1,d.2,w6];refine bO.intro λc13 l3=>?_
   have m0:c13≠c:=λe=>by subst e;obtain⟨_,_,_,q⟩:=h9.1;simp_all
   have m4:c13≠X:=λe=>by subst e;simp_all
   have m6:c13≠P:=λe=>by subst e;simp_all
   have ml:c13≠Q:=λe=>by subst e;simp_all
   have fw:R<M.length:=by rw[O.Vp];exact bA
   obtain⟨el,eA⟩:∃el,el=M[R]:=⟨_,rfl⟩;have bm:=fv el (by rw[eA];exact ys fw)
   obtain⟨CL,eK⟩:∃CL,CL=flatten (M.map bj)++rest:=⟨_,rfl⟩;rw[<-eK]at wl;have ho:∀x∈M.map bj,x.cells.length=6:=λx hx=>by obtain⟨y,_,rfl⟩:=aab.1 hx;rfl
   have gB:(flatten (M.map bj)).length=M.length*6:=by rw[aY (kk:=6) ho,aac]
   have cg:∀t,t<6->CL[R*6+t]?=(bj el).cells[t]?:=λt ht=>by
    rw[eK,aaX (by omega)]
    exact oI (kk:=6) ho (by rw[aaM,zA fw,eA];rfl) t ht
   have l4:=cg 0 (by omega)
   have l5:=cg 1 (by omega)
   have l6:=cg 2 (by omega)
   have l7:=cg 3 (by omega)
   simp at l4 l5 l6 l7;simp[D,G,E,F,J,cu,bH,o.1,o.2,d.1,d.2,wl,ab.ah,zs ml,bA,l6,aI]
   have pa:∀x,bg c nums (k+60+16*j+12) (aO.set c13 x):=λx=>by obtain⟨n,z,g1,g2⟩:=h9.1;exact⟨n,z,by omega,by rw[ab.ah _ _ (zs m0)];exact g2⟩
   refine cf Tryz.func16 rfl (fE (by omega) hn ⟨by omega,by omega⟩ (pa _) λsh ea oS b1=>?_)
   have hv:ea c13=some (.cells [int e.hour,int e.place,int el.cy,ints e.marks,int e.bd,int e.im]):=by rw[b1.2 c13 m0,ab.ai]
   have ec:R<H.length:=by omega
   obtain⟨h0,ed⟩:∃h0,h0=H[R]:=⟨_,rfl⟩;have tc:13<=h0/\h0<=16:=hZ _ (by rw[ed];exact ys ec)
   have hz:(H.map int)[R]?=some (int h0):=by rw[aaM,zA ec,ed];rfl
   have lj:sh=0\/sh=1\/sh=2:=by omega
   have gC:0<=sh/\sh<=2:=by omega
   have lp:f0.aU<=f0.dD:=Z.to.1;have wm:0<=f0.aU/\f0.dD<=2:=⟨Z.fr.1,Z.to.2⟩
   have hA:∀x,bg c nums (k+60+16*j+13) (ea.set c13 x):=λx=>by obtain⟨n,z,g1,g2⟩:=b1.1;exact⟨n,z,by omega,by rw[ab.ah _ _ (zs m0)];exact g2⟩
   have hB:∀y,y≠c->y≠c13->ea y=σ' y:=λy Y y2=>by rw[b1.2 y Y,ab.ah _ _ y2,bB y Y]
   have td:ks.length<1000000:=by rw[O.len];omega
   apply xV (I:=λenv σ6=>∃b,env 0=.ref c 0/\env 4=.ref X 0/\env 6=.ref P 0/\env 7=.gK Q 0 i cap/\env 8=ints H/\env 10=hh/\env 11=int ((qn:Int)-j)/\env 12=int R/\env 13=.ref c13 0/\env 80=bool b/\bg c nums (k+60+16*j+14) σ6/\σ6 c13=some (.cells [int e.hour,int e.place,int el.cy,ints e.marks,int h0,int sh])/\(∀y,y≠c->y≠c13->σ6 y=σ' y)/\(b=true->sh≠0)/\(b=false->sh≠1))
   . intro T
     rcases lj with rfl|rfl|rfl
     . refine aa.runN lay [] 28 ?_
       simp[D,G,E,F,J,cu,bH,o.1,o.2,d.1,d.2,hv,hz,ec,aI,<-ed]
       refine T _ _ ⟨false,by simp[D,G,E,F,J,cu,bH,o.1,o.2,d.1,d.2],by simp[D,G,E,F,J,cu,bH,o.1,o.2,d.1,d.2],by simp[D,G,E,F,J,cu,bH,o.1,o.2,d.1,d.2],by simp[D,G,E,F,J,cu,bH,o.1,o.2,d.1,d.2],by simp[D,G,E,F,J,cu,bH,o.1,o.2,d.1,d.2],by simp[D,G,E,F,J,cu,bH,o.1,o.2,d.1,d.2],by simp[D,G,E,F,J,cu,bH,o.1,o.2,d.1,d.2],by simp[D,G,E,F,J,cu,bH,o.1,o.2,d.1,d.2],by simp[D,G,E,F,J,cu,bH,o.1,o.2,d.1,d.2],by simp[D,G,E,F,J,cu,bH,o.1,o.2,d.1,d.2],(hA _).mono (by omega),ab.ai _ _ _,λy Y y2=>by rw[ab.ah _ _ y2];exact hB y Y y2,by simp⟩
     . refine aa.runN lay [] 28 ?_
       simp[D,G,E,F,J,cu,bH,o.1,o.2,d.1,d.2,hv,hz,ec,aI,<-ed]
       refine T _ _ ⟨true,by simp[D,G,E,F,J,cu,bH,o.1,o.2,d.1,d.2],by simp[D,G,E,F,J,cu,bH,o.1,o.2,d.1,d.2],by simp[D,G,E,F,J,cu,bH,o.1,o.2,d.1,d.2],by simp[D,G,E,F,J,cu,bH,o.1,o.2,d.1,d.2],by simp[D,G,E,F,J,cu,bH,o.1,o.2,d.1,d.2],by simp[D,G,E,F,J,cu,bH,o.1,o.2,d.1,d.2],by simp[D,G,E,F,J,cu,bH,o.1,o.2,d.1,d.2],by simp[D,G,E,F,J,cu,bH,o.1,o.2,d.1,d.2],by simp[D,G,E,F,J,cu,bH,o.1,o.2,d.1,d.2],by simp[D,G,E,F,J,cu,bH,o.1,o.2,d.1,d.2],(hA _).mono (by omega),ab.ai _ _ _,λy Y y2=>by rw[ab.ah _ _ y2];exact hB y Y y2,by simp⟩
     refine aa.runN lay [] 28 ?_;simp[D,G,E,F,J,cu,bH,o.1,o.2,d.1,d.2,hv,hz,ec,aI,<-ed];refine cf Tryz.func33 rfl (yS (by omega) hn ⟨by omega,by omega⟩ (hA _) λb σ6 hD=>?_)
     refine aa.runN lay [] 3 ?_;simp[D,G,E,F,J,cu,bH,o.1,o.2,d.1,d.2]
     refine T _ _ ⟨b,by simp[D,G,E,F,J,cu,bH,o.1,o.2,d.1,d.2],by simp[D,G,E,F,J,cu,bH,o.1,o.2,d.1,d.2],by simp[D,G,E,F,J,cu,bH,o.1,o.2,d.1,d.2],by simp[D,G,E,F,J,cu,bH,o.1,o.2,d.1,d.2],by simp[D,G,E,F,J,cu,bH,o.1,o.2,d.1,d.2],by simp[D,G,E,F,J,cu,bH,o.1,o.2,d.1,d.2],by simp[D,G,E,F,J,cu,bH,o.1,o.2,d.1,d.2],by simp[D,G,E,F,J,cu,bH,o.1,o.2,d.1,d.2],by simp[D,G,E,F,J,cu,bH,o.1,o.2,d.1,d.2],by simp[D,G,E,F,J,cu,bH,o.1,o.2,d.1,d.2],hD.1,by rw[hD.2 c13 m0,ab.ai],λy Y y2=>by rw[hD.2 y Y,ab.ah _ _ y2];exact hB y Y y2,by simp⟩
   clear D G E F J cu bH
   rintro env σ6 ⟨b,D,G,E,F,J,cu,bH,fa,K,fx,b2,a9,aC,lA,lB⟩
   apply xV (I:=λenv σ6=>∃ht,env 0=.ref c 0/\env 4=.ref X 0/\env 6=.ref P 0/\env 7=.gK Q 0 i cap/\env 8=ints H/\env 10=hh/\env 11=int ((qn:Int)-j)/\env 12=int R/\env 13=.ref c13 0/\env 95=int (pT ks R)/\bg c nums (k+60+16*j+15) σ6/\σ6 c13=some (.cells [int e.hour,int e.place,int el.cy,ints e.marks,int ht,int sh])/\(∀y,y≠c->y≠c13->σ6 y=σ' y)/\((sh≠1/\ht=h0)\/(sh≠0/\∃y,f0.aU<=y/\y<=f0.dD/\ht=h0+y)))
   . intro T
     have hW:Wl [hh,int R] [ints ks,int R]:=.cons (by simpa using eb.W) (.cons (.refl _) .nil)
     cases b
     . apply rn
       simp[D,G,E,F,J,cu,bH,fa,K,fx];refine bp Tryz.func21 rfl rfl hW (lR (by omega) ?_)
       refine T _ _ ⟨h0,?_,?_,?_,?_,?_,?_,?_,?_,?_,?_,b2.mono (by omega),a9,aC,.inl ⟨lB rfl,rfl⟩⟩<;>simp[D,G,E,F,J,cu,bH,fa,K,fx]
     have v6:σ6 P=some (.cells [a,rows f0.roads,int f0.aU,int f0.dD,int f0.cJ,int i]):=by rw[aC P n6 (zs m6)];exact a7
     have wK:=Z.fr;have ej:=Z.to;apply rn;simp[D,G,E,F,J,cu,bH,fa,K,fx,a9,v6,aI]
     repeat' (first
               |apply And.intro
               | (refine cf Tryz.func13 rfl (fY (by omega) hn ⟨by omega,by omega⟩ ⟨by omega,by omega⟩ b2 λy S hy hE=>?_)
                  have pb:S c13=some (.cells [int e.hour,int e.place,int el.cy,ints e.marks,int h0,int sh]):=by rw[hE.2 c13 m0];exact a9
                  have f4:-9223372036854775808<=h0+y/\h0+y<=9223372036854775807:=by omega
                  apply pg;simp[D,G,E,F,J,cu,bH,fa,K,pb,f4.1,f4.2,aI];apply rn;simp[D,G,E,F,J,cu,bH,fa,K];refine bp Tryz.func21 rfl rfl hW (lR (by omega) ?_)
                  refine T _ _ ⟨h0+y,by simp[D],by simp[G],by simp[E],by simp[F],by simp[J],by simp[cu],by simp[bH],by simp[fa],by simp[K],by simp,?_,ab.ai _ _ _,λz Y y2=>by rw[ab.ah _ _ y2,hE.2 z Y];exact aC z Y y2,.inr ⟨lA rfl,y,by omega,by omega,rfl⟩⟩
                  obtain⟨n,z,g1,g2⟩:=hE.1;exact⟨n,z,by omega,by rw[ab.ah _ _ (zs m0)];exact g2⟩))
   clear b2 a9 aC D G E F J cu bH fa K fx lA lB
   rintro env σ6 ⟨ht,D,G,E,F,J,cu,bH,fa,K,ad,b2,a9,aC,m1⟩
   have hF:0<=ht/\ht<=30:=by rcases m1 with⟨_,q⟩|⟨_,y,q1,q2,q3⟩<;>omega
   have aE:=Fr.pw (Z.fits (by omega)) (Z.check (by omega))
   have wL:∀x∈M,x.marks.length<=3:=λx hx=>(nC (fv x hx).marks).2
   have pd:=(nC he.marks).2;have tf:=(nC bm.marks).2;have m2:=he.place;have m3:=bm.place;have tm:=bm.hour;have md:=Z.cJ;apply xV (I:=λenv S=>∃hr,env 0=.ref c 0/\env 4=.ref X 0/\env 6=.ref P 0/\env 7=.gK Q 0 i cap/\env 8=ints H/\env 10=hh/\env 11=int ((qn:Int)-j)/\env 12=int R/\env 13=.ref c13 0/\bg c nums (k+60+16*j+16) S/\S c13=some (.cells [int hr,int e.place,int el.cy,ints e.marks,int ht,int sh])/\(∀y,y≠c->y≠c13->S y=σ' y)/\(0<=hr/\hr<=1000)/\((R:Int)∈ks->QN f1 el {e with hour:=hr}))
   . intro T
     by_cases hG:(R:Int)∈ks
     . have q2:pT ks R>=0:=(iS ks R).2 hG
       obtain⟨rw,cm⟩:∃rw,rw=f0.roads[el.place.toNat]'(by omega):=⟨_,rfl⟩
       have gD:=aE.row (i:=el.place.toNat) (by omega)
       rw[<-cm]at gD;have cr:e.place.toNat<rw.length:=by omega
       obtain⟨r,fO⟩:∃r,r=rw[e.place.toNat]:=⟨_,rfl⟩;have wN:=gD.2 r (by rw[fO];exact ys cr)
       have b3:el.place.toNat<f0.roads.length:=by omega
       have pk:(f0.roads.map ints)[el.place.toNat]?=some (ints rw):=by rw[aaM,zA b3,cm];rfl
       have hr:(rw.map int)[e.place.toNat]?=some (int r):=by rw[aaM,zA cr,fO];rfl
       have mf:=cr;obtain⟨ch,hH⟩:∃ch,ch=YQ el.marks e.marks:=⟨_,rfl⟩
       have eN:0<=ch/\ch<=6:=by have q1:=qA el.marks e.marks;have q2:=qA e.marks el.marks;rw[hH];unfold YQ;omega
       have wS:0<=f0.cJ*ch/\f0.cJ*ch<=24:=⟨Int.mul_nonneg (by omega) eN.1,adm (aej md.2 eN.2 eN.1 (by omega)) (by omega)⟩
       have mg:-9223372036854775808<=el.hour+r/\el.hour+r<=9223372036854775807:=by omega
       have mi:-9223372036854775808<=f0.cJ*ch/\f0.cJ*ch<=9223372036854775807:=by omega
       have mj:-9223372036854775808<=el.hour+r+f0.cJ*ch/\el.hour+r+f0.cJ*ch<=9223372036854775807:=by omega
       have hK:σ6 Q=some (.cells CL):=by rw[aC Q ay (zs ml),<-bB Q ay];exact wl
       have gG:σ6 P=some (.cells [a,rows f0.roads,int f0.aU,int f0.dD,int f0.cJ,int i]):=by rw[aC P n6 (zs m6)];exact a7
       refine aa.runN lay [] 3 ?_;simp[D,G,E,F,J,cu,bH,fa,K,ad,q2]
       obtain⟨V,hV⟩:∃V:Nat->AV,V=λj=>([.gK Q 0 i cap,int R,.ref Q (R*6),.ref Q (R*6),int el.hour,.ref P 1,rows f0.roads,.gK Q 0 i cap,int R,.ref Q (R*6),.ref Q (R*6+1),int el.place,.cp (ints rw) 0,ints rw,.ref c13 1,int e.place,.cp (int r) 0,int r,int (el.hour+r),.ref P 4,int f0.cJ,.gK Q 0 i cap,int R,.ref Q (R*6),.ref Q (R*6+3),ints el.marks,.ref c13 3,ints e.marks,int ch,int (f0.cJ*ch),int (el.hour+r+f0.cJ*ch),.ref c 0,.sl 1 (([0,0,1,3]:afe).map int) .exact,int 0,int 0,.ref c13 0]:afk).getD j (int 0):=⟨_,rfl⟩
       have w:∀j,V j=_:=λj=>congrFun hV j
       refine aa.SP (KI V (env.upd 96 (bool true)) σ6 c c13 (k+60+16*j+16) nums (el.hour+r+f0.cJ*ch) (λz=>[int z,int e.place,int el.cy,ints e.marks,int ht,int sh])) lay.mixed (by rfl) ⟨λ_ _=>rfl,by simp,λ_=>rfl,by simp,by simp,by simp,by simp,by simp⟩ ?_ ?_
       . intro done i u S N B mm A
         have mm:i<37:=mm
         rcases(show i=0\/i=1\/i=2\/i=3\/i=4\/i=5\/i=6\/i=7\/i=8\/i=9\/i=10\/i=11\/i=12\/i=13\/i=14\/i=15\/i=16\/i=17\/i=18\/i=19\/i=20\/i=21\/i=22\/i=23\/i=24\/i=25\/i=26\/i=27\/i=28\/i=29\/i=30\/i=31\/i=32\/i=33\/i=34\/i=35\/i=36 by omega)with rfl|rfl|rfl|rfl|rfl|rfl|rfl|rfl|rfl|rfl|rfl|rfl|rfl|rfl|rfl|rfl|rfl|rfl|rfl|rfl|rfl|rfl|rfl|rfl|rfl|rfl|rfl|rfl|rfl|rfl|rfl|rfl|rfl|rfl|rfl|rfl|rfl
         . have b7:u 7=.gK Q 0 i cap:=(A.base 7 (by omega)).trans F
           refine bD lay (mu:=[]) ?_;simp[b7];exact A.next (i:=0) (by omega) B (by omega) (by omega) ((w 0).symm)
         . have eR:u 12=int R:=(A.base 12 (by omega)).trans fa
           refine bD lay (mu:=[]) ?_;simp[eR];exact A.next (i:=1) (by omega) B (by omega) (by omega) ((w 1).symm)
         . have d0:u 97=.gK Q 0 i cap:=(A.eQ 0 (N 0 (by rfl)) (by omega) (by omega) (by omega)).trans (w 0)
           have d1:u 98=int R:=(A.eQ 1 (N 1 (by rfl)) (by omega) (by omega) (by omega)).trans (w 1)
           refine bD lay (mu:=[]) ?_;simp[d0,d1,bA];exact A.next (i:=2) (by omega) B (by omega) (by omega) ((w 2).symm)
         . have d2:u 99=.ref Q (R*6):=(A.eQ 2 (N 2 (by rfl)) (by omega) (by omega) (by omega)).trans (w 2)
           refine bD lay (mu:=[]) ?_;simp[d2];exact A.next (i:=3) (by omega) B (by omega) (by omega) ((w 3).symm)
         . have d3:u 100=.ref Q (R*6):=(A.eQ 3 (N 3 (by rfl)) (by omega) (by omega) (by omega)).trans (w 3)
           have kl:=A.keep (by omega) B (y:=Q) ay;rw[hK]at kl
           refine bD lay (mu:=[]) ?_;simp[kl,l4,d3];exact A.next (i:=4) (by omega) B (by omega) (by omega) ((w 4).symm)
         . have b6:u 6=.ref P 0:=(A.base 6 (by omega)).trans E
           refine bD lay (mu:=[]) ?_;simp[b6];exact A.next (i:=5) (by omega) B (by omega) (by omega) ((w 5).symm)
         . have d5:u 102=.ref P 1:=(A.eQ 5 (N 5 (by rfl)) (by omega) (by omega) (by omega)).trans (w 5)
           have k6:=A.keep (by omega) B (y:=P) n6;rw[gG]at k6
           refine bD lay (mu:=[]) ?_;simp[k6,d5];exact A.next (i:=6) (by omega) B (by omega) (by omega) ((w 6).symm)
         . have b7:u 7=.gK Q 0 i cap:=(A.base 7 (by omega)).trans F
           refine bD lay (mu:=[]) ?_;simp[b7];exact A.next (i:=7) (by omega) B (by omega) (by omega) ((w 7).symm)
         . have eR:u 12=int R:=(A.base 12 (by omega)).trans fa
           refine bD lay (mu:=[]) ?_;simp[eR];exact A.next (i:=8) (by omega) B (by omega) (by omega) ((w 8).symm)
         . have d7:u 104=.gK Q 0 i cap:=(A.eQ 7 (N 7 (by rfl)) (by omega) (by omega) (by omega)).trans (w 7)
           have d8:u 105=int R:=(A.eQ 8 (N 8 (by rfl)) (by omega) (by omega) (by omega)).trans (w 8)
           refine bD lay (mu:=[]) ?_;simp[d7,d8,bA];exact A.next (i:=9) (by omega) B (by omega) (by omega) ((w 9).symm)
         . have d9:u 106=.ref Q (R*6):=(A.eQ 9 (N 9 (by rfl)) (by omega) (by omega) (by omega)).trans (w 9)
           refine bD lay (mu:=[]) ?_;simp[d9];exact A.next (i:=10) (by omega) B (by omega) (by omega) ((w 10).symm)
         . have ps:u 107=.ref Q (R*6+1):=(A.eQ 10 (N 10 (by rfl)) (by omega) (by omega) (by omega)).trans (w 10)
           have kl:=A.keep (by omega) B (y:=Q) ay;rw[hK]at kl
           refine bD lay (mu:=[]) ?_;simp[kl,l5,ps];exact A.next (i:=11) (by omega) B (by omega) (by omega) ((w 11).symm)
         . have d6:u 103=rows f0.roads:=(A.eQ 6 (N 6 (by rfl)) (by omega) (by omega) (by omega)).trans (w 6)
           have pA:u 108=int el.place:=(A.eQ 11 (N 11 (by rfl)) (by omega) (by omega) (by omega)).trans (w 11)
           refine bD lay (mu:=[]) ?_;simp[d6,pA,pk,b3];refine⟨m3.1,?_⟩;rw[<-cm];exact A.next (i:=12) (by omega) B (by omega) (by omega) ((w 12).symm)
         . have pB:u 109=.cp (ints rw) 0:=(A.eQ 12 (N 12 (by rfl)) (by omega) (by omega) (by omega)).trans (w 12)
           refine bD lay (mu:=[]) ?_;simp[pB];exact A.next (i:=13) (by omega) B (by omega) (by omega) ((w 13).symm)
         . have eW:u 13=.ref c13 0:=(A.base 13 (by omega)).trans K
           refine bD lay (mu:=[]) ?_;simp[eW];exact A.next (i:=14) (by omega) B (by omega) (by omega) ((w 14).symm)
         . have pO:u 111=.ref c13 1:=(A.eQ 14 (N 14 (by rfl)) (by omega) (by omega) (by omega)).trans (w 14)
           have c5:=A.keep (by omega) B (y:=c13) m0;rw[a9]at c5
           refine bD lay (mu:=[]) ?_;simp[c5,pO];exact A.next (i:=15) (by omega) B (by omega) (by omega) ((w 15).symm)
         . have q0:u 110=ints rw:=(A.eQ 13 (N 13 (by rfl)) (by omega) (by omega) (by omega)).trans (w 13)
           have q5:u 112=int e.place:=(A.eQ 15 (N 15 (by rfl)) (by omega) (by omega) (by omega)).trans (w 15)
           refine bD lay (mu:=[]) ?_;simp[q0,q5,hr,mf];refine⟨m2.1,?_⟩;rw[<-fO];exact A.next (i:=16) (by omega) B (by omega) (by omega) ((w 16).symm)
         . have q7:u 113=.cp (int r) 0:=(A.eQ 16 (N 16 (by rfl)) (by omega) (by omega) (by omega)).trans (w 16)
           refine bD lay (mu:=[]) ?_;simp[q7];exact A.next (i:=17) (by omega) B (by omega) (by omega) ((w 17).symm)
         . have d4:u 101=int el.hour:=(A.eQ 4 (N 4 (by rfl)) (by omega) (by omega) (by omega)).trans (w 4)
           have q9:u 114=int r:=(A.eQ 17 (N 17 (by rfl)) (by omega) (by omega) (by omega)).trans (w 17)
           refine bD lay (mu:=[]) ?_;simp[d4,q9,mg.1,mg.2];exact A.next (i:=18) (by omega) B (by omega) (by omega) ((w 18).symm)
         . have b6:u 6=.ref P 0:=(A.base 6 (by omega)).trans E
           refine bD lay (mu:=[]) ?_;simp[b6];exact A.next (i:=19) (by omega) B (by omega) (by omega) ((w 19).symm)
         . have qb:u 116=.ref P 4:=(A.eQ 19 (N 19 (by rfl)) (by omega) (by omega) (by omega)).trans (w 19)
           have k6:=A.keep (by omega) B (y:=P) n6;rw[gG]at k6
           refine bD lay (mu:=[]) ?_;simp[k6,qb];exact A.next (i:=20) (by omega) B (by omega) (by omega) ((w 20).symm)
         . have b7:u 7=.gK Q 0 i cap:=(A.base 7 (by omega)).trans F
           refine bD lay (mu:=[]) ?_;simp[b7];exact A.next (i:=21) (by omega) B (by omega) (by omega) ((w 21).symm)
         . have eR:u 12=int R:=(A.base 12 (by omega)).trans fa
           refine bD lay (mu:=[]) ?_;simp[eR];exact A.next (i:=22) (by omega) B (by omega) (by omega) ((w 22).symm)
         . have qc:u 118=.gK Q 0 i cap:=(A.eQ 21 (N 21 (by rfl)) (by omega) (by omega) (by omega)).trans (w 21)
           have qe:u 119=int R:=(A.eQ 22 (N 22 (by rfl)) (by omega) (by omega) (by omega)).trans (w 22)
           refine bD lay (mu:=[]) ?_;simp[qc,qe,bA];exact A.next (i:=23) (by omega) B (by omega) (by omega) ((w 23).symm)
         . have qi:u 120=.ref Q (R*6):=(A.eQ 23 (N 23 (by rfl)) (by omega) (by omega) (by omega)).trans (w 23)
           refine bD lay (mu:=[]) ?_;simp[qi];exact A.next (i:=24) (by omega) B (by omega) (by omega) ((w 24).symm)
         . have qj:u 121=.ref Q (R*6+3):=(A.eQ 24 (N 24 (by rfl)) (by omega) (by omega) (by omega)).trans (w 24)
           have kl:=A.keep (by omega) B (y:=Q) ay;rw[hK]at kl
           refine bD lay (mu:=[]) ?_;simp[kl,l7,qj];exact A.next (i:=25) (by omega) B (by omega) (by omega) ((w 25).symm)
         . have eW:u 13=.ref c13 0:=(A.base 13 (by omega)).trans K
           refine bD lay (mu:=[]) ?_;simp[eW];exact A.next (i:=26) (by omega) B (by omega) (by omega) ((w 26).symm)
         . have qq:u 123=.ref c13 3:=(A.eQ 26 (N 26 (by rfl)) (by omega) (by omega) (by omega)).trans (w 26)
           have c5:=A.keep (by omega) B (y:=c13) m0;rw[a9]at c5
           refine bD lay (mu:=[]) ?_;simp[c5,qq];exact A.next (i:=27) (by omega) B (by omega) (by omega) ((w 27).symm)
         . have qs:u 122=ints el.marks:=(A.eQ 25 (N 25 (by rfl)) (by omega) (by omega) (by omega)).trans (w 25)
           have r6:u 124=ints e.marks:=(A.eQ 27 (N 27 (by rfl)) (by omega) (by omega) (by omega)).trans (w 27)
           refine bD lay (mu:=[]) ?_;simp[qs,r6];refine cf Tryz.func62 rfl (Jq (by omega) (by omega) ?_)
           apply pg;simp;exact A.next (i:=28) (by omega) B (by omega) (by omega) (by rw[w,hH];rfl)
         . have r9:u 117=int f0.cJ:=(A.eQ 20 (N 20 (by rfl)) (by omega) (by omega) (by omega)).trans (w 20)
           have ra:u 125=int ch:=(A.eQ 28 (N 28 (by rfl)) (by omega) (by omega) (by omega)).trans (w 28)
           refine bD lay (mu:=[]) ?_;simp[r9,ra,mi.1,mi.2];exact A.next (i:=29) (by omega) B (by omega) (by omega) ((w 29).symm)
         . have rb:u 115=int (el.hour+r):=(A.eQ 18 (N 18 (by rfl)) (by omega) (by omega) (by omega)).trans (w 18)
           have rh:u 126=int (f0.cJ*ch):=(A.eQ 29 (N 29 (by rfl)) (by omega) (by omega) (by omega)).trans (w 29)
           refine bD lay (mu:=[]) ?_;simp[rb,rh,mj.1,mj.2];exact A.next (i:=30) (by omega) B (by omega) (by omega) ((w 30).symm)
         . have b0:u 0=.ref c 0:=(A.base 0 (by omega)).trans D
           refine bD lay (mu:=[]) ?_;simp[b0];exact A.next (i:=31) (by omega) B (by omega) (by omega) ((w 31).symm)
         . refine bD lay (mu:=[]) ?_
           simp;exact A.next (i:=32) (by omega) B (by omega) (by omega) ((w 32).symm)
         . have ri:u 128=.ref c 0:=(A.eQ 31 (N 31 (by rfl)) (by omega) (by omega) (by omega)).trans (w 31)
           have rj:u 129=.sl 1 (([0,0,1,3]:afe).map int) .exact:=(A.eQ 32 (N 32 (by rfl)) (by omega) (by omega) (by omega)).trans (w 32)
           refine bD lay (mu:=[]) ?_;simp[ri,rj];have rm:=A.pre B;subst rm;have rr:34∉done:=λq=>B (A.dep q)
           refine cf Tryz.func63 rfl (po (l:=[0,0,1,3]) (by omega) hn ⟨by decide,by decide⟩ b2 λp x0 hp mw=>?_)
           apply pg;simp;exact A.VA B rr (p:=p) (by simp at hp;omega) (mw.1.mono (by omega)) mw.2
         . have rF:u 127=int (el.hour+r+f0.cJ*ch):=(A.eQ 30 (N 30 (by rfl)) (by omega) (by omega) (by omega)).trans (w 30)
           have c7:=N 33 (by rfl)
           obtain⟨p,hp,H9,_⟩:=A.pick c7;have mx:-9223372036854775808<=el.hour+r+f0.cJ*ch+p/\el.hour+r+f0.cJ*ch+p<=9223372036854775807:=by omega
           refine bD lay (mu:=[]) ?_;simp[rF,H9,mx.1,mx.2];exact A.summed B c7 hp H9
         . have eW:u 13=.ref c13 0:=(A.base 13 (by omega)).trans K
           refine bD lay (mu:=[]) ?_;simp[eW];exact A.next (i:=35) (by omega) B (by omega) (by omega) ((w 35).symm)
         have rG:u 132=.ref c13 0:=(A.eQ 35 (N 35 (by rfl)) (by omega) (by omega) (by omega)).trans (w 35)
         have c7:=N 33 (by rfl)
         have rM:=N 34 (by rfl)
         obtain⟨p,hp,H9,Ia⟩:=A.pick c7;have Ia:=Ia rM;obtain⟨rT,gU⟩:=A.post c7 B;have c5:=(gU c13 m0).trans a9;refine bD lay (mu:=[]) ?_;simp[rG,Ia,c5,aI]
         refine⟨A.base,λj hj g3 g4 g5=>A.eQ j ((aaw.1 hj).resolve_left (by omega)) g3 g4 g5,λq=>absurd (adu _ c7) q,λ_ q=>absurd (aek ..) q,λ_=>⟨p,hp,H9,λ_=>Ia⟩,λ_ j hj=>adu _ (N j ((by decide:∀j:Fin 36,kL _ j.val 36=true) ⟨j,hj⟩)),λ_=>adu _ c7,λ_=>⟨p,hp,?_,ab.ai _ _ _,λy Y y2=>by rw[ab.ah _ _ y2];exact gU y Y⟩⟩
         obtain⟨n,z,g1,g2⟩:=rT;exact⟨n,z,g1,by rw[ab.ah _ _ (zs m0)];exact g2⟩
       intro done tr S mA A;obtain⟨p,hp,g1,g2,g3⟩:=A.fin (mA 36 (by decide))
       have hb:=λ(t:Nat) (ht:t<96)=>(A.base t (by omega)).trans (m7 (env:=env) (v:=bool true) (show t≠96 by omega))
       refine T _ _ ⟨el.hour+r+f0.cJ*ch+p,(hb 0 (by omega)).trans D,(hb 4 (by omega)).trans G,(hb 6 (by omega)).trans E,(hb 7 (by omega)).trans F,(hb 8 (by omega)).trans J,(hb 10 (by omega)).trans cu,(hb 11 (by omega)).trans bH,(hb 12 (by omega)).trans fa,(hb 13 (by omega)).trans K,g1,g2,λy Y y2=>(g3 y Y y2).trans (aC y Y y2),by omega,λ_=>?_⟩
       have s3:rd f1.roads el.place.toNat e.place.toNat=r:=by rw[eB];unfold rd;rw[zD,zD,zA b3,acm,<-cm,zA cr,<-fO];rfl
       have s4:f1.cJ=f0.cJ:=by rw[eB]
       unfold QN;rw[s3,s4,<-Hy bm.marks he.marks,<-hH];show r+f0.cJ*ch<=el.hour+r+f0.cJ*ch+p-el.hour;omega
     have q2:¬pT ks R>=0:=λq=>hG ((iS ks R).1 q)
     refine aa.runN lay [] 4 ?_;simp[D,G,E,F,J,cu,bH,fa,K,ad,q2];refine T _ _ ⟨e.hour,by simp[D,G,E,F,J,cu,bH,fa,K,ad],by simp[D,G,E,F,J,cu,bH,fa,K,ad],by simp[D,G,E,F,J,cu,bH,fa,K,ad],by simp[D,G,E,F,J,cu,bH,fa,K,ad],by simp[D,G,E,F,J,cu,bH,fa,K,ad],by simp[D,G,E,F,J,cu,bH,fa,K,ad],by simp[D,G,E,F,J,cu,bH,fa,K,ad],by simp[D,G,E,F,J,cu,bH,fa,K,ad],by simp[D,G,E,F,J,cu,bH,fa,K,ad],b2.mono (by omega),a9,aC,by have:=he.hour;omega,λq=>absurd q hG⟩
   clear b2 a9 aC D G E F J cu bH fa K ad
   rintro env S ⟨hr,D,G,E,F,J,cu,bH,fa,K,mB,a9,ee,s5,n2⟩
   have s6:σ.del c c13=none:=by
    cases hx:σ.del c c13 with
    |none=>rfl
    |some x=>have:=b9.1 _ _ hx;rw[<-bB c13 m0,l3]at this;cases this
   have b8:(σ.del c).Le S:=λy x hy=>by
    have Y:y≠c:=λe=>by subst e;rw[b4]at hy;cases hy
    have y2:y≠c13:=λe=>by subst e;rw[s6]at hy;cases hy
    rw[ee y Y y2];exact b9.1 y x hy
   have hL:∀b x,σ' b=some x->(∀l,x≠.cells l)->S b=σ' b:=λb x hb hx=>by
    refine ee b (λe=>?_) λe=>?_
    . rw[e]at hb;obtain⟨_,_,_,q⟩:=h7;rw[q]at hb;cases hb;exact hx _ rfl
    rw[e,<-bB c13 m0,l3]at hb;cases hb
   have cv:Tok (σ.del c) S a 6 (es.map bj):=wj b9 b8 λb hb=>by obtain⟨g1,l,g2⟩:=b9.aV hb;exact⟨hL b _ g2 (by simp),g1⟩
   have dj:Tok (σ.del c) S hh 1 (ks.map int):=wj eb b8 λb hb=>by obtain⟨g1,l,g2⟩:=eb.aV hb;exact⟨hL b _ g2 (by simp),g1⟩
   have t4:S X=some (.cells iw):=by rw[ee X bw (zs m4)];exact q4
   have t6:S P=some (.cells (A6 a)):=by rw[ee P n6 (zs m6)];exact q6
   have tl:S Q=some (.cells (flatten (M.map bj)++rest)):=by rw[ee Q ay (zs ml)];exact ql
   clear b9 eb q4 q6 ql a7 ee hL
   rcases aew 72 hr with n3|n3
   . apply rn
     simp[D,G,E,F,J,cu,bH,fa,K,a9,n3,f3.1,f3.2];refine ih _ g1 ⟨_,S,a,hh,M,es,ks,rfl,by simp[D,G,E,F,J,cu,bH,fa,K],by simp[D,G,E,F,J,cu,bH,fa,K],by simp[D,G,E,F,J,cu,bH,fa,K],by simp[D,G,E,F,J,cu,bH,fa,K],by simp[D,G,E,F,J,cu,bH,fa,K],by simp[D,G,E,F,J,cu,bH,fa,K],by simp;omega,mB.mono (by omega),t4,t6,tl,cv,dj,gA,O,fv,h8,by omega⟩
   have n5:¬hr>72:=by omega
   obtain⟨n1,n7⟩:∃n1:yz,n1=⟨hr,e.place,el.cy,e.marks,ht,sh⟩:=⟨_,rfl⟩;obtain⟨bq,gH⟩:∃bq,bq=flatten ((M.set R n1).map bj)++rest:=⟨_,rfl⟩;have n9:R*6+6<=CL.length:=by rw[eK,aam,gB];omega
   have nh:aI CL (R*6) [int hr,int e.place,int el.cy,ints e.marks,int ht,int sh]=bq:=by
    have:=Dk (k:=6) (M.map bj) R (bj n1) (by rw[aac];exact fw) ho rfl
    rw[gH,adF,<-this,eK];unfold aI;rw[List.take_append_of_le_length (by omega),List.drop_append_of_le_length (by rw[gB];simp;omega),n7]
    simp
   rw[<-eK]at tl;have b5:=cv.cells;have ts:=dj.cells;have nq:S P=some (.cells [a,rows f0.roads,int f0.aU,int f0.dD,int f0.cJ,int i]):=by rw[t6,ei]
   have x3:=zs ml;apply rn;simp[D,G,E,F,J,cu,bH,fa,K,a9,n5,tl,bA,nh,n9,ab.ah,h5.symm,ml,nq,b5.1,b5.2];subst n7;have s7:bt a≠some Q:=λe=>by obtain⟨_,_,q⟩:=cv.aV e;rw[tl]at q;cases q
   have nt:bt hh≠some Q:=λe=>by obtain⟨_,_,q⟩:=dj.aV e;rw[tl]at q;cases q
   have dm:Tok (σ.del c) (S.set Q (.cells bq)) a 6 (es.map bj):=cv.beside r1 s7;have nz:Tok (σ.del c) (S.set Q (.cells bq)) hh 1 (ks.map int):=dj.beside r1 nt;have v3:(es.map bj).length<=6:=by rw[aac];omega
   have v5:(ks.map int).length<=6:=by rw[aac,O.len];omega
   refine aN lay rfl rfl rfl nX rfl nX rfl Ap (by decide) (by simp;omega) (σ0:=(S.set Q (.cells bq)).off a) (es:=es.map bj) (xs:=[bj ⟨hr,e.place,el.cy,e.marks,ht,sh⟩]) (by simpa using dm.here.1) (.inr ⟨_,by simp;rfl⟩) λa' hO hP=>?_
   obtain⟨dr,s9⟩:=Fb nz dm (λb hb q=>gA b q hb) hP
   have gI:=hP.base dm.here.2;have k9:∀y l,(S.set Q (.cells bq)) y=some (.cells l)->hO y=some (.cells l):=λy l hy=>hP.1 _ _ (by rw[ab.dF (λe=>by obtain⟨_,_,q⟩:=dm.aV e;rw[hy]at q;cases q)];exact hy)
   have dx:=gI.cells;apply rn;simp[D,G,E,F,J,cu,bH,fa,K,dx.1,dx.2];refine aN lay rfl rfl rfl cK rfl cK rfl pQ (by decide) (by simp;omega) (σ0:=hO.off hh) (es:=ks.map int) (xs:=[int R]) (by simpa using dr.here.1) (.inr ⟨_,by simp;rfl⟩) λsg ax eX=>?_
   obtain⟨hR,ob⟩:=Fb gI dr (λb hb q=>s9 b q hb) eX
   have fc:=eX.base dr.here.2;have fg:=fc.cells;have gd:∀y l,hO y=some (.cells l)->ax y=some (.cells l):=λy l hy=>eX.1 _ _ (by rw[ab.dF (λe=>by obtain⟨_,_,q⟩:=dr.aV e;rw[hy]at q;cases q)];exact hy)
   have z6:ax P=some (.cells [a,rows f0.roads,int f0.aU,int f0.dD,int f0.cJ,int i]):=gd _ _ (k9 _ _ (by rw[ab.ah _ _ (zs h5)];exact nq))
   have z4:ax X=some (.cells iw):=gd _ _ (k9 _ _ (by rw[ab.ah _ _ (zs p8)];exact t4))
   have zl:ax Q=some (.cells bq):=gd _ _ (k9 _ _ (ab.ai _ _ _));apply rn;simp[D,G,E,F,J,cu,bH,fa,K,z6,aI,dx.1,dx.2,fg.1,fg.2,f3.1,f3.2];have oc:Rf f0.roads.length ⟨hr,e.place,el.cy,e.marks,ht,sh⟩:=⟨⟨s5.1,by omega⟩,he.place,bm.cy,he.marks,hF,gC⟩
   have oj:M.getD R uJ=el:=by rw[zD,zA fw,eA];rfl
   have ow:H.getD R 0=h0:=by rw[zD,zA ec,ed];rfl
   have gf:=O.push (k:=R) (n:=⟨hr,e.place,el.cy,e.marks,ht,sh⟩) bA (by rw[eB];exact oc.check) (by rw[oj]) (by rw[ow,eB];refine Rg lp gC ?_;exact m1) (λq=>by rw[oj];exact n2 q)
   have gP:∀{x:AV}{kk:Nat}{l:afk},Tok (σ.del c) ax x kk l->Tok (σ.del c) (ax.set P (.cells (A6 a'))) x kk l:=λ{x kk l} hx=>hx.beside oM (λe=>by obtain⟨_,_,q⟩:=hx.aV e;rw[z6]at q;cases q)
   refine ih _ g1 ⟨_,ax.set P (.cells (A6 a')),a',sg,M.set R ⟨hr,e.place,el.cy,e.marks,ht,sh⟩,es++[⟨hr,e.place,el.cy,e.marks,ht,sh⟩],ks++[(R:Int)],by rw[ei],by simp[D,G,E,F,J,cu,bH,fa,K],by simp[D,G,E,F,J,cu,bH,fa,K],by simp[D,G,E,F,J,cu,bH,fa,K],by simp[D,G,E,F,J,cu,bH,fa,K],by simp[D,G,E,F,J,cu,bH,fa,K],by simp[D,G,E,F,J,cu,bH,fa,K],by simp;omega,?_,?_,ab.ai _ _ _,?_,by have:=gP hR;simpa using this,by have:=gP fc;simpa using this,λb hb=>ob b hb,gf,λx hx=>?_,λx hx=>?_,by simp;omega⟩
   . obtain⟨n,z,g1,g2⟩:=mB
     exact⟨n,z,by omega,by rw[ab.ah _ _ (zs n6)];exact gd _ _ (k9 _ _ (by rw[ab.ah _ _ (zs ay)];exact g2))⟩
   . rw[ab.ah _ _ (zs fi)];exact z4
   . rw[ab.ah _ _ h5,zl,gH]
   . rcases adM hx with hx|rfl
     . exact fv x hx
     exact oc
   rcases aan.1 hx with hx|hx
   . exact h8 x hx
   simp at hx;subst hx;exact pd
 have si:j=qn:=by omega
 subst si;have sj:¬(j:Int)<j:=by omega
 apply rn;simp[D,G,E,F,J,cu,bH,o.1,o.2,d.1,d.2,sj,q4,a7,aI];obtain⟨nb,zb,hS,gR⟩:=h7;obtain⟨f,hf⟩:∃f:Fr,f=⟨es,f0.roads,f0.aU,f0.dD,f0.cJ,(i:Int)⟩:=⟨_,rfl⟩;have aE:=Fr.pw (Z.fits (by omega)) (Z.check (by omega))
 have so:Jr cnt f ks:=by
  have gj:=Z.fq;subst eB;subst hf;refine⟨⟨⟨by grind,aE.fits.roads,aE.fits.row,λe he=>by grind⟩,aE.fr,aE.to,aE.le,aE.cJ,by grind,by grind,λe he=>O.r7 e he,aE.Js⟩,by grind,by grind,λr hr=>?_,h8,by grind,i,C,H,M,⟨O.len,O.Ts,O.r7,O.cy,O.Rl,O.fit,O.lst,O.Kw,O.Vp⟩,rfl⟩
  obtain⟨t,ht,rfl⟩:=aaV.1 hr;exact aap (Nat.le_of_eq (aE.row (i:=t) ht).1) gj.2
 refine .px (a':=.bL [bF f,ints ks]) (QD rfl λi x y x1 x2=>?_) (.less (σ':=σ.set c (.cells [ints nums,int nb,.lit (.int .u64 zb)])) (λy x hy=>?_) (.done (h f ks _ so ⟨⟨nb,zb,by omega,ab.ai _ _ _⟩,λy hy=>ab.ah _ _ hy⟩)))
 . match i with
   | 0=>
     simp at x1 x2;subst x1;subst x2;refine nY (by grind) λi x y x1 x2=>?_
     subst hf
     match i with
     |0=>simp at x1 x2;subst x1;subst x2;exact b9.W
     |1=>simp at x1 x2;subst x1;subst x2;exact .refl _
     |2=>simp at x1 x2;subst x1;subst x2;exact .refl _
     |3=>simp at x1 x2;subst x1;subst x2;exact .refl _
     |4=>simp at x1 x2;subst x1;subst x2;exact .refl _
     |5=>simp at x1 x2;subst x1;subst x2;exact .refl _
     |i+6=>simp at x1
   |1=>simp at x1 x2;subst x1;subst x2;exact eb.W
   |i+2=>simp at x1
 by_cases Y:y=c
 . subst Y
   rw[ab.ai]at hy;rw[ab.ah _ _ n4,gR];exact hy
 rw[ab.ah _ _ Y]at hy;have y4:y≠X:=λe=>by grind
 rw[ab.ah _ _ y4];exact b9.1 y x (by simpa[ab.del,Y]using hy)
end
end
section
open Go.bN Go.Conc
theorem qY{α g}:∀{l:List α},(∀x∈l,g x=0)->eh g l=0
 |[],_=>rfl
 |a::l,h=>by rw[eh,Rp (h a (by simp))];exact qY λx q=>h x (by simp[q])
structure Rh  cnt  (w:cC) (own lost:afe):Prop where
 valid:w.Valid
 yl:fJ w=0
 len:(w.fair.az.length:Int)+w.aj.length<=cnt
 ZT:w.ways.length<=5
 lo:own.length=w.fair.az.length
 ll:lost.length=w.aj.length
 XF:∀e∈w.fair.az,e.marks.length<=3
 XG:∀c∈w.aj,c.lost.marks.length<=3
 rows:w.fair.roads.length<=3/\∀r∈w.fair.roads,r.length<=3
 ab8:∃v∈aJ (dS w) [],∀i j ,i<w.fair.az.length+w.aj.length->j<w.fair.az.length+w.aj.length->jl i j v=decide ((own++lost).getD i 0=(own++lost).getD j 0)
theorem Tr{cnt f p}(t:Jr cnt f p)(N:cnt<=6){w}{E C:afe}(z:∀i∈E++C,0<=i/\i<f.az.length)(hn:(E.length:Int)+C.length<=cnt)
 (W:w.fair.az=E.map (aP f)) (O:w.aj.map (·.lost)=C.map (aP f)) (y:w.fair.roads=f.roads) (m:w.fair.aU=f.aU) (n:w.fair.dD=f.dD) (hd:w.fair.cJ=f.cJ) (X:f.aX<=w.fair.aX/\w.fair.aX<=6)
 (P:1<=w.aF/\w.aF<=4) (Y:∀x∈w.ways,kF w.aF x=0) (F:w.ways.length<=5) (Z:w.aj.length<=3) (G:∀c∈w.aj,(0<=c.town/\c.town<w.aF)/\(0<=c.hour/\c.hour<=72)/\c.lost.hour<=c.hour):
 Rh cnt w (E.map λi=>p.getD i.toNat 0) (C.map λi=>p.getD i.toNat 0):=by
 have d:=t.pw;have l1:w.fair.az.length=E.length:=by simp_all
 have l2:w.aj.length=C.length:=by rw[<-List.length_map (f:=(·.lost)),O,aac]
 have A:∀e∈w.fair.az,e∈f.az:=λe q=>by rw[W]at q;obtain⟨i,I,rfl⟩:=aab.1 q;exact fS (z i (by simp[I]))
 have J:∀c∈w.aj,c.lost∈f.az:=λc q=>by have:c.lost∈w.aj.map (·.lost):=aab.2 ⟨c,q,rfl⟩;rw[O]at this;obtain⟨i,I,e⟩:=aab.1 this;rw[<-e];exact fS (z i (by simp[I]))
 have gen:∀es:List yz,(∀e∈es,e∈f.az)->es.length<=6->({w.fair with az:=es}:Fr).Good:=λes q ql=>by
  have K:=d.aX;refine⟨⟨by grind,by show w.fair.roads.length<_;rw[y];exact d.fits.roads,by show ∀r∈w.fair.roads,_;rw[y];exact d.fits.row,λe D=>d.fits.marks e (q e D)⟩,by rw[m];exact d.fr,by rw[n];exact d.to,by rw[m,n];exact d.le,by rw[hd];exact d.cJ,?_,ql,λe D=>?_,by show fT w.fair.roads=0;rw[y];exact d.Js⟩
  . grind
  . show bX w.fair.roads.length e=0
    rw[y];exact d.r7 e (q e D)
 have Q:w.fair.Good:=gen w.fair.az A (by omega)
 have R:∀c∈w.aj,(lone w.fair c.lost).Good:=λc q=>gen [c.lost] (λe D=>by simp_all) (by simp)
 have S:w.pv:=⟨Q.fits,Q.yl,λc q=>⟨(R c q).fits,(R c q).yl⟩,by omega,by omega⟩
 have h6:w.fair.az.length+w.aj.length<=6:=by omega
 have T:=gW S h6
 have B:mS f (dS w) (E++C):=⟨y,m,n,hd,X.1,z,by simp_all⟩
 obtain⟨mo,Cs,H,last,g,K⟩:=t.seen;obtain⟨v,s,h,hv⟩:=g.cN d (by omega)
 obtain⟨u,U,o⟩:=B.cN d T hv;have L:aJ (dS w) []≠[]:=adt U
 have V:fJ w=0:=by
  unfold fJ;have a1:bz w.aF 1 4=true:=by simp[bz,P.1,P.2]
  have a2:eh (uR w) w.aj=0:=qY λc q=>by
   have:=G c q;have e1:bz c.town 0 (w.aF-1)=true:=by simp only[bz,zj,zR];omega
   have e2:bz c.hour 0 72=true:=by simp only[bz,zj,zR];omega
   unfold uR
   simp_all
  have a3:=(wu T).2 L;rw[a1,qY Y,a2,KD (by simp),KD (by omega),KD (by simp),KD (by omega),KD (by simp),KD (by omega),KD (by omega)]
 have a7:p.length=f.az.length:=g.len;refine⟨cC.valid S V,V,by omega,F,by simp_all,by simp_all,λe q=>t.marks e (A e q),λc q=>t.marks _ (J c q),by rw[y];exact⟨t.fq,t.row⟩,u,U,λi j M hj=>?_⟩
 have hl:(E++C).length=w.fair.az.length+w.aj.length:=by simp_all
 rw[o i j (by omega) (by omega),<-List.map_append]
 have k:∀i:Nat,i<(E++C).length->((E++C).map λi=>p.getD i.toNat 0).getD i 0=p.getD ((E++C).getD i 0).toNat 0:=λi M=>by rw[zD,aaM,zA M,zD (l:=E++C),zA M];rfl
 rw[k i (by omega),k j (by omega)]
 have ri:=z _ (iO (l:=E++C) (i:=i) (by omega))
 have rj:=z _ (iO (l:=E++C) (i:=j) (by omega))
 generalize (E++C).getD i 0=a at *;generalize (E++C).getD j 0=b at *;have ea:a=(a.toNat:Int):=by omega
 have eb:b=(b.toNat:Int):=by omega
 rw[adB,zR];constructor
 . intro q
   rw[ea,eb]at q;have:=Bo h (by omega) (by omega) q
   omega
 . intro q
   have:=um h (i:=a.toNat) (j:=b.toNat) (by omega) (by omega) q
   grind
end
section
open Go Go.bN Go.Conc
variable{m:Mo}{σ:ab}{KF:aeQ}
def qB(σ0 σ:ab)(l:List (AV × Nat × List AV)):Prop:=σ0.Le σ/\(∀t∈l,Tok σ0 σ t.1 t.2.1 t.2.2)/\l.Pairwise λt a=>∀b,bt t.1=some b->bt a.1≠some b
theorem qB.head{σ0 σ a kk es l}(h:qB σ0 σ ((a,kk,es)::l)):Tok σ0 σ a kk es:=h.2.1 _ (aek)
theorem qB.perm{σ0 σ l l'}(h:qB σ0 σ l)(d:l.Perm l'):qB σ0 σ l':=⟨h.1,λt q=>h.2.1 t (d.mem_iff.2 q),(d.pairwise_iff λ{a b} q c e f=>q c f e).1 h.2.2⟩
theorem qB.Sz{σ0 σ σ2 l c}(h:qB σ0 σ l)(b:σ0 c=none)(d:∃l,σ c=some (.cells l))(a:∀y,y≠c->σ2 y=σ y):qB σ0 σ2 l:=⟨λy x f=>by rw[a y λe=>by simp_all];exact h.1 y x f,λt q=>tF (h.2.1 t q) b d a,h.2.2⟩
theorem qB.app{σ0 σ σ' a a' kk kk' es c l}(h:qB σ0 σ ((a,kk,es)::l))(d:Tok (σ.off a) σ' a' kk' c):qB σ0 σ' ((a',kk',c)::l)/\∀y x,σ y=some (.cells x)->σ' y=some (.cells x):=by
 have f:=h.head;obtain⟨j,k⟩:=aaK.1 h.2.2;have hb:=d.base f.here.2;have key:∀t∈l,Tok σ0 σ' t.1 t.2.1 t.2.2/\∀b,bt t.1=some b->bt a'≠some b:=λt q=>Fb (h.2.1 t (adu _ q)) f (λb g i=>j t q b i g) d
 refine⟨⟨hb.1,λt q=>?_,aaK.2 ⟨λt q b g i=>(key t q).2 b i g,k⟩⟩,λy x m=>d.1 _ _ ?_⟩
 . grind
 rw[ab.dF λe=>by obtain⟨_,_,q⟩:=f.aV e;simp_all];exact m
section
variable{c k:Nat}{nums:afe}
namespace WA
abbrev aak:aeV:=[⟨11,.take [0,2,3,8] false (.both 1 (.one 4 (.one 5 (.one 6 (.one 7 (.one 9 (.done)))))) (.one 4 (.both 1 (.one 5 (.one 6 (.one 7 (.one 9 (.done))))) (.one 5 (.both 1 (.one 6 (.one 7 (.one 9 (.done)))) (.one 6 (.take [1] true (.one 7 (.one 9 (.done))))))))))⟩,⟨18,.take [0,2,3,4,8,9,10,11,12,13,19] false (.both 1 (.both 5 (.take [6] false (.both 7 (.one 14 (.one 15 (.one 16 (.one 17 (.one 18 (.one 20 (.done))))))) (.one 14 (.one 7 (.one 15 (.one 16 (.one 17 (.one 18 (.one 20 (.done)))))))))) (.one 14 (.one 5 (.take [6] false (.one 7 (.one 15 (.one 16 (.one 17 (.one 18 (.one 20 (.done))))))))))) (.both 5 (.take [6] false (.both 1 (.both 7 (.one 14 (.one 15 (.one 16 (.one 17 (.one 18 (.one 20 (.done))))))) (.one 14 (.one 7 (.one 15 (.one 16 (.one 17 (.one 18 (.one 20 (.done))))))))) (.both 7 (.both 1 (.one 14 (.one 15 (.one 16 (.one 17 (.one 18 (.one 20 (.done))))))) (.one 14 (.both 1 (.one 15 (.one 16 (.one 17 (.one 18 (.one 20 (.done)))))) (.one 15 (.both 1 (.one 16 (.one 17 (.one 18 (.one 20 (.done))))) (.one 16 (.both 1 (.one 17 (.one 18 (.one 20 (.done)))) (.one 17 (.take [1] true (.one 18 (.one 20 (.done)))))))))))) (.one 14 (.both 1 (.one 7 (.one 15 (.one 16 (.one 17 (.one 18 (.one 20 (.done))))))) (.one 7 (.both 1 (.one 15 (.one 16 (.one 17 (.one 18 (.one 20 (.done)))))) (.one 15 (.both 1 (.one 16 (.one 17 (.one 18 (.one 20 (.done))))) (.one 16 (.both 1 (.one 17 (.one 18 (.one 20 (.done)))) (.one 17 (.take [1] true (.one 18 (.one 20 (.done)))))))))))))))) (.one 14 (.both 1 (.one 5 (.take [6] false (.one 7 (.one 15 (.one 16 (.one 17 (.one 18 (.one 20 (.done))))))))) (.one 5 (.take [6] false (.both 1 (.one 7 (.one 15 (.one 16 (.one 17 (.one 18 (.one 20 (.done))))))) (.one 7 (.both 1 (.one 15 (.one 16 (.one 17 (.one 18 (.one 20 (.done)))))) (.one 15 (.both 1 (.one 16 (.one 17 (.one 18 (.one 20 (.done))))) (.one 16 (.both 1 (.one 17 (.one 18 (.one 20 (.done)))) (.one 17 (.take [1] true (.one 18 (.one 20 (.done))))))))))))))))))⟩,⟨20,.take [0,1,3,6,7,8,9,10,13,14] false (.both 2 (.both 4 (.both 5 (.one 11 (.one 12 (.take [16] false (.one 15 (.done))))) (.one 11 (.one 5 (.one 12 (.take [16] false (.one 15 (.done))))))) (.one 11 (.one 4 (.one 5 (.one 12 (.take [16] false (.one 15 (.done)))))))) (.both 4 (.both 2 (.both 5 (.one 11 (.one 12 (.take [16] false (.one 15 (.done))))) (.one 11 (.one 5 (.one 12 (.take [16] false (.one 15 (.done))))))) (.one 11 (.one 2 (.one 5 (.one 12 (.take [16] false (.one 15 (.done)))))))) (.one 11 (.both 2 (.one 4 (.one 5 (.one 12 (.take [16] false (.one 15 (.done)))))) (.one 4 (.one 2 (.one 5 (.one 12 (.take [16] false (.one 15 (.done)))))))))))⟩]
theorem uo{cnt}(hk:k+600<1000000)(hn:nums.length<1152921504606846976)(c5:1<=cnt/\cnt<=6)(hb:bg c nums k σ)(h:∀  w   own lost  σ',Rh cnt w own lost->qZ c nums (k+600) σ σ'->KF (.val (.bL [bS w,ints own,ints lost])) σ'):aB prog m 11 [.ref c 0,int cnt] σ KF:=by
 obtain⟨n0,s0,_,fc⟩:=id hb;refine fs aak Tryz.func11 rfl (by kernel_rfl) ?_
 simp[Tryz.f11];refine bO.intro λH h4=>?_
 have n4:c≠H:=λe=>by simp_all
 have av:∀x,bg c nums k (σ.set H x):=λx=>⟨n0,s0,by assumption,by rw[ab.ah _ _ n4];exact fc⟩
 simp;refine cf Tryz.func32 rfl (Na (by omega) hn c5 (av _) λf U ee hS b3=>?_)
 refine aa.runN lay [] 6 ?_;simp;refine bO.intro λc7 h7=>?_
 simp[aI]
 change aa _ _ _ _ _ _ _ _ _
 refine aa.bf 7 (b:=c7) (bF f) (ab.ai _ _ _) (by simp) rfl ?_
 rw[dH h7];clear h7;apply rn;simp;refine bO.intro λG h9=>?_
 have u4:ee H=some (.cells [.nil,.nil,int 0,int 0,int 0,int 0,int 0,.nil,.nil]):=by rw[b3.2 H (zs n4),ab.ai]
 have n9:G≠c:=λe=>by subst e;obtain⟨_,_,_,q⟩:=b3.1;simp_all
 have a8:G≠H:=λe=>by simp_all
 simp[aI]
 have S:∀X,bg c nums (k+500) (ee.set G X):=λX=>by obtain⟨n,z,g1,g2⟩:=b3.1;exact⟨n,z,g1,by rw[ab.ah _ _ (zs n9)];exact g2⟩
 refine cf Tryz.func33 rfl (yS (by omega) hn (by omega) (S _) λon O b4=>?_)
 refine aa.runN lay [] 3 ?_;simp;obtain⟨M,hM⟩:∃M:Int,M=if on=true then 6 else f.aX:=⟨_,rfl⟩
 apply Lq
 . intro key
   have v9:O G=some (.cells [.nil,rows f.roads,int f.aU,int f.dD,int f.cJ,int f.aX,int 0,.nil,.nil]):=by rw[b4.2 G n9,ab.ai]
   have v4:O H=some (.cells [.nil,.nil,int 0,int 0,int 0,int 0,int 0,.nil,.nil]):=by rw[b4.2 H (zs n4),ab.ah _ _ (zs a8)];exact u4
   have vk:∀y,y≠c->y≠H->y≠G->O y=σ y:=λy y1 y2 y3=>by rw[b4.2 y y1,ab.ah _ _ y3,b3.2 y y1,ab.ah _ _ y2]
   cases on with
   | false=>
     simp;refine aa.runN lay [] 1 ?_;simp;refine aa.gN (λenv σ'=>env 0=.ref c 0/\env 7=.cp (bF f) 0/\env 8=ints U/\env 4=.ref H 0/\env 9=.ref G 0/\bg c nums (k+501) σ'/\σ' H=some (.cells [.nil,.nil,int 0,int 0,int 0,int 0,int 0,.nil,.nil])/\σ' G=some (.cells [.nil,rows f.roads,int f.aU,int f.dD,int f.cJ,int M,int 0,.nil,.nil])/\∀y,y≠c->y≠H->y≠G->σ' y=σ y) ?_ ?_
     . exact⟨by simp,by simp,by simp,by simp,by simp,b4.1,v4,by rw[hM];exact v9,vk⟩
     exact key
   | true=>
     simp;refine aa.runN lay [] 5 ?_;simp[v9,aI];obtain⟨n,z,g1,g2⟩:=b4.1;refine aa.gN (λenv σ'=>env 0=.ref c 0/\env 7=.cp (bF f) 0/\env 8=ints U/\env 4=.ref H 0/\env 9=.ref G 0/\bg c nums (k+501) σ'/\σ' H=some (.cells [.nil,.nil,int 0,int 0,int 0,int 0,int 0,.nil,.nil])/\σ' G=some (.cells [.nil,rows f.roads,int f.aU,int f.dD,int f.cJ,int M,int 0,.nil,.nil])/\∀y,y≠c->y≠H->y≠G->σ' y=σ y) ?_ ?_
     . exact⟨by simp,by simp,by simp,by simp,by simp,⟨n,z,g1,by rw[ab.ah _ _ (zs n9)];exact g2⟩,by rw[ab.ah _ _ (zs a8)];exact v4,by rw[hM];exact ab.ai _ _ _,λy y1 y2 y3=>by rw[ab.ah _ _ y3];exact vk y y1 y2 y3⟩
     exact key
 have fg:f.aX<=M/\M<=6:=by have:=hS.pw.aX;omega
 have s9:σ G=none:=by rw[<-h9,b3.2 G n9,ab.ah _ _ a8]
 rintro env eg ⟨v,A,B,D,F,bm,u4,u9,fi⟩
 apply rn;simp[v,A,B,D,F,u9];refine cf Tryz.func13 rfl (fY (by omega) hn (by omega) (by omega) bm λT bq hT a9=>?_)
 have fj:1<=T/\T<=4:=by omega
 have v9:bq G=some (.cells [.nil,rows f.roads,int f.aU,int f.dD,int f.cJ,int M,int 0,.nil,.nil]):=by rw[a9.2 G n9];exact u9
 apply rn;simp[v,A,B,D,F,v9,aI]
 have fl:∀X,bg c nums (k+502) (bq.set G X):=λX=>by obtain⟨n,z,g1,g2⟩:=a9.1;exact⟨n,z,by omega,by rw[ab.ah _ _ (zs n9)];exact g2⟩
 refine cf Tryz.func16 rfl (fE (by omega) hn (by omega) (fl _) λx ad hx bw=>?_)
 have gl:0<=x/\x<=5:=by omega
 obtain⟨X,hX⟩:∃X:Nat,(X:Int)=x:=⟨x.toNat,by omega⟩
 apply rn;simp[v,A,B,D,F,v9]
 have ej:(σ.del c).Le ad:=λy z hy=>by
  have y1:y≠c:=λe=>by subst e;simp[ab.del]at hy
  have y0:σ y=some z:=by simpa[ab.del,y1]using hy
  have y4:y≠H:=λe=>by simp_all
  have y9:y≠G:=λe=>by simp_all
  rw[bw.2 y y1,ab.ah _ _ y9,a9.2 y y1,fi y y1 y4 y9];exact y0
 have ep:qB (σ.del c) ad [(.nil,5,([]:afg).map eM)]:=⟨ej,λt q=>by rw[lb.1 q];exact⟨ej,.inl ⟨rfl,rfl⟩⟩,List.pairwise_singleton _ _⟩
 have et:bg c nums (k+503+7*0) ad:=bw.1.mono (by omega)
 refine Lq (P:=?P2) (λkey=>?f2) ?p2
 case f2=>
  refine aa.loop X (λj s=>∃env σ' aw ws,s=⟨env,σ',[],.no⟩/\(env 0=.ref c 0/\env 7=.cp (bF f) 0/\env 8=ints U/\env 4=.ref H 0/\env 9=.ref G 0/\env 10=int (X-j))/\bg c nums (k+503+7*j) σ'/\σ' H=some (.cells [.nil,.nil,int 0,int 0,int 0,int 0,int 0,.nil,.nil])/\σ' G=some (.cells [.nil,rows f.roads,int f.aU,int f.dD,int f.cJ,int M,int T,aw,.nil])/\qB (σ.del c) σ' [(aw,5,(ws:afg).map eM)]/\ws.length<=j/\∀x∈ws,kF T x=0) ?_ ?_
  . exact⟨_,_,.nil,[],rfl,by simp[v,A,B,D,F,v9,hX],et,by rw[bw.2 H (zs n4),ab.ah _ _ (zs a8),a9.2 H (zs n4)];exact u4,by rw[bw.2 G n9,ab.ai],ep,by simp⟩
  rintro c0 j _ hj ⟨env,σ',aw,ws,rfl,⟨v,A,B,D,F,cu⟩,bA,q4,V,J,fp,b5⟩ ih
  have a7:=J.head.cells;apply rn;simp[v,A,B,D,F,cu,V,a7.1,a7.2];refine tL.intro (λg1=>?_) (λg1=>?_)<;>(try simp[-Nat.not_lt,-Nat.not_le]at g1)<;>(try simp[v,A,B,D,F,cu,V,a7.1,a7.2,g1])
  rotate_left
  . have cb:k+503+7*j<=k+540:=by omega
    have cg:ws.length<=5:=by omega
    refine aa.gN (λenv σ'=>∃aw ws,env 0=.ref c 0/\env 7=.cp (bF f) 0/\env 8=ints U/\env 4=.ref H 0/\env 9=.ref G 0/\env 11=.nil/\env 12=.nil/\env 13=int 0/\bg c nums (k+540) σ'/\σ' H=some (.cells [.nil,.nil,int 0,int 0,int 0,int 0,int 0,.nil,.nil])/\σ' G=some (.cells [.nil,rows f.roads,int f.aU,int f.dD,int f.cJ,int M,int T,aw,.nil])/\qB (σ.del c) σ' [(aw,5,(ws:afg).map eM)]/\ws.length<=5/\∀x∈ws,kF T x=0) ?_ ?_
    . refine⟨aw,ws,?_,?_,?_,?_,?_,?_,?_,?_,bA.mono cb,q4,V,J,cg,b5⟩<;>simp[v,A,B,D,F,cu,V,a7.1,a7.2]
    exact key
  apply aG.intro<;>intro g2<;>simp at g2<;>simp[v,A,B,D,F,cu,V,a7.1,a7.2,g2]
  rotate_left
  . have cb:k+503+7*j<=k+540:=by omega
    have cg:ws.length<=5:=by omega
    refine aa.gN (λenv σ'=>∃aw ws,env 0=.ref c 0/\env 7=.cp (bF f) 0/\env 8=ints U/\env 4=.ref H 0/\env 9=.ref G 0/\env 11=.nil/\env 12=.nil/\env 13=int 0/\bg c nums (k+540) σ'/\σ' H=some (.cells [.nil,.nil,int 0,int 0,int 0,int 0,int 0,.nil,.nil])/\σ' G=some (.cells [.nil,rows f.roads,int f.aU,int f.dD,int f.cJ,int M,int T,aw,.nil])/\qB (σ.del c) σ' [(aw,5,(ws:afg).map eM)]/\ws.length<=5/\∀x∈ws,kF T x=0) ?_ ?_
    . refine⟨aw,ws,?_,?_,?_,?_,?_,?_,?_,?_,bA.mono cb,q4,V,J,cg,b5⟩<;>simp[v,A,B,D,F,cu,V,a7.1,a7.2]
    exact key
  apply xV (I:=λenv r=>∃a' x,env 0=.ref c 0/\env 7=.cp (bF f) 0/\env 8=ints U/\env 4=.ref H 0/\env 9=.ref G 0/\env 10=int (X-j)/\kF T x=0/\bg c nums (k+503+7*j+7) r/\r H=some (.cells [.nil,.nil,int 0,int 0,int 0,int 0,int 0,.nil,.nil])/\r G=some (.cells [.nil,rows f.roads,int f.aU,int f.dD,int f.cJ,int M,int T,a',.nil])/\qB (σ.del c) r [(a',5,(ws.map eM)++[eM x])])
  . intro Y
    repeat' (first
              |apply And.intro
              | (refine cf Tryz.func34 rfl (WY.Rd (by omega) hn (by omega) bA λx O cm hd=>?_)
                 have cr:∃l,σ' c=some (.cells l):=by obtain⟨_,_,_,q⟩:=bA;exact⟨_,q⟩
                 have L:=J.Sz (by simp[ab.del]) cr hd.2
                 have ev:=L.head.cells;have r9:O G=some (.cells [.nil,rows f.roads,int f.aU,int f.dD,int f.cJ,int M,int T,aw,.nil]):=by rw[hd.2 G n9];exact V
                 have r4:O H=some (.cells [.nil,.nil,int 0,int 0,int 0,int 0,int 0,.nil,.nil]):=by rw[hd.2 H (zs n4)];exact q4
                 apply pg;simp[v,A,B,D,F,cu,r9,ev.1,ev.2])
              | (refine aN lay rfl rfl rfl Ow rfl Ow rfl UO (by decide) (by simp;omega) (σ0:=O.off aw) (es:=ws.map eM) (xs:=[eM x]) (by simpa using L.head.here.1) (.inr ⟨_,by simp;rfl⟩) λa' eg ax=>?_
                 obtain⟨b0,k3⟩:=L.app ax;have K:=b0.head.cells;have t9:=k3 _ _ r9;have t4:=k3 _ _ r4;apply pg;simp[v,A,B,D,F,cu,t9,K.1,K.2,aI];obtain⟨nb,zb,av,S⟩:=hd.1;have tc:=k3 _ _ S;refine Y _ _ ⟨a',x,by simp[v],by simp[A],by simp[B],by simp[D],by simp[F],by simp[cu],cm,⟨nb,zb,av,by rw[ab.ah _ _ (zs n9)];exact tc⟩,by rw[ab.ah _ _ (zs a8)];exact t4,ab.ai _ _ _,?_⟩
                 exact(b0.Sz (by simp[ab.del,n9,s9]) ⟨_,t9⟩ λy hy=>ab.ah _ _ hy)))
  clear v A B D F cu env
  rintro env O ⟨a',x,v,A,B,D,F,cu,cm,S,r4,r9,L⟩
  apply rn;simp[v,A,B,D,F,cu];have r1:-9223372036854775808<=(X:Int)-j-1/\(X:Int)-j-1<=9223372036854775807:=by omega
  refine⟨r1,ih _ g1 ⟨_,_,a',ws++[x],rfl,⟨by simp[v,A,B,D,F,cu],by simp[v,A,B,D,F,cu],by simp[v,A,B,D,F,cu],by simp[v,A,B,D,F,cu],by simp[v,A,B,D,F,cu],?_⟩,?_,r4,r9,?_,?_,?_⟩⟩
  . simp;omega
  . omega
  . simpa using L
  . simp;omega
  intro y hy
  rcases aan.1 hy with q|q
  . exact b5 y q
  rw[lb.1 q];exact cm
 case p2=>
 clear v A B D F env
 rintro env σ6 ⟨aw,ws,v,A,B,D,F,bH,fa,d,ey,ez,cv,R,fp,b5⟩
 obtain⟨Q,dj⟩:∃Q:Int->Int,Q=λi=>U.getD i.toNat 0:=⟨_,rfl⟩
 have h6:=hS.pw.mT;have gp:=hS.len;have gw:U.length=f.az.length:=by obtain⟨_,_,_,_,q,_⟩:=hS.seen;exact q.len
 have ft:∀e∈f.az,0<=e.hour/\e.hour<=72:=λe he=>(lP (hS.pw.r7 e he)).1
 apply rn;simp[v,A,B,D,F,bH,fa,d,cv];have b6:=R.1
 have b7:qB (σ.del c) σ6 [(.nil,6,(([]:afe).map (aP f)).map bj),(.nil,8,([]:List BC).map iC),(.nil,1,(([]:afe).map Q).map int),(.nil,1,(([]:afe).map Q).map int),(aw,5,ws.map eM)]:=by
  have n0:∀kk,Tok (σ.del c) σ6 .nil kk []:=λkk=>⟨b6,.inl ⟨rfl,rfl⟩⟩
  refine⟨b6,λt q=>?_,?_⟩
  . simp at q
    rcases q with rfl|rfl|rfl|rfl
    . exact n0 6
    . exact n0 8
    . exact n0 1
    exact R.head
  simp[bt]
 refine aa.loop f.az.length (λi s=>∃env σ' aE Z aO aL E C cs,s=⟨env,σ',[],.no⟩/\(env 0=.ref c 0/\env 7=.cp (bF f) 0/\env 8=ints U/\env 4=.ref H 0/\env 9=.ref G 0/\env 11=aO/\env 12=aL/\env 13=int i)/\bg c nums (k+540+3*i) σ'/\σ' H=some (.cells [.nil,.nil,int 0,int 0,int 0,int 0,int 0,.nil,.nil])/\σ' G=some (.cells [aE,rows f.roads,int f.aU,int f.dD,int f.cJ,int M,int T,aw,Z])/\qB (σ.del c) σ' [(aE,6,((E:afe).map (aP f)).map bj),(Z,8,(cs:List BC).map iC),(aO,1,(E.map Q).map int),(aL,1,((C:afe).map Q).map int),(aw,5,ws.map eM)]/\E.length+C.length=i/\(∀x∈E++C,0<=x/\x<f.az.length)/\cs.map (·.lost)=C.map (aP f)/\cs.length<=3/\∀x∈cs,(0<=x.town/\x.town<T)/\(0<=x.hour/\x.hour<=72)/\x.lost.hour<=x.hour) ?_ ?_
 . refine⟨_,_,.nil,.nil,.nil,.nil,[],[],[],rfl,?_,ey,ez,cv,b7,rfl,by simp,rfl,by simp⟩
   simp_all
 clear b7 R b6 ez cv ey v A B D F bH fa d env
 rintro c0 i _ hi ⟨env,σ',aE,Z,aO,aL,E,C,cs,rfl,⟨v,A,B,D,F,bH,fa,d⟩,dm,q4,V,J,gx,bB,dr,eA,dx⟩ ih
 have g:=J.head.cells;have o:Z.cells=[Z]/\Z.flat=true:=(J.2.1 (Z,8,cs.map iC) (by simp)).cells
 have u:aO.cells=[aO]/\aO.flat=true:=(J.2.1 (aO,1,(E.map Q).map int) (by simp)).cells
 have p:aL.cells=[aL]/\aL.flat=true:=(J.2.1 (aL,1,(C.map Q).map int) (by simp)).cells
 have fu:∀l,(Z,8,cs.map iC)=l->True:=λ_ _=>trivial
 refine aa.runN lay [] 20 ?_;simp[v,A,B,D,F,bH,fa,d,V,g.1,g.2,o.1,o.2,u.1,u.2,p.1,p.2];apply aG.intro<;>intro g1<;>simp at g1<;>simp[v,A,B,D,F,bH,fa,d,V,g.1,g.2,o.1,o.2,u.1,u.2,p.1,p.2,g1]
 . refine aa.runN lay [] 2 ?_
   simp[v,A,B,D,F,bH,fa,d,V,g.1,g.2,o.1,o.2,u.1,u.2,p.1,p.2];refine bO.intro λfv eB=>?_
   simp[v,A,B,D,F,bH,fa,d,V,g.1,g.2,o.1,o.2,u.1,u.2,p.1,p.2,aI]
   change aa _ _ _ _ _ _ _ _ _
   refine aa.bf 14 (b:=fv) (bj f.az[i]) (ab.ai _ _ _) (by simp) rfl ?_
   rw[dH eB];have gA:=ft _ (ys g1);have eK:aP f i=f.az[i]:=by simp[aP,g1]
   generalize f.az[i]=e at *;clear eB;apply rn;simp[v,A,B,D,F,bH,fa,d,V,g.1,g.2,o.1,o.2,u.1,u.2,p.1,p.2];refine cf Tryz.func33 rfl (yS (by omega) hn (by omega) dm λon O b1=>?_)
   have cr:∃l,σ' c=some (.cells l):=by obtain⟨_,_,_,q⟩:=dm;exact⟨_,q⟩
   have L:=J.Sz (by simp[ab.del]) cr b1.2
   have r9:O G=some (.cells [aE,rows f.roads,int f.aU,int f.dD,int f.cJ,int M,int T,aw,Z]):=by rw[b1.2 G n9];exact V
   have r4:O H=some (.cells [.nil,.nil,int 0,int 0,int 0,int 0,int 0,.nil,.nil]):=by rw[b1.2 H (zs n4)];exact q4
   have eN:=(L.2.1 (Z,8,cs.map iC) (by simp)).Uj
   refine Lq (P:=?P3) (λkey=>?f3) ?p3
   case f3 =>
    have fw:∀b,b=decide ((cs.length:Int)<3)->b=true->cs.length<3:=λb q1 q2=>by rw[q1]at q2;have:=adk q2;clear key;omega
    cases on with
    | false=>
      refine aa.runN lay [] 7 ?_;simp[v,A,B,D,F,bH,fa,d,V,g.1,g.2,o.1,o.2,u.1,u.2,p.1,p.2];refine aa.gN (λenv r=>O=r/\env 0=.ref c 0/\env 7=.cp (bF f) 0/\env 8=ints U/\env 4=.ref H 0/\env 9=.ref G 0/\env 11=aO/\env 12=aL/\env 13=int i/\env 14=.cp (bj e) 0/\∃b,env 71=bool b/\(b=true->cs.length<3)) ?_ ?_
      . refine⟨rfl,?_,?_,?_,?_,?_,?_,?_,?_,?_,false,?_⟩<;>simp[v,A,B,D,F,bH,fa,d,V,g.1,g.2,o.1,o.2,u.1,u.2,p.1,p.2]
      exact key
    | true=>
      rcases eN with ⟨q1,q2⟩|⟨sp,q1⟩
      . change Z=_ at q1
        rw[q1]at r9;refine aa.runN lay [] 7 ?_;simp[v,A,B,D,F,bH,fa,d,V,g.1,g.2,o.1,o.2,u.1,u.2,p.1,p.2,r9];refine aa.gN (λenv r=>O=r/\env 0=.ref c 0/\env 7=.cp (bF f) 0/\env 8=ints U/\env 4=.ref H 0/\env 9=.ref G 0/\env 11=aO/\env 12=aL/\env 13=int i/\env 14=.cp (bj e) 0/\∃b,env 71=bool b/\(b=true->cs.length<3)) ?_ ?_
        . have hz:cs.length<3:=by
           cases cs with
           |nil=>exact(by decide)
           |cons a l=>cases q2
          refine⟨rfl,?_,?_,?_,?_,?_,?_,?_,?_,?_,true,?_,λ_=>hz⟩<;>simp[v,A,B,D,F,bH,fa,d,V,g.1,g.2,o.1,o.2,u.1,u.2,p.1,p.2]
        exact key
      change Z=_ at q1
      rw[q1]at r9;refine aa.runN lay [] 7 ?_;simp[v,A,B,D,F,bH,fa,d,V,g.1,g.2,o.1,o.2,u.1,u.2,p.1,p.2,r9];refine aa.gN (λenv r=>O=r/\env 0=.ref c 0/\env 7=.cp (bF f) 0/\env 8=ints U/\env 4=.ref H 0/\env 9=.ref G 0/\env 11=aO/\env 12=aL/\env 13=int i/\env 14=.cp (bj e) 0/\∃b,env 71=bool b/\(b=true->cs.length<3)) ?_ ?_
      . refine⟨rfl,?_,?_,?_,?_,?_,?_,?_,?_,?_,decide ((cs.length:Int)<3),?_,fw _ rfl⟩<;>simp[v,A,B,D,F,bH,fa,d,V,g.1,g.2,o.1,o.2,u.1,u.2,p.1,p.2]
      exact key
   case p3=>
   clear v A B D F bH fa d env eN
   rintro env _ ⟨rfl,v,A,B,D,F,bH,fa,d,BB,b,UK,bm⟩
   have rT:-9223372036854775808<=T-1/\T-1<=9223372036854775807:=by omega
   have rh:-9223372036854775808<=e.hour+6/\e.hour+6<=9223372036854775807:=by omega
   have gB:E.length<=i/\C.length<=i:=by omega
   cases b with
   | true=>
     have bm:=bm rfl
     apply xV (I:=λenv r=>∃a' nc,env 0=.ref c 0/\env 7=.cp (bF f) 0/\env 8=ints U/\env 4=.ref H 0/\env 9=.ref G 0/\env 11=aO/\env 12=aL/\env 13=int i/\bg c nums (k+540+3*i+3) r/\r H=some (.cells [.nil,.nil,int 0,int 0,int 0,int 0,int 0,.nil,.nil])/\r G=some (.cells [aE,rows f.roads,int f.aU,int f.dD,int f.cJ,int M,int T,aw,a'])/\qB (σ.del c) r [(a',8,cs.map iC++[iC nc]),(aE,6,(E.map (aP f)).map bj),(aO,1,(E.map Q).map int),(aL,1,(C.map Q).map int),(aw,5,ws.map eM)]/\nc.lost=e/\(0<=nc.town/\nc.town<T)/\(0<=nc.hour/\nc.hour<=72)/\nc.lost.hour<=nc.hour)
     . intro Y
       apply rn;simp[v,A,B,D,F,bH,fa,d,BB,UK,r9,g.1,g.2,o.1,o.2,rT.1,rT.2,rh.1,rh.2]
       repeat' (first
                 |apply And.intro
                 | (refine cf Tryz.func16 rfl (fE (by omega) hn (by omega) b1.1 λy1 eg gC b8=>?_)
                    have b0:=L.Sz (by simp[ab.del]) (by obtain⟨_,_,_,q⟩:=b1.1;exact⟨_,q⟩) b8.2
                    have v9:=(b8.2 G n9).trans r9;have v4:=(b8.2 H (zs n4)).trans r4;apply pg;simp[v,A,B,D,F,bH,fa,d,BB,r9,v9,g.1,g.2,o.1,o.2,rT.1,rT.2,rh.1,rh.2])
                 | (refine cf Tryz.func13 rfl (fY (by omega) hn (by omega) ⟨by split<;>omega,by split<;>omega⟩ b8.1 λy2 bq fx a9=>?_)
                    have eR:=b0.Sz (by simp[ab.del]) (by obtain⟨_,_,_,q⟩:=b8.1;exact⟨_,q⟩) a9.2
                    have x9:=(a9.2 G n9).trans v9;have x4:=(a9.2 H (zs n4)).trans v4;apply pg;simp[v,A,B,D,F,bH,fa,d,BB,x9,g.1,g.2,o.1,o.2,aI])
                 | (have hp:=eR.perm (List.Perm.swap (Z,8,cs.map iC) _ _)
                    refine aN lay rfl rfl rfl Lr rfl Lr rfl UQ (by decide) (by simp;omega) (σ0:=bq.off Z) (es:=cs.map iC) (xs:=[iC ⟨e,y1,y2⟩]) (by simpa using hp.head.here.1) (.inr ⟨.exact,by simp[aI]⟩) λa' ad ax=>?_
                    obtain⟨N,k5⟩:=hp.app ax;have K:=N.head.cells;have t9:=k5 _ _ x9;have t4:=k5 _ _ x4;apply pg;simp[v,A,B,D,F,bH,fa,d,BB,t9,K.1,K.2,aI];obtain⟨nb,zb,av,S⟩:=a9.1;have tc:=k5 _ _ S
                    refine Y _ _ ⟨a',⟨e,y1,y2⟩,by simp[v],by simp[A],by simp[B],by simp[D],by simp[F],by simp[bH],by simp[fa],by simp[d],⟨nb,zb,by omega,by rw[ab.ah _ _ (zs n9)];exact tc⟩,by rw[ab.ah _ _ (zs a8)];exact t4,ab.ai _ _ _,N.Sz (by simp[ab.del,n9,s9]) ⟨_,t9⟩ λy hy=>ab.ah _ _ hy,rfl,by simp only;omega,?_,?_⟩
                    . simp only;revert fx;split<;>omega
                    . simp only;omega))
     clear v A B D F bH fa d BB UK env
     rintro env ad ⟨a',nc,v,A,B,D,F,bH,fa,d,dy,ea,eb,N,fO,gD,gG,gH⟩
     have b2:i<U.length:=by omega
     have K:=N.head.cells;apply rn;simp[v,A,B,D,F,bH,fa,d,K.1,K.2,p.1,p.2,b2];have hp:=N.perm (aet (a:=(aL,1,(C.map Q).map int)) (l₁:=[(a',8,cs.map iC++[iC nc]),(aE,6,(E.map (aP f)).map bj),(aO,1,(E.map Q).map int)]) (l₂:=[(aw,5,ws.map eM)]));have b9:Q (i:Int)=U[i]:=by rw[dj];simp[b2]
     refine aN lay rfl rfl rfl cK rfl cK rfl pQ (by decide) (by simp;omega) (σ0:=ad.off aL) (es:=(C.map Q).map int) (xs:=[int U[i]]) (by simpa using hp.head.here.1) (.inr ⟨_,rfl⟩) λeW σ6 ax=>?_
     obtain⟨R,k6⟩:=hp.app ax;have c6:=R.head.cells;have t9:=k6 _ _ eb;have t4:=k6 _ _ ea;apply rn;simp[v,A,B,D,F,bH,fa,d,K.1,K.2,p.1,p.2,c6.1,c6.2];obtain⟨nb,zb,av,S⟩:=dy;have tc:=k6 _ _ S;have ec:=R.perm ((aet (a:=(eW,1,(C.map Q).map int++[int U[i]])) (l₁:=[(a',8,cs.map iC++[iC nc]),(aE,6,(E.map (aP f)).map bj),(aO,1,(E.map Q).map int)]) (l₂:=[(aw,5,ws.map eM)])).symm.trans (List.Perm.swap _ _ _))
     refine⟨by omega,ih _ g1 ⟨_,_,aE,a',aO,eW,E,C++[(i:Int)],cs++[nc],rfl,?_,⟨nb,zb,by omega,tc⟩,t4,t9,?_,?_,?_,?_,?_,?_⟩⟩
     . exact by simp[v,A,B,D,F,bH,fa,d,K.1,K.2,p.1,p.2]
     . simpa[b9]using ec
     . simp;omega
     . intro x hx
       rw[<-List.append_assoc]at hx
       rcases aan.1 hx with q|q
       . exact bB x q
       rw[lb.1 q];omega
     . rw[aaq,aaq,dr];simp[fO,eK]
     . simp;omega
     intro x hx
     rcases aan.1 hx with q|q
     . exact dx x q
     rw[lb.1 q];omega
   | false=>
     have b2:i<U.length:=by omega
     have b9:Q (i:Int)=U[i]:=by rw[dj];simp[b2]
     apply xV (I:=λenv r=>∃al ay,env 0=.ref c 0/\env 7=.cp (bF f) 0/\env 8=ints U/\env 4=.ref H 0/\env 9=.ref G 0/\env 11=ay/\env 12=aL/\env 13=int i/\bg c nums (k+540+3*i+3) r/\r H=some (.cells [.nil,.nil,int 0,int 0,int 0,int 0,int 0,.nil,.nil])/\r G=some (.cells [al,rows f.roads,int f.aU,int f.dD,int f.cJ,int M,int T,aw,Z])/\qB (σ.del c) r [(ay,1,(E.map Q).map int++[int U[i]]),(al,6,(E.map (aP f)).map bj++[bj e]),(Z,8,cs.map iC),(aL,1,(C.map Q).map int),(aw,5,ws.map eM)])
     . intro Y
       apply rn;simp[v,A,B,D,F,bH,fa,d,BB,UK,r9,g.1,g.2,u.1,u.2,b2]
       repeat' (first
                 |apply And.intro
                 | (refine aN lay rfl rfl rfl nX rfl nX rfl Ap (by decide) (by simp;omega) (σ0:=O.off aE) (es:=(E.map (aP f)).map bj) (xs:=[bj e]) (by simpa using L.head.here.1) (.inr ⟨.exact,by simp⟩) λal ad ax=>?_
                    obtain⟨N,k5⟩:=L.app ax;have K:=N.head.cells;have t9:=k5 _ _ r9;have t4:=k5 _ _ r4;apply pg;simp[v,A,B,D,F,bH,fa,d,BB,t9,K.1,K.2,u.1,u.2,b2])
                 | (have hp:=N.perm (aet (a:=(aO,1,(E.map Q).map int)) (l₁:=[(al,6,(E.map (aP f)).map bj++[bj e]),(Z,8,cs.map iC)]) (l₂:=[(aL,1,(C.map Q).map int),(aw,5,ws.map eM)]))
                    refine aN lay rfl rfl rfl cK rfl cK rfl pQ (by decide) (by simp;omega) (σ0:=ad.off aO) (es:=(E.map Q).map int) (xs:=[int U[i]]) (by simpa using hp.head.here.1) (.inr ⟨.exact,by simp⟩) λay σ6 gd=>?_
                    obtain⟨R,k6⟩:=hp.app gd;have ca:=R.head.cells;have x9:=k6 _ _ t9;have x4:=k6 _ _ t4;apply pg;simp[v,A,B,D,F,bH,fa,d,BB,x9,K.1,K.2,ca.1,ca.2,aI];obtain⟨nb,zb,av,S⟩:=b1.1;have tc:=k6 _ _ (k5 _ _ S);exact Y _ _ ⟨al,ay,by simp[v],by simp[A],by simp[B],by simp[D],by simp[F],by simp,by simp[fa],by simp[d],⟨nb,zb,by omega,by rw[ab.ah _ _ (zs n9)];exact tc⟩,by rw[ab.ah _ _ (zs a8)];exact x4,ab.ai _ _ _,R.Sz (by simp[ab.del,n9,s9]) ⟨_,x9⟩ λy hy=>ab.ah _ _ hy⟩))
     clear v A B D F bH fa d BB UK env
     rintro env ad ⟨al,ay,v,A,B,D,F,bH,fa,d,dy,ea,eb,N⟩
     apply rn;simp[v,A,B,D,F,bH,fa,d];have ec:=N.perm ((aet (a:=(ay,1,(E.map Q).map int++[int U[i]])) (l₁:=[(al,6,(E.map (aP f)).map bj++[bj e]),(Z,8,cs.map iC)]) (l₂:=[(aL,1,(C.map Q).map int),(aw,5,ws.map eM)])).symm);refine⟨by omega,ih _ g1 ⟨_,_,al,Z,ay,aL,E++[(i:Int)],C,cs,rfl,?_,dy.mono (by omega),ea,eb,?_,?_,?_,dr,eA,dx⟩⟩
     . exact by simp[v,A,B,D,F,bH,fa,d]
     . simpa[b9,eK]using ec
     . simp;omega
     intro x hx
     rcases aan.1 hx with q|q
     . rcases aan.1 q with q|q
       . exact bB x (List.mem_append_left _ q)
       rw[lb.1 q];omega
     exact bB x (List.mem_append_right _ q)
 have ei:i=f.az.length:=by omega
 have eX:aw.cells=[aw]/\aw.flat=true:=(J.2.1 (aw,5,ws.map eM) (by simp)).cells
 simp[v,A,B,D,F,bH,fa,d,V,g.1,g.2,o.1,o.2,u.1,u.2,p.1,p.2,eX.1,eX.2,q4,ab.ah,a8,zs a8,aI];apply rn;simp[v,A,B,D,F,bH,fa,d,V,g.1,g.2,o.1,o.2,u.1,u.2,p.1,p.2];obtain⟨w,hw⟩:∃w:cC,w=⟨⟨E.map (aP f),f.roads,f.aU,f.dD,f.cJ,M⟩,T,ws,cs⟩:=⟨_,rfl⟩
 have ed:Rh cnt w (E.map Q) (C.map Q):=by subst hw;subst dj;exact Tr hS c5.2 bB (by omega) rfl dr rfl rfl rfl rfl fg fj b5 (show ws.length<=5 by omega) eA dx
 obtain⟨nb,zb,av,S⟩:=dm
 have gf:(AV.agg [aE,rows f.roads,int f.aU,int f.dD,int f.cJ,int M,int T,aw,Z]).W (bS w):=by
  subst hw;refine nY rfl λi x y h1 h2=>?_
  match i with
  |0=>cases h1;cases h2;exact J.head.W
  |1=>cases h1;cases h2;exact .refl _
  |2=>cases h1;cases h2;exact .refl _
  |3=>cases h1;cases h2;exact .refl _
  |4=>cases h1;cases h2;exact .refl _
  |5=>cases h1;cases h2;exact .refl _
  |6=>cases h1;cases h2;exact .refl _
  |7=>cases h1;cases h2;exact(J.2.1 (aw,5,ws.map eM) (by simp)).W
  |8=>cases h1;cases h2;exact(J.2.1 (Z,8,cs.map iC) (by simp)).W
  |i+9=>cases h1
 have gj:(AV.bL [.agg [aE,rows f.roads,int f.aU,int f.dD,int f.cJ,int M,int T,aw,Z],aO,aL]).W (.bL [bS w,ints (E.map Q),ints (C.map Q)]):=by
  refine QD rfl λi x y h1 h2=>?_
  match i with
  |0=>cases h1;cases h2;exact gf
  |1=>cases h1;cases h2;exact(J.2.1 (aO,1,(E.map Q).map int) (by simp)).W
  |2=>cases h1;cases h2;exact (J.2.1 (aL,1,(C.map Q).map int) (by simp)).W
  |i+3=>cases h1
 refine .px gj (.less (σ':=σ.set c (.cells [ints nums,int nb,.lit (.int .u64 zb)])) (λy x hy=>?_) (.done (h w _ _ _ ed ⟨⟨nb,zb,by omega,ab.ai _ _ _⟩,λy hy=>ab.ah _ _ hy⟩)))
 by_cases y1:y=c
 . subst y1
   rw[ab.ai]at hy;rw[ab.ah _ _ n4,S];exact hy
 rw[ab.ah _ _ y1]at hy;have y4:y≠H:=λe=>by subst e;grind
 rw[ab.ah _ _ y4];exact J.1 y x (by simpa[ab.del,y1]using hy)
end WA
end
end
open Go.bN Go.Conc
variable{m:Mo}{σ:ab}{KF:aeQ}
theorem nI{w:cC}(d:fJ w=0){a b c:afe}(e:∀x∈a,0<=x/\x<=72)(hb:∀x∈b,0<=x/\x<(w.fair.az.length:Int))(f:∀x∈c,0<=x/\x<(w.aj.length:Int)):dI w a b c=0:=by
 have g:a.all (bz · 0 72)=true:=aau.2 λx q=>by have:=e x q;simp only[bz,zj,zR];omega
 have h:b.all (bz · 0 (w.fair.az.length-1))=true:=aau.2 λx q=>by have:=hb x q;simp only[bz,zj,zR];omega
 have i:c.all (bz · 0 (w.aj.length-1))=true:=aau.2 λx q=>by have:=f x q;simp only[bz,zj,zR];omega
 unfold dI;rw[Rp d,g,h,i,KD (by simp),KD (by simp),KD (by simp)]
