import Derived.Test.YtkcceaplmgdnfaaGreatDoorC19
set_option linter.all false
set_option maxHeartbeats 2000000
set_option maxRecDepth 4000
namespace Go.Proofs.YtkcceaplmgdnfaaGreatDoor
open Go.Proofs.Tryz (prog)
section
open Go Go.cC Go.Conc
def Hq(f:Fr):Bool:=decide (f.aD.length<100) && decide (f.roads.length<100) && f.roads.all (λr=>decide (r.length<100)) && f.aD.all (λe=>decide (e.marks.length<100))
theorem yx{f}(h:Hq f=true):f.Fits:=by simp only[Hq,zj,ZL,ZT]at h;obtain⟨⟨⟨a,b⟩,c⟩,d⟩:=h;exact⟨by omega,by omega,λr g=>by grind,λe i=>by grind⟩
def El(f:Fr):Bool:=Hq f && decide (check f=0)
theorem NI{f}(h:El f=true):f.Good:=by simp only[El,zj,ZL]at h;exact Fr.pJ (yx h.1) h.2
def oD(h:Int):Int:=if h<0 then -1 else if 72<h then 72 else h
theorem NJ  h :∃k:Nat,k<74/\oD h=(k:Int)-1:=by refine⟨(oD h+1).toNat,?_,?_⟩<;>(unfold oD;split<;>(try split)<;>omega)
def Ga(w:iw):Bool:=(vS w.fair.aD.length).all (λi=>decide (0<=(aX w.fair i).hour) && decide ((aX w.fair i).hour<=72)) && (vS w.aB.length).all λi=>decide (0<=ew w i.toNat)
theorem Em{w}(a:Ga w=true)  h :kE w h=kE w (oD h)/\kC w h=kC w (oD h):=by
 simp only[Ga,zj,ZT,ZL]at a
 have c:uv w h=uv w (oD h):=aba λx b=>by
  have:=a.1 x b;unfold pE oD
  grind
 have d:yo w h=yo w (oD h):=aba λx b=>by
  have:=a.2 x b;unfold pC oD
  grind
 grind
def WH(w:iw)(p:Int × Int):Bool:=(aA p.1).all (λi=>decide (0<=i) && decide (i<w.fair.aD.length)) && (aA p.2).all (λi=>decide (0<=i) && decide (i<w.aB.length)) && El (eU w (aA p.1) (aA p.2)) && decide (aI (eU w (aA p.1) (aA p.2)) []≠[])
theorem U7{w p}(h:WH w p=true):w.Bk p.1 p.2:=by simp only[WH,zj,ZT,ZL]at h;exact⟨h.1.1.1,h.1.1.2,NI h.1.2,h.2⟩
def Qx(w:iw)(L:abY):Bool:=decide (w.fair.aD.length<=6) && decide (w.aB.length<=3) && Ga w && (List.range 74).all (λk=>L.contains (kE w ((k:Int)-1),kC w ((k:Int)-1))) && L.all (WH w)
theorem B0{w L}(h:Qx w L=true):w.Open:=by
 simp only[Qx,zj,ZT,ZL]at h;refine⟨⟨h.1.1.1.1,h.1.1.1.2⟩,λt=>?_⟩;obtain⟨a,b⟩:=Em h.1.1.2 t;obtain⟨k,c,ek⟩:=NJ t;rw[a,b,ek];exact U7 (p:=(kE w ((k:Int)-1),kC w ((k:Int)-1))) (h.2 _ (by grind))
def Qy(w:iw):Bool:=El w.fair && w.aB.all (λc=>Hq (lone w.fair c.lost) && decide (check (lone w.fair c.lost)=0)) && decide (w.ways.length<100) && decide (w.aB.length<100)
theorem Hr{w}(h:Qy w=true):w.rH:=by simp only[Qy,El,zj,ZT,ZL]at h;obtain⟨⟨⟨⟨d,e⟩,a⟩,f⟩,g⟩:=h;exact⟨yx d,e,λc b=>⟨yx (a c b).1,(a c b).2⟩,by omega,by omega⟩
theorem PC:(lW 2).rH/\(lW 3).rH:=⟨Hr (by decide +kernel),Hr (by decide +kernel)⟩
theorem Ht:(lW 2).Open/\(lW 3).Open:=⟨B0 (L:=[(0,0),(0,1),(1,0),(1,1),(3,1),(7,1),(15,1)]) (by decide +kernel),B0 (L:=[(0,0),(0,1),(1,1),(3,1),(7,1),(15,1)]) (by decide +kernel)⟩
end
section
open Go Go.cC Go.Conc
variable{m:Mo}{σ:ab}{KF:ach}
theorem RG:G4 prog 26 3:=.of (by kernel_rfl) (by kernel_rfl) (by kernel_rfl) (by kernel_rfl)
namespace SR
abbrev WI:acn:=[⟨4,.take [0,1,2,3,4,5,6,7] false (.one 8 (.done))⟩]
theorem zd{a b}(A:a.length<1152921504606846976)(hb:b.length<1152921504606846976)(h:KF (.val (bool (decide (a=b)))) σ):az prog m 35 [oC a,oC b] σ KF:=by
 refine fs WI Tryz.func35 rfl (by kernel_rfl) ?_;simp[Tryz.f35];refine aa.loop a.length (λk s=>∃env,s=⟨env,σ,[],.no⟩/\env 0=oC a/\env 1=oC b/\env 5=int k/\k<=b.length/\a.take k=b.take k) ⟨_,rfl,by simp⟩ ?_;rintro B k _ C ⟨env,rfl,g,l,i,r,o⟩ t;apply rn;simp[g,i];refine uK.intro (λf=>?_) (λf=>?_)<;>(try simp[-Nat.not_lt,-Nat.not_le]at f)<;>(try simp[g,l,i,f])
 . refine aH.intro (λj=>?_) (λj=>?_)<;>(try simp[-Nat.not_lt,-Nat.not_le]at j)<;>(try simp[g,l,i,j,f])
   . obtain⟨x,u⟩:∃x,x=a[k]:=⟨_,rfl⟩
     obtain⟨y,v⟩:∃y,y=b[k]:=⟨_,rfl⟩;simp only[<-u,<-v];refine Is lay RG rA rfl rfl (a:=x.1) (b:=x.2) (c:=y.1) (d:=y.2) (by simp) (by simp) (.inr ⟨rfl,rfl⟩) ?_;have w:(!(x.1==y.1 && x.2==y.2))=!decide (x=y):=by grind
     rw[w];by_cases p:x=y
     . apply pg
       simp[p];apply rn;simp[i];have z:a[k]=b[k]:=by simp_all
       refine⟨by omega,t _ f ⟨_,rfl,by simp[g],by simp[l],by simp,by omega,?_⟩⟩;rw[zD f,zD j,o,z]
     . have:a≠b:=λe=>by simp_all
       simp[this]at h;apply pg;simp[p];apply rn;simp;exact .done h
   . have:a≠b:=λe=>by simp_all
     have n:((a.length:Int)==b.length)=false:=by grind
     rw[n];exact .done (by simp_all)
 . have:k=a.length:=by omega
   subst this;rw[ZY]at o;by_cases e:a.length=b.length
   . have:a=b:=by grind
     exact .done (by grind)
   . have:a≠b:=λq=>e (by rw[q])
     have n:((a.length:Int)==b.length)=false:=by grind
     rw[n];exact .done (by grind)
end SR
theorem NK:fE (lW 3) [] [] [0]=0/\fE (lW 3) [14] [] []=0/\fE (lW 3) [] [1] []=0/\fE (lW 2) [] [] []=0/\fE (lW 3) [] [] []=0:=by decide +kernel
theorem PD:ew (lW 3) 0=8/\lS (lW 3) 14=[0,1]/\cI (lW 3) 1=[(12,15)]/\iT (lW 2) (lW 2).fair.aD.length=67/\Hp (lW 3)=[0]:=by decide +kernel
theorem NL:jI (lW 3) 16 0 0=1/\((List.range 16).all λh=>(List.range 4).all fun  i=>decide (jI (lW 3) (h:Nat) i 0≠1))=true:=by decide +kernel
theorem RH:∀l ,(∀c∈l,0<=c/\c<((lW 3).aB.length:Int))->l.length<=(lW 3).aB.length->((lW 3).only l).Open:=λl d g=>by
 have f:l=[]\/l=[0]:=by
  match l with
  |[]=>simp_all
  | [a]=>
    have:=d a (by simp);have e:(lW 3).aB.length=1:=rfl
    grind
  | a::b::t=>
    have e:(lW 3).aB.length=1:=rfl
    simp_all
 rcases f with rfl|rfl
 . exact B0 (L:=[(0,0),(1,0),(3,0),(7,0),(15,0)]) (by decide +kernel)
 . exact Ht.2
theorem Gb:(∀h i ,h<73->i<(lW 3).fair.aD.length->foundAt (lW 3) 0 h i->h=16/\i=0)/\¬(∀a b:Nat,a<73->b<(lW 3).fair.aD.length->jI (lW 3) a b 0≠1):=by
 obtain⟨f1,c⟩:=NL;have e:(lW 3).fair.aD.length=4:=rfl;refine⟨λh i j k d=>?_,λq=>q 16 0 (by omega) (by omega) f1⟩;simp only[ZT,ZL,ZN]at c;by_cases f:h<16
 . exact absurd d.1 (c h f i (by omega))
 . by_cases g:h=16/\i=0
   . exact g
   . exact absurd f1 (d.2 16 0 (by omega) (by omega))
theorem NM(d:m.solo=true)(h:KF (.val (bool true)) σ):az prog m 16 [] σ KF:=by
 have e:∀(σ:ab) (KF:ach),KF (.val (dz (lW 3))) σ->az prog m 32 [int 3] σ KF:=λσ KF h=>Ax (n:=3) (by decide) h
 have k:∀(σ:ab) (KF:ach),KF (.val (dz (lW 2))) σ->az prog m 32 [int 2] σ KF:=λσ KF h=>Ax (n:=2) (by decide) h
 obtain⟨j,l,o,p,r⟩:=NK;obtain⟨s,t,u,v,w⟩:=PD;obtain⟨f1,x⟩:=Gb;obtain⟨y,f⟩:=PC;obtain⟨z,g⟩:=Ht;have sub:=RH;generalize lW 3=A at *;generalize lW 2=B at *;refine fs [] Tryz.func16 rfl (by kernel_rfl) ?_;simp[Tryz.f16];refine cf Tryz.func32 rfl (e _ _ ?_);apply rn;simp;refine cf Tryz.func22 rfl (mN d f (c:=0) (by decide) j ?_);rw[s,ZM (by decide)];apply rn;simp;refine cf Tryz.func32 rfl (e _ _ ?_);apply rn;simp;refine cf Tryz.func11 rfl (NC d f g (λq=>absurd l q) λ_=>?_);rw[t];apply rn;simp;refine cf Tryz.func32 rfl (e _ _ ?_);apply rn;simp;refine cf Tryz.func23 rfl (Jx d f g (by decide) (λq=>absurd o q) λ_=>?_);rw[u];apply rn;simp;refine cf Tryz.func32 rfl (e _ _ ?_);apply rn;simp;refine cf Tryz.func31 rfl (JA d f g (by decide) j (λh i C D E=>?_) λq=>absurd q x)
 obtain⟨rfl,rfl⟩:=f1 h i C D E;apply rn;simp;refine cf Tryz.func32 rfl (k _ _ ?_);apply rn;simp;refine cf Tryz.func25 rfl (Jz d y z p ?_);rw[v];apply rn;simp;refine cf Tryz.func32 rfl (e _ _ ?_);apply rn;simp;refine cf Tryz.func12 rfl (F9 d f g sub r ?_);rw[w];apply rn;simp;refine bU Tryz.func15 rfl rfl (.cons (.refl _) (.cons (ik 1 [int 0,int 1] .exact) .nil)) (uZ (a:=[0,1]) (b:=[0,1]) (by simp) (by simp) ?_);apply rn;simp;refine bU Tryz.func35 rfl rfl (.cons (.refl _) (.cons (ik 2 [kD (12,15)] .exact) .nil)) (SR.zd (a:=[(12,15)]) (b:=[(12,15)]) (by simp) (by simp) ?_);apply rn;simp;refine bU Tryz.func15 rfl rfl (.cons (.refl _) (.cons (ik 1 [int 0] .exact) .nil)) (uZ (a:=[0]) (b:=[0]) (by simp) (by simp) ?_);apply rn;simp;exact .done h
end
section
open Go.cC Go.Conc
variable{m:Mo}{σ:ab}{KF:ach}
theorem vg{e}(d:e.marks.length<=1000000000)(h:KF (.val (bn e)) σ):az prog m 52 [bn e] σ KF:=by
 refine az.start lay [1] [] 1 Tryz.func52 rfl rfl (by rfl) (by kernel_rfl) ?_;simp[Tryz.f52];refine bI.intro λf n=>?_
 simp;refine bI.intro λg a=>?_
 obtain⟨i,b,a⟩:=ab.aM a;simp[b,ab.ah];refine cf Tryz.func50 rfl (xR d ?_);refine aa.run lay [1] ?_;simp[i,b,ab.ah,aG];refine .less (λc x j=>?_) (.done h);have k:c≠f:=λe=>by simp_all
 have l:c≠g:=λe=>by simp_all
 simp[ab.ah,k,l,j]
theorem yy{r}(w:r.length<=1000000)(p:∀l∈r,l.length<=1000000000)(h:KF (.val (rows r)) σ):az prog m 96 [rows r] σ KF:=by
 refine az.thaw ?_;refine fs [] Tryz.func96 rfl (by kernel_rfl) ?_;simp[Tryz.f96];refine oo lay rfl oX rfl dG rfl (by decide) rfl rfl (n:=r.length) (by simp) (by simp) ⟨by omega,by omega⟩ λb hb=>?_
 apply rn;simp;refine aa.loop r.length (λi s=>∃env,s=⟨env,σ.set b (.cells (List.take i (List.map ints r)++List.replicate (r.length-i) (.lit (.slice none 0 0)))),[],.no⟩/\env 0=rows r/\env 3=.gk b 0 r.length r.length/\env 4=int i) ⟨_,by simp;rfl,by simp⟩ ?_;rintro y i _ z ⟨env,rfl,k,o,c⟩ A;rcases aap i r.length with g1|g1
 . have t:(i:Int)<r.length:=by omega
   have f1:-9223372036854775808<=(i:Int)+1/\(i:Int)+1<=9223372036854775807:=by omega
   apply rn;simp[k,o,c,g1];refine cf Tryz.func50 rfl (xR (p _ (zA g1)) ?_);have d:i+1<=min i r.length+(r.length-i):=by omega
   have a:List.take i (List.take i (List.map ints r)++List.replicate (r.length-i) (AV.lit (.slice none 0 0)))++AV.sl 1 (List.map int r[i]) .any::List.drop (i+1) (List.take i (List.map ints r)++List.replicate (r.length-i) (AV.lit (.slice none 0 0)))=List.take (i+1) (List.map ints r)++List.replicate (r.length-(i+1)) (.lit (.slice none 0 0)):=by
    have f:(List.take i (List.map ints r)).length=i:=by simp_all
    obtain⟨q,u⟩:∃q,r.length-i=q+1:=⟨r.length-i-1,by omega⟩;have v:r.length-(i+1)=q:=by omega
    have B:List.drop (i+1) (List.take i (List.map ints r)++List.replicate (r.length-i) (AV.lit (.slice none 0 0)))=List.replicate q (.lit (.slice none 0 0)):=by
     rw[List.drop_append,List.drop_eq_nil_of_le (by omega),f,u,Nat.add_sub_cancel_left];simp
    have C:List.take (i+1) (List.map ints r)=List.take i (List.map ints r)++[ints r[i]]:=by rw[zD (by simp_all),List.getElem_map]
    simp_all
   apply rn;simp[c,g1,f1.1,f1.2,aG,d,a]
   simp_all
 . have g:i=r.length:=by omega
   subst g;apply rn;simp[k,o,c];refine .done (bx.thaw (σ0:=σ) (kk:=1) (es:=r.map ints) ⟨ab.iN (ab.le_refl _) hb,.inr ⟨b,r.length,[],by simp,hb,by simp,λe j=>?_,?_,by simp⟩⟩ h)
   . obtain⟨x,_,rfl⟩:=aad.1 j
     rfl
   . rw[eI (λe j=>by obtain⟨x,_,rfl⟩:=aad.1 j;rfl),aay]
     have D:List.take r.length (List.map ints r)=List.map ints r:=aaH (by simp)
     simp_all
theorem vh{P m fid n ro hold K todo D rc}{G:Prop}(I:acf)
 (a:(∀env σ,I env σ->aa P m fid n ro hold todo ⟨env,σ,D,rc⟩ K)->G) (b:∀env σ,I env σ->aa P m fid n ro hold todo ⟨env,σ,D,rc⟩ K):G:=a b
abbrev NN:acE:=[.lit (.slice none 0 0),.lit (.slice none 0 0),int 0,int 0,int 0,int 0]
theorem En{f}(U:f.aD.length<=1000)(P:∀e∈f.aD,e.marks.length<=1000000000)(z:f.roads.length<=1000000)(A:∀r∈f.roads,r.length<=1000000000)(h:KF (.val (cM f)) σ):az prog m 51 [cM f] σ KF:=by
 refine fs Wo Tryz.func51 rfl (by kernel_rfl) ?_
 simp[Tryz.f51];refine bI.intro λt Q=>?_
 simp;apply vh (I:=λenv σ'=>∃c,σ c=none/\c≠t/\env 1=.cp (cM f) 0/\env 2=.ref t 0/\env 3=.ref c 0/\σ'=(σ.set t (.cells NN)).set c (.cells [.lit (.slice none 0 0),rows f.roads,int f.aP,int f.dH,int f.cL,int f.aW]))
 . intro d
   refine⟨?_,?_⟩
   . refine cf Tryz.func96 rfl (yy z A ?_)
     apply pg;simp[aG];refine⟨?_,?_⟩
     . refine qA.intro λc g=>?_
       obtain⟨n,B,g⟩:=ab.aM g;simp[aG];exact d _ _ ⟨c,g,n,by simp⟩
     . refine qA.intro λc g=>?_
       obtain⟨n,B,g⟩:=ab.aM g;simp[aG];exact d _ _ ⟨c,g,n,by simp⟩
   . refine qA.intro λc g=>?_
     obtain⟨n,B,g⟩:=ab.aM g;simp;refine cf Tryz.func96 rfl (yy z A ?_);apply pg;simp[aG];exact d _ _ ⟨c,g,n,by simp⟩
 . rintro env σ' ⟨c,g,n,o,u,p,rfl⟩
   have B:t≠c:=za n;apply rn;simp;have R:Tok σ ((σ.set t (.cells NN)).set c (.cells [.lit (.slice none 0 0),rows f.roads,int f.aP,int f.dH,int f.cL,int f.aW])) (.lit (.slice none 0 0)) 6 []:=(Tok.nil σ 6).up (ab.iN (ab.iN (ab.le_refl _) Q) (by rw[ab.ah _ _ n];exact g))
   refine aa.loop f.aD.length (λi s=>∃env σ' a,s=⟨env,σ',[],.no⟩/\env 1=.cp (cM f) 0/\env 2=.ref t 0/\env 3=.ref c 0/\env 4=int i/\σ' t=some (.cells NN)/\σ' c=some (.cells [a,rows f.roads,int f.aP,int f.dH,int f.cL,int f.aW])/\Tok σ σ' a 6 ((f.aD.take i).map bn))
    ⟨_,_,.lit (.slice none 0 0),rfl,by simp[o],by simp[u],by simp[p],by simp,by rw[ab.ah _ _ B,ab.ai],ab.ai _ _ _,by simp_all⟩ ?_
   clear o u p R
   rintro V i _ X ⟨env,σ',a,rfl,o,u,p,C,J,H,b⟩ S
   have v:=b.cells;have K:∀y l,σ' y=some (.cells l)->bp a≠some y:=λy l D e=>by obtain⟨_,_,q⟩:=b.aR e;grind
   rcases aap i f.aD.length with g1|g1
   . have T:(i:Int)<f.aD.length:=by omega
     have f1:-9223372036854775808<=(i:Int)+1/\(i:Int)+1<=9223372036854775807:=by omega
     apply rn;simp[o,p,C,H,g1]
     repeat' (first
               |apply And.intro
               | (refine cf Tryz.func52 rfl (vg (P _ (zA g1)) ?_)
                  apply pg;simp[o,u,p,C,J,H,v.1,v.2,g1])
               | (refine aN lay rfl rfl rfl lM rfl lM rfl xN (by decide) (by simp;omega) (σ0:=σ'.off a) (es:=(f.aD.take i).map bn) (xs:=[bn f.aD[i]]) (by simpa using b.here.1) (.inr ⟨_,by simp;rfl⟩) λa' E w=>?_
                  have F:=w.cells;have M:∀y l,σ' y=some (.cells l)->E y=some (.cells l):=λy l D=>w.1 _ _ (by rw[ab.du (K y l D)];exact D)
                  have N:=M _ _ H;have O:=M _ _ J;apply pg;simp[o,u,p,C,O,N,F.1,F.2,aG]))
     all_goals (
      apply rn;simp[C,f1.1,f1.2]
      have G:Tok σ E a' 6 ((f.aD.take (i+1)).map bn):=by have:=w.base b.here.2;rw[zD g1,aab];simpa using this
      exact S _ g1 ⟨_,_,a',rfl,by simp[o],by simp[u],by simp[p],by simp,by rw[ab.ah _ _ B];exact O,ab.ai _ _ _,G.beside g (λe=>by obtain⟨_,_,q⟩:=G.aR e;rw[N]at q;cases q)⟩)
   . have L:i=f.aD.length:=by omega
     subst L;rw[ZY]at b;apply rn;simp[o,u,p,C,J,H,v.2,aG];refine .less (σ':=σ) (λy x D=>?_) (.na (a':=cM f) (lR rfl λi x y j k=>?_) (.done h))
     . rw[ab.ah _ _ (λe=>by grind)]
       exact b.1 y x D
     . match i with
       |0=>simp at j k;subst j;subst k;exact b.W
       |1=>simp at j k;subst j;subst k;exact .refl _
       |2=>simp at j k;subst j;subst k;exact .refl _
       |3=>simp at j k;subst j;subst k;exact .refl _
       |4=>simp at j k;subst j;subst k;exact .refl _
       |5=>simp at j k;subst j;subst k;exact .refl _
       |i+6=>simp at j
theorem Gc{f}(c:f.Good)(d:∀e∈f.aD,e.marks.length<=1000000000)(a:f.roads.length<=1000000)(b:∀r∈f.roads,r.length<=1000000000)(h:KF (.val (cM f)) σ):az prog m 51 [cM f] σ KF:=En (by have:=c.tZ;omega) d a b h
end
section
open Go Go.cC Go.Conc
variable{m:Mo}{σ:ab}{KF:ach}
section
variable{c k:Nat}{nums:acy}
namespace WY
abbrev WJ:acn:=[⟨2,.take [0,2,3,4,7,9] false (.both 1 (.one 5 (.take [6,8] true (.one 10 (.done)))) (.one 5 (.take [1,6,8] true (.one 10 (.done)))))⟩]
theorem RI{a b t:Int}(c:2<=t/\t<=4)(d:0<=a/\a<t)(hb:1<=b/\b<t):0<=(a+b).tmod t/\(a+b).tmod t<t/\(a+b).tmod t≠a:=by
 rw[Int.tmod_eq_emod_of_nonneg (by omega)];have:t=2\/t=3\/t=4:=by omega
 grind
theorem NO{a t}(b:2<=t/\t<=4):oU .rem .i64 a t=some (.int .i64 (a.tmod t)):=by simp[oU];omega
theorem Eo{t}(hk:k+7<1000000)(H:nums.length<1152921504606846976)(ht:2<=t/\t<=4)(hb:bg c nums k σ)(h:∀  x  σ',ki t x=0->ov c nums (k+7) σ σ'->KF (.val (cU x)) σ'):az prog m 21 [.ref c 0,int t] σ KF:=by
 obtain⟨n0,s0,_,a7⟩:=id hb;refine fs WJ Tryz.func21 rfl (by kernel_rfl) ?_
 simp[Tryz.f21];refine bI.intro λi h4=>?_
 have v:c≠i:=λe=>by simp_all
 have P:∀x,bg c nums k (σ.set i x):=λx=>⟨n0,s0,by assumption,by rw[ab.ah _ _ v];exact a7⟩
 simp;have W:-9223372036854775808<=t-1/\t-1<=9223372036854775807:=by omega
 simp[W.1,W.2];refine cf Tryz.func18 rfl (eh (by omega) H ⟨by omega,by omega⟩ (P _) λd aC Q M=>?_)
 apply rn;simp;refine cf Tryz.func19 rfl (dM (by omega) H (by omega) (by omega) M.1 λr w aE A=>?_)
 apply rn;simp;refine bI.intro λf h5=>?_
 have B:f≠c:=λe=>by subst e;obtain⟨_,_,_,q⟩:=A.1;simp_all
 have aL:∀y,y≠c->y≠i->w y=σ y:=λy o Y=>by rw[A.2 y o,M.2 y o,ab.ah _ _ Y]
 have q4:w i=some (.cells [int 0,int 0,int 0,int 0,int 0]):=by rw[A.2 i (za v),M.2 i (za v),ab.ai]
 have s:f≠i:=λe=>by simp_all
 have Q:0<=d/\d<t:=by omega
 apply vh (I:=λenv σ'=>∃b,(1<=b/\b<t)/\env 0=.ref c 0/\env 1=int t/\env 4=.ref i 0/\env 5=.ref f 0/\bg c nums (k+3) σ'/\σ' i=some (.cells [int 0,int 0,int 0,int 0,int 0])/\σ' f=some (.cells [int d,int ((d+b).tmod t),int r,int 0,int 0])/\∀y,y≠c->y≠i->y≠f->σ' y=σ y)
 . intro u
   simp[aG,W.1,W.2]
   have R:bg c nums (k+2) (w.set f (.cells [int d,int 0,int r,int 0,int 0])):=by obtain⟨n,z,C,S⟩:=A.1;exact⟨n,z,C,by rw[ab.ah _ _ (za B)];exact S⟩
   have fin:∀(b:Int) (g:ab),1<=b/\(b<=t-1\/b=1)->ov c nums (k+2+1) (w.set f (.cells [int d,int 0,int r,int 0,int 0])) g->g f=some (.cells [int d,int 0,int r,int 0,int 0])/\(-9223372036854775808<=d+b/\d+b<=9223372036854775807)/\∀(env:Env) (X:rK),env 0=.ref c 0->env 1=int t->env 4=.ref i 0->env 5=.ref f 0->X=.cells [int d,int ((d+b).tmod t),int r,int 0,int 0]->(∃b,(1<=b/\b<t)/\env 0=.ref c 0/\env 1=int t/\env 4=.ref i 0/\env 5=.ref f 0/\bg c nums (k+3) (g.set f X)/\(g.set f X) i=some (.cells [int 0,int 0,int 0,int 0,int 0])/\(g.set f X) f=some (.cells [int d,int ((d+b).tmod t),int r,int 0,int 0])/\∀y,y≠c->y≠i->y≠f->(g.set f X) y=σ y):=λb g p j=>by
    refine⟨by rw[j.2 f B,ab.ai],by omega,λenv X N J K L eX=>⟨b,by omega,N,J,K,L,?_,?_,by rw[ab.ai,eX],λy o Y y3=>?_⟩⟩
    . obtain⟨n,z,C,S⟩:=j.1
      exact⟨n,z,by omega,by rw[ab.ah _ _ (za B)];exact S⟩
    . rw[ab.ah _ _ (za s),j.2 i (za v),ab.ah _ _ (za s)];exact q4
    . rw[ab.ah _ _ y3,j.2 y o,ab.ah _ _ y3];grind
   refine⟨?_,?_⟩
   . refine cf Tryz.func19 rfl (dM (by omega) H (by omega) (by omega) R λb g p j=>?_)
     obtain⟨g5,C,gI⟩:=fin b g p j;have Z:=NO (a:=d+b) ht;apply pg;simp[g5,C.1,C.2,Z,aG];exact u _ _ (gI _ _ (by simp) (by simp) (by simp) (by simp) rfl)
   . refine cf Tryz.func19 rfl (dM (by omega) H (by omega) (by omega) R λb g p j=>?_)
     obtain⟨g5,C,gI⟩:=fin b g p j;have Z:=NO (a:=d+b) ht;apply pg;simp[g5,C.1,C.2,Z,aG];exact u _ _ (gI _ _ (by simp) (by simp) (by simp) (by simp) rfl)
 rintro env g ⟨b,p,N,J,K,L,a8,u4,u5,a9⟩
 apply rn;simp[N,J,K,L];refine cf Tryz.func18 rfl (eh (by omega) H ⟨by omega,by omega⟩ a8 λo aO b0 D=>?_)
 apply rn;simp[N,J,K,L];refine cf Tryz.func54 rfl (mJ (l:=[0,0,o]) (by omega) H (by simp) D.1 λfr T b1 E=>?_)
 have hf:0<=fr/\fr<=20:=by grind
 have v5:T f=some (.cells [int d,int ((d+b).tmod t),int r,int 0,int 0]):=by rw[E.2 f B,D.2 f B];exact u5
 have r2:-9223372036854775808<=fr+20/\fr+20<=9223372036854775807:=by omega
 apply rn;simp[N,J,K,L,v5,aG,r2.1,r2.2];obtain⟨hi,ad,ax⟩:∃hi:Int,hi=(if fr+20<72 then fr+20 else 72)/\fr<=hi/\hi<=72:=⟨_,rfl,by omega,by omega⟩
 rw[<-ad]
 have U:bg c nums (k+5) (T.set f (.cells [int d,int ((d+b).tmod t),int r,int fr,int 0])):=by obtain⟨n,z,C,S⟩:=E.1;exact⟨n,z,by omega,by rw[ab.ah _ _ (za B)];exact S⟩
 refine cf Tryz.func19 rfl (dM (by omega) H (by omega) (by omega) U λY σ6 b2 F=>?_)
 apply rn;simp[N,J,K,L];refine cf Tryz.func54 rfl (mJ (l:=[72,72,Y]) (by omega) H (by simp) F.1 λtt V al G=>?_)
 have b3:fr<=tt/\tt<=72:=by simp at al;omega
 have w5:V f=some (.cells [int d,int ((d+b).tmod t),int r,int fr,int 0]):=by rw[G.2 f B,F.2 f B,ab.ai]
 have w4:V i=some (.cells [int 0,int 0,int 0,int 0,int 0]):=by rw[G.2 i (za v),F.2 i (za v),ab.ah _ _ (za s),E.2 i (za v),D.2 i (za v)];exact u4
 apply rn;simp[N,J,K,L,w5,w4,s,za s,ab.ah,aG];obtain⟨nb,zb,P,av⟩:=G.1;have ay:=RI ht Q p
 have hw:ki t ⟨d,(d+b).tmod t,r,fr,tt⟩=0:=by
  have J:bu d 0 (t-1)=true:=by simp only[bu,zj,ZL];omega
  have Z:bu ((d+b).tmod t) 0 (t-1)=true:=by simp only[bu,zj,ZL];omega
  have e3:bu r 1 12=true:=by simp only[bu,zj,ZL];omega
  have K:bu fr 0 72=true:=by simp only[bu,zj,ZL];omega
  have L:bu tt 0 72=true:=by simp only[bu,zj,ZL];omega
  unfold ki
  grind
 refine .less (σ':=σ.set c (.cells [ints nums,int nb,.lit (.int .u64 zb)])) (λy x O=>?_) (.done (h ⟨d,(d+b).tmod t,r,fr,tt⟩ _ hw ⟨⟨nb,zb,by omega,ab.ai _ _ _⟩,λy O=>ab.ah _ _ O⟩))
 have s5:σ f=none:=by simp_all
 by_cases o:y=c
 . subst o
   rw[ab.ai]at O;rw[ab.ah _ _ v,ab.ah _ _ (za B),av];exact O
 . rw[ab.ah _ _ o]at O
   have y4:y≠i:=λe=>by simp_all
   have y5:y≠f:=λe=>by simp_all
   rw[ab.ah _ _ y4,ab.ah _ _ y5,G.2 y o,F.2 y o,ab.ah _ _ y5,E.2 y o,D.2 y o,a9 y o y4 y5];exact O
end WY
end
end
section
open Go.cC Go.Conc
variable{m:Mo}{σ:ab}{KF:ach}
def kj(a b:acy):acy:=a.filter λx=>decide (x∉b)
def U8(a b:acy):Int:=((kj a b).length:Int)+((kj b a).length:Int)
theorem yz{a b:acy}{i}  h :kj (a.take (i+1)) b=kj (a.take i) b++if a[i]∈b then[]else[a[i]]:=by
 unfold kj;rw[zD h,aaT]
 grind
theorem nH  a b :(kj a b).length<=a.length:=abw _ _
def NP:aca:=[[],[0],[1],[2],[0,1],[0,2],[1,2],[0,1,2]]
theorem Ep{l}(h:l.Sublist [0,1,2]):l∈NP:=by cases h<;>(rename_i h;cases h<;>(rename_i h;cases h<;>(rename_i h;cases h;decide)))
theorem PE:∀a∈NP,∀b∈NP,U8 a b=bL (bf a) (bf b):=by decide +kernel
theorem Er{a b}(c:a.Sublist [0,1,2])(hb:b.Sublist [0,1,2]):U8 a b=bL (bf a) (bf b):=PE _ (Ep c) _ (Ep hb)
theorem Gd{a b}(x:a.length<1000000)(hb:b.length<1000000)(h:KF (.val (int (U8 a b))) σ):az prog m 85 [ints a,ints b] σ KF:=by
 refine fs [] Tryz.func85 rfl (by kernel_rfl) ?_
 simp[Tryz.f85];refine aa.loop a.length (λi s=>∃env,s=⟨env,σ,[],.no⟩/\env 0=ints a/\env 1=ints b/\env 5=int ((kj (a.take i) b).length:Int)/\env 6=int i) ⟨_,rfl,by simp[kj]⟩ ?_
 rintro u i _ v ⟨env,rfl,e,f,d,n⟩ r
 rcases aap i a.length with g1|g1
 . have t:(i:Int)<a.length:=by omega
   have j:=nH (a.take i) b;rw[aaP]at j;have f1:-9223372036854775808<=(i:Int)+1/\(i:Int)+1<=9223372036854775807:=by omega
   have o:-9223372036854775808<=((kj (a.take i) b).length:Int)+1/\((kj (a.take i) b).length:Int)+1<=9223372036854775807:=by omega
   have c:=yz (b:=b) g1;apply rn;simp[e,f,d,n,g1];refine cf Tryz.func24 rfl (sP (by omega) ?_)
   by_cases q:a[i]∈b
   . rw[ZS q,aay]at c
     have k:¬qC b a[i]<0:=by have:=(lP b a[i]).2 q;omega
     apply rn;simp[e,f,d,n,k,f1.1,f1.2]
     simp_all
   . rw[ZM q]at c
     have k:qC b a[i]<0:=by
      rcases Int.lt_or_le (qC b a[i]) 0 with g|g
      . exact g
      . exact absurd ((lP b a[i]).1 g) q
     apply rn;simp[e,f,d,n,k,f1.1,f1.2,o.1,o.2]
     simp_all
 . have l:i=a.length:=by omega
   subst l;rw[ZY]at d;have w:=nH a b;apply rn;simp[e,f,d,n];refine aa.loop b.length (λi s=>∃env,s=⟨env,σ,[],.no⟩/\env 0=ints a/\env 1=ints b/\env 5=int (((kj a b).length:Int)+((kj (b.take i) a).length:Int))/\env 7=int i) ⟨_,rfl,by simp[e,f,kj,d]⟩ ?_
   clear e f d n r
   rintro u i _ v ⟨env,rfl,e,f,d,p⟩ r
   rcases aap i b.length with g1|g1
   . have t:(i:Int)<b.length:=by omega
     have j:=nH (b.take i) a;rw[aaP]at j;have f1:-9223372036854775808<=(i:Int)+1/\(i:Int)+1<=9223372036854775807:=by omega
     have o:-9223372036854775808<=((kj a b).length:Int)+((kj (b.take i) a).length:Int)+1/\((kj a b).length:Int)+((kj (b.take i) a).length:Int)+1<=9223372036854775807:=by omega
     have c:=yz (b:=a) g1;apply rn;simp[e,f,d,p,g1];refine cf Tryz.func24 rfl (sP (by omega) ?_)
     by_cases q:b[i]∈a
     . rw[ZS q,aay]at c
       have k:¬qC a b[i]<0:=by have:=(lP a b[i]).2 q;omega
       apply rn;simp[e,f,d,p,k,f1.1,f1.2]
       simp_all
     . rw[ZM q]at c
       have k:qC a b[i]<0:=by
        rcases Int.lt_or_le (qC a b[i]) 0 with g|g
        . exact g
        . exact absurd ((lP a b[i]).1 g) q
       apply rn;simp[e,f,d,p,k,f1.1,f1.2,o.1,o.2];refine r _ g1 ⟨_,rfl,by simp_all,by simp_all,by simp[c,Int.add_assoc]⟩
   . have l:i=b.length:=by omega
     subst l;rw[ZY]at d;apply rn;simp[e,f,d,p];exact .done h
structure NQ  dS  (e:xO):Prop where
 hour:0<=e.hour/\e.hour<=72
 place:0<=e.place/\e.place<dS
 cR:0<=e.cR/\e.cR<=1
 marks:e.marks.Sublist [0,1,2]
 bs:0<=e.bs/\e.bs<=30
 jD:0<=e.jD/\e.jD<=2
theorem NQ.check{dS e}(h:NQ dS e):cH dS e=0:=by
 obtain⟨b,c,d,a,f,g⟩:=h;have a:=(lh a).1;unfold cH bu
 grind
structure Ge  cnt  (f:Fr)  ks :Prop where
 pJ:f.Good
 len:(f.aD.length:Int)<=cnt
 dS:f.roads.length<=3
 row:∀r∈f.roads,r.length<=3
 marks:∀e∈f.aD,e.marks.length<=3
 aW:f.aW<=3
 seen:∃  aW   C H   last ,Seen f aW C H ks f.aD last/\(aW:Int)=f.aW
theorem Ay{k}:∀  es   i   x ,i<es.length->(∀e∈es,e.cells.length=k)->x.cells.length=k->(flatten es).take (i*k)++x.cells++(flatten es).drop (i*k+k)=flatten (es.set i x)
 | e::es,0,x,_,a,b=>by
   have c:=a e (by simp);rw[List.set_cons_zero,flatten_cons,flatten_cons]
   grind
 | e::es,i+1,x,g,a,b=>by
   have c:=a e (by simp);have d:=Ay es i x (by simp_all) (λy f=>a y (by simp[f])) b;rw[List.set_cons_succ,flatten_cons,flatten_cons,<-d,abb,Nat.one_mul,abO,List.drop_append];rw[aaH (by omega),List.drop_eq_nil_of_le (by omega),c,show i*k+k-k=i*k by omega,show i*k+k+k-k=i*k+k by omega];simp
theorem NR{f n h}(g:f.aP<=f.dH)(i:0<=n.jD/\n.jD<=2)(hb:(n.jD≠1/\n.bs=h)\/(n.jD≠0/\∃y,f.aP<=y/\y<=f.dH/\n.bs=h+y)):h∈bS f n:=by
 have a:n.jD≠1->n.bs∈bS f n:=λc=>by
  unfold bS
  grind
 have b:∀x,x∈ja f n->x∈bS f n:=λx j=>by
  unfold bS
  grind
 rcases hb with⟨c,rfl⟩|⟨d,y,k,l,e⟩
 . exact a c
 . refine b _ ?_
   unfold ja;rw[ZS d];exact aad.2 ⟨(f.dH-y).toNat,ZN.2 (by omega),by omega⟩
theorem te{σ0 σ σ1 σ' a kk es}(h:Tok σ0 σ a kk es)(c:σ1.Le σ')(hb:∀b,bp a=some b->σ' b=σ b/\σ1 b=none):Tok σ1 σ' a kk es:=by
 refine⟨c,?_⟩;rcases h.2 with q|q|⟨b,e,f,d,g⟩
 . exact .inl q
 . simp_all
 . obtain⟨i,j⟩:=hb b (by rw[d];rfl)
   grind
theorem Hu{σ0 σ σ2 a kk es c}(h:bx σ0 σ a kk es)(i:σ0 c=none)(f:bO a≠some c)(d:∀y,y≠c->σ2 y=σ y):bx σ0 σ2 a kk es:=h.keep (λy x g=>by rw[d y (λe=>by simp_all)];exact h.1 y x g) λb hb=>⟨d b (λe=>f (e ▸ hb)),(h.dv hb).1⟩
theorem PF{σ0 σ σ' a c j kk k m es n o}(h:Tok σ0 σ a kk es)(f:bx σ0 σ c k n)(g:bx (σ.tx c) σ' j m o):Tok σ0 σ' a kk es:=
 te h (ab.le_trans f.here.2 g.1) λb hb=>by
  obtain⟨p,e,i⟩:=h.aR hb;have d:bO c≠some b:=λq=>by obtain⟨_,l,r⟩:=f.dv q;simp_all
  exact⟨by rw[i];exact g.1 b _ (by rw[ab.mh d];exact i),p⟩
theorem PG{σ0 σ σ' a c j kk k m es n o}(h:bx σ0 σ a kk es)(f:Tok σ0 σ c k n)(g:Tok (σ.off c) σ' j m o):bx σ0 σ' a kk es:=
 h.keep (ab.le_trans f.here.2 g.1) λb hb=>by
  obtain⟨p,l,i⟩:=h.dv hb;have d:bp c≠some b:=λq=>by obtain⟨_,e,r⟩:=f.aR q;simp_all
  exact⟨by rw[i];exact g.1 b _ (by rw[ab.du d];exact i),p⟩
theorem kQ{env:Env}{t u v}(h:u≠t):(env.upd t v) u=env u:=by simp_all
theorem SK{env:Env}{t v}:(env.upd t v) t=v:=by simp_all
structure Hv(V:Nat->AV)(ze:Env)  σ6   c c13 K   nums   T  (X:Int->acE) (done:acz) (env:Env)  σ :Prop where
 base:∀s,s<97->env s=ze s
 dJ:∀i,i∈done->i≠33->i≠34->i<36->env (97+i)=V i
 pre:33∉done->σ=σ6
 post:33∈done->36∉done->bg c nums K σ/\∀y,y≠c->σ y=σ6 y
 pick:33∈done->∃p ,(0<=p/\p<=3)/\env 130=int p/\(34∈done->env 131=int (T+p))
 all:36∈done->∀j,j<36->j∈done
 dep:34∈done->33∈done
 fin:36∈done->∃p ,(0<=p/\p<=3)/\bg c nums K σ/\σ c13=some (.cells (X (T+p)))/\∀y,y≠c->y≠c13->σ y=σ6 y
section
variable{V:Nat->AV}{ze env:Env}{σ6:ab}{c c13 K:Nat}{nums:acy}{T:Int}{X:Int->acE}{done:acz}
theorem Hv.PH(h:Hv V ze σ6 c c13 K nums T X done env σ){i}(hi:i<36)(b:i∉done):36∉done:=λa=>b (h.all a i hi)
theorem Hv.keep(h:Hv V ze σ6 c c13 K nums T X done env σ){i}(hi:i<36)(a:i∉done){y}(b:y≠c):σ y=σ6 y:=by
 by_cases q:33∈done
 . exact(h.post q (h.PH hi a)).2 y b
 . rw[h.pre q]
theorem Hv.next(h:Hv V ze σ6 c c13 K nums T X done env σ){i}(hi:i<36)(m:i∉done)(w:i≠33)(x:i≠34){a}(y:a=V i):Hv V ze σ6 c c13 K nums T X (i::done) (env.upd (97+i) a) σ:=by
 have b:33∈i::done↔33∈done:=by grind
 have f:34∈i::done↔34∈done:=by grind
 have k:=h.PH hi m;have d:36∉i::done:=by grind
 refine⟨λs n=>?_,λj o r t u=>?_,λq=>h.pre λl=>q (b.2 l),λq _=>h.post (b.1 q) k,λq=>?_,λq=>absurd q d,λq=>b.2 (h.dep (f.1 q)),λq=>absurd q d⟩
 . rw[kQ (by omega)];exact h.base s n
 . by_cases e:j=i
   . simp_all
   . rw[kQ (by omega)]
     exact h.dJ j ((aae.1 o).resolve_left e) r t u
 . obtain⟨p,v,l,z⟩:=h.pick (b.1 q)
   exact⟨p,v,by rw[kQ (by omega)];exact l,λg=>by rw[kQ (by omega)];simp_all⟩
theorem Hv.RJ(h:Hv V ze σ6 c c13 K nums T X done env σ)(l:33∉done)(b:34∉done){p}(m:0<=p/\p<=3){σ'}(hb:bg c nums K σ')(d:∀y,y≠c->σ' y=σ6 y):Hv V ze σ6 c c13 K nums T X (33::done) (env.upd 130 (int p)) σ':=by
 have e:=h.PH (i:=33) (by omega) l;have a:36∉33::done:=by simp[e]
 have f:34∉33::done:=by simp[b]
 refine⟨λs d=>?_,λj n k o r=>?_,λq=>absurd (by simp) q,λ_ _=>⟨hb,d⟩,λq=>⟨p,m,by simp_all,λg=>absurd g f⟩,λq=>absurd q a,λ_=>by simp,λq=>absurd q a⟩
 . rw[kQ (by omega)];exact h.base s d
 . rw[kQ (by omega)]
   exact h.dJ j ((aae.1 n).resolve_left k) k o r
theorem Hv.summed(h:Hv V ze σ6 c c13 K nums T X done env σ)(f:34∉done)(a:33∈done){p}(k:0<=p/\p<=3)(r:env 130=int p):Hv V ze σ6 c c13 K nums T X (34::done) (env.upd 131 (int (T+p))) σ:=by
 have b:=h.PH (i:=34) (by omega) f;have d:36∉34::done:=by simp[b]
 refine⟨λs l=>?_,λj m n e o=>?_,λq=>absurd (by simp[a]) q,λ_ _=>h.post a b,λq=>⟨p,k,by simp_all,λg=>by simp_all⟩,λq=>absurd q d,λ_=>by simp[a],λq=>absurd q d⟩
 . rw[kQ (by omega)];exact h.base s l
 . rw[kQ (by omega)]
   exact h.dJ j ((aae.1 m).resolve_left e) n e o
end
theorem B1{σ0 σ σ' a c f kk j k es l m}(h:Tok σ0 σ a kk es)(n:Tok σ0 σ c j l)(hd:∀b,bp a=some b->bp c≠some b)(d:Tok (σ.off c) σ' f k m):Tok σ0 σ' a kk es/\∀b,bp a=some b->bp f≠some b:=by
 have key:∀b,bp a=some b->(σ.off c) b=σ b:=λb hb=>ab.du (hd b hb)
 refine⟨te h (ab.le_trans n.here.2 d.1) λb hb=>?_,λb hb q=>?_⟩
 . obtain⟨g,e,i⟩:=h.aR hb
   exact⟨by rw[i];exact d.1 b _ (by simp_all),g⟩
 . obtain⟨g,e,i⟩:=h.aR hb
   obtain⟨o,_,_⟩:=d.aR q
   simp_all
section
variable{c k:Nat}{nums:acy}
theorem JE{cnt}(hk:k+500<1000000)(hn:nums.length<1152921504606846976)(ts:1<=cnt/\cnt<=6)(hb:bg c nums k σ)(h:∀  f   ks  σ',Ge cnt f ks->ov c nums (k+500) σ σ'->KF (.val (.cu [cM f,ints ks])) σ'):az prog m 40 [.ref c 0,int cnt] σ KF:=by
 obtain⟨n0,s0,_,oN⟩:=id hb;refine fs Wm Tryz.func40 rfl (by kernel_rfl) ?_
 simp[Tryz.f40];refine bI.intro λX h4=>?_
 have n4:c≠X:=λe=>by simp_all
 have hY:∀x,bg c nums k (σ.set X x):=λx=>⟨n0,s0,by assumption,by rw[ab.ah _ _ n4];exact oN⟩
 simp;refine cf Tryz.func83 rfl (FT (cnt:=0) (by omega) hn ⟨by omega,by omega⟩ (hY _) λf0 a0 hZ Z ej oS=>?_)
 obtain rfl:=oS.1 (abM.1 (by have:=Z.len;omega))
 have bA:X≠c:=za n4;have p0:hZ X=some (.cells fU):=by rw[ej.2 X bA,ab.ai]
 apply rn;simp;refine bI.intro λP h6=>?_
 have n6:P≠c:=λe=>by subst e;obtain⟨_,_,_,q⟩:=ej.1;simp_all
 have ft:P≠X:=λe=>by simp_all
 have p5:σ P=none:=by rw[ej.2 P n6,ab.ah _ _ ft]at h6;exact h6
 simp
 have h3:∀x,bg c nums (k+20) (hZ.set P x):=λx=>by obtain⟨n,z,g1,g2⟩:=ej.1;exact⟨n,z,g1,by rw[ab.ah _ _ (za n6)];exact g2⟩
 refine cf Tryz.func19 rfl (dM (by omega) hn ⟨by omega,by omega⟩ ⟨by omega,by omega⟩ (h3 _) λaW eb wK fu=>?_)
 have t6:eb P=some (.cells [.lit (.slice none 0 0),rows f0.roads,int f0.aP,int f0.dH,int f0.cL,int f0.aW]):=by rw[fu.2 P n6,ab.ai]
 have t4:eb X=some (.cells fU):=by rw[fu.2 X bA,ab.ah _ _ (za ft)];exact p0
 apply rn;simp[t6,aG];obtain⟨mo,rfl⟩:∃mo:Nat,aW=(mo:Int):=⟨aW.toNat,by omega⟩
 have wL:1<=mo/\mo<=3:=by omega
 have h5:=Z.dS;obtain⟨A6,ep⟩:∃A6:AV->acE,A6=λa=>[a,rows f0.roads,int f0.aP,int f0.dH,int f0.cL,int mo]:=⟨_,rfl⟩
 have p6:∀a,(A6 a).length=6:=λa=>by grind
 have b4:σ.del c c=none:=by simp[ab.del]
 have ic:bg c nums (k+21) (eb.set P (.cells (A6 (.lit (.slice none 0 0))))):=by obtain⟨n,z,g1,g2⟩:=fu.1;exact⟨n,z,by omega,by rw[ab.ah _ _ (za n6)];exact g2⟩
 have al:(σ.del c).Le (eb.set P (.cells (A6 (.lit (.slice none 0 0))))):=λy x hy=>by
  have Y:y≠c:=λe=>by simp_all
  have y0:σ y=some x:=by simpa[ab.del,Y]using hy
  have y6:y≠P:=λe=>by simp_all
  have y4:y≠X:=λe=>by simp_all
  rw[ab.ah _ _ y6,fu.2 y Y,ab.ah _ _ y6,ej.2 y Y,ab.ah _ _ y4];exact y0
 have p7:σ.del c P=none:=by simp[ab.del,p5]
 have wN:σ.del c X=none:=by simp[ab.del,h4]
 have ie:(eb.set P (.cells (A6 (.lit (.slice none 0 0))))) X=some (.cells fU):=by rw[ab.ah _ _ (za ft)];exact t4
 refine aa.loop mo (λi s=>∃env σ' la ha L H,s=⟨env,σ',[],.no⟩/\env 0=.ref c 0/\env 1=int cnt/\env 4=.ref X 0/\env 6=.ref P 0/\env 7=la/\env 8=ha/\env 9=int i/\bg c nums (k+21+12*i) σ'/\σ' X=some (.cells fU)/\σ' P=some (.cells (A6 (.lit (.slice none 0 0))))/\bx (σ.del c) σ' la 6 (L.map bn)/\Tok (σ.del c) σ' ha 1 (H.map int)/\bO la≠some c/\bO la≠some X/\bO la≠some P/\L.length=i/\H.length=i/\(∀e∈L,xY f0.roads.length e)/\(∀x∈H,13<=x/\x<=16))
  ⟨_,eb.set P (.cells (A6 (.lit (.slice none 0 0)))),.lit (.slice none 0 0),.lit (.slice none 0 0),[],[],by rw[ep],by simp,by simp,by simp,by simp,by simp,by simp,by simp,ic,ie,ab.ai _ _ _,⟨al,.inl ⟨rfl,.inl rfl⟩⟩,⟨al,.inl ⟨rfl,rfl⟩⟩,by simp[bO],by simp[bO],by simp[bO],rfl,rfl,by simp⟩ ?_
 clear ic al ie
 rintro c0 i _ hi ⟨env,σ',la,ha,L,H,rfl,D,e1,G,E,F,J,e9,fv,q4,q6,et,ev,ey,fw,fx,ix,p8,h7,k0⟩ ih
 have b5:=et.cells;have d:=ev.cells;have a7:σ' P=some (.cells [.lit (.slice none 0 0),rows f0.roads,int f0.aP,int f0.dH,int f0.cL,int mo]):=by rw[q6,ep]
 rcases aap i mo with g1|g1
 . have k2:(i:Int)<mo:=by omega
   have f1:-9223372036854775808<=(i:Int)+1/\(i:Int)+1<=9223372036854775807:=by omega
   apply rn;simp[D,e1,G,E,F,J,e9,a7,b5.1,b5.2,d.1,d.2,g1];refine cf Tryz.func84 rfl (ow (by omega) hn ⟨by omega,by omega⟩ fv λe a8 he U=>?_)
   have k3:∃l,σ' c=some (.cells l):=by obtain⟨_,_,_,q⟩:=fv;exact⟨_,q⟩
   have eA:=Hu et b4 ey U.2;have k5:=qv ev b4 k3 U.2;have eB:a8 X=some (.cells fU):=by rw[U.2 X bA];exact q4
   have eK:a8 P=some (.cells (A6 (.lit (.slice none 0 0)))):=by rw[U.2 P n6];exact q6
   apply rn;simp[D,e1,G,E,F,J,e9,a7,b5.1,b5.2,d.1,d.2];refine jo lay rfl rfl rfl lM rfl lM rfl xN (by decide) (by simp;omega) (σ0:=a8.tx la) (es:=L.map bn) (xs:=[bn e]) (by simpa using eA.here.1) (.inl (.inr ⟨_,by simp;rfl⟩)) (by simp) λfO aO av=>?_
   have k4:∀y l,bO la≠some y->a8 y=some l->aO y=some l:=λy l hy hl=>av.1 _ _ (by rw[ab.mh hy];exact hl)
   have k7:=PF k5 eA av;have h8:=av.base eA.here.2
   have k8:bg c nums (k+21+12*i+11) aO:=by obtain⟨n,z,g1,g2⟩:=U.1;exact⟨n,z,g1,k4 _ _ ey g2⟩
   have gA:bO fO≠some c:=λq=>by obtain⟨g,_⟩:=av.dv q;obtain⟨_,_,_,g2⟩:=U.1;rw[ab.mh ey,g2]at g;cases g
   have kt:bO fO≠some X:=λq=>by obtain⟨g,_⟩:=av.dv q;rw[ab.mh fw,eB]at g;cases g
   have kv:bO fO≠some P:=λq=>by obtain⟨g,_⟩:=av.dv q;rw[ab.mh fx,eK]at g;cases g
   have aL:=av.cells;apply rn;simp[D,J,aL.1,aL.2];refine cf Tryz.func19 rfl (dM (by omega) hn ⟨by omega,by omega⟩ ⟨by omega,by omega⟩ k8 λx ec pa b1=>?_)
   have kx:∃l,aO c=some (.cells l):=by obtain⟨_,_,_,q⟩:=k8;exact⟨_,q⟩
   have ca:=qv k7 b4 kx b1.2;have ky:=Hu h8 b4 gA b1.2;apply rn;simp[D,J,aL.1,aL.2,d.1,d.2];refine aN lay rfl rfl rfl dG rfl dG rfl rA (by decide) (by simp;omega) (σ0:=ec.off ha) (es:=H.map int) (xs:=[int x]) (by simpa using ca.here.1) (.inr ⟨_,by simp;rfl⟩) λpb σ6 cb=>?_
   have l1:=PG ky ca cb;have h9:=cb.base ca.here.2;have gB:=cb.cells;have k6:∀y l,ec y=some (.cells l)->σ6 y=some (.cells l):=λy l hy=>cb.1 _ _ (by rw[ab.du (λe=>by obtain⟨_,_,q⟩:=ca.aR e;rw[hy]at q;cases q)];exact hy)
   have pd:σ6 X=some (.cells fU):=k6 _ _ (by rw[b1.2 X bA];exact k4 _ _ fw eB)
   have pk:σ6 P=some (.cells (A6 (.lit (.slice none 0 0)))):=k6 _ _ (by rw[b1.2 P n6];exact k4 _ _ fx eK)
   have b2:bg c nums (k+21+12*(i+1)) σ6:=by obtain⟨n,z,g1,g2⟩:=b1.1;exact⟨n,z,by omega,k6 _ _ g2⟩
   apply rn;simp[D,e9,f1.1,f1.2,aL.1,aL.2,gB.1,gB.2];refine ih _ g1 ⟨_,σ6,fO,pb,L++[e],H++[x],rfl,by simp[D],by simp[e1],by simp[G],by simp[E],by simp,by simp,by simp,b2,pd,pk,by simpa using l1,by simpa using h9,gA,kt,kv,by simp[ix],by simp[p8],λy hy=>?_,λy hy=>?_⟩
   . rcases ZQ.1 hy with hy|hy
     . exact h7 y hy
     . simp at hy;subst hy;exact he
   . rcases ZQ.1 hy with hy|hy
     . exact k0 y hy
     . simp at hy;omega
 . have ps:i=mo:=by omega
   subst ps;clear ih
   obtain⟨Q,cap,rest,rfl,r1,r2,r3,r4,r5⟩:∃Q cap rest,la=.gk Q 0 i cap/\σ.del c Q=none/\i<=cap/\(∀e∈L.map bn,e.cells.length=6)/\σ' Q=some (.cells (flatten (L.map bn)++rest))/\rest.length=(cap-i)*6:=by
    have eN:(L.map bn).length=i:=by simp_all
    rcases et.2 with⟨e,_⟩|⟨b,cap,rest,g1,g2,g3,g4,g5,g6⟩
    . grind
    . rw[eN]at g1 g3 g6
      grind
   have ay:Q≠c:=λe=>ey (by rw[e];rfl)
   have pA:Q≠X:=λe=>fw (by rw[e];rfl)
   have ho:Q≠P:=λe=>fx (by rw[e];rfl)
   have v3:σ Q=none:=by simpa[ab.del,ay]using r1
   refine aa.JM 8 (a':=ints H) (by rw[J];simpa using ev.W) ?_
   have b8:=ev.1;clear et ev b5 d ey fw fx J;apply rn;simp[D,e1,G,E,F,e9,a7];refine cf Tryz.func19 rfl (dM (by omega) hn ⟨by omega,by omega⟩ ⟨by omega,by omega⟩ fv λq a8 hq U=>?_)
   have eB:a8 X=some (.cells fU):=by rw[U.2 X bA];exact q4
   have eK:a8 P=some (.cells (A6 (.lit (.slice none 0 0)))):=by rw[U.2 P n6];exact q6
   have l2:a8 Q=some (.cells (flatten (L.map bn)++rest)):=by rw[U.2 Q ay];exact r4
   have al:(σ.del c).Le a8:=λy x hy=>by
    have Y:y≠c:=λe=>by simp_all
    rw[U.2 y Y];exact b8 y x hy
   obtain⟨qn,rfl⟩:∃qn:Nat,q=(qn:Int):=⟨q.toNat,by omega⟩
   have wS:1<=qn/\qn<=6:=by omega
   have gC:bg c nums (k+60) a8:=U.1.mono (by omega)
   obtain⟨C,hC⟩:∃C,C=L.map (·.cR):=⟨_,rfl⟩;obtain⟨f1,eR⟩:∃f1:Fr,f1=⟨[],f0.roads,f0.aP,f0.dH,f0.cL,(i:Int)⟩:=⟨_,rfl⟩
   have cg:Seen f1 i C H [] [] L:=⟨rfl,by simp,by simp,λj hj=>by simp at hj,λj hj=>by simp at hj,λa b _ hb=>by simp at hb,λj hj=>by simp at hj,λj hj=>by simp_all,ix⟩
   have gD:∀e∈L,NQ f0.roads.length e:=λe he=>by have:=h7 e he;exact⟨⟨this.hour.1,by have:=this.hour;omega⟩,this.place,this.cR,this.marks,⟨by have:=this.bs;omega,by have:=this.bs;omega⟩,this.jD⟩
   apply rn;simp[D,e1,G,E,F,e9,a7];have l3:=D;have l4:=G;have l5:=E;have l6:=F;clear D e1 G E F e9 a7 h7 r3
   refine aa.loop qn (λj s=>∃env σ' a hh M es ks,s=⟨env,σ',[],.no⟩/\env 0=.ref c 0/\env 4=.ref X 0/\env 6=.ref P 0/\env 7=.gk Q 0 i cap/\env 8=ints H/\env 10=hh/\env 11=int ((qn:Int)-j)/\bg c nums (k+60+16*j) σ'/\σ' X=some (.cells fU)/\σ' P=some (.cells (A6 a))/\σ' Q=some (.cells (flatten (M.map bn)++rest))/\Tok (σ.del c) σ' a 6 (es.map bn)/\Tok (σ.del c) σ' hh 1 (ks.map int)/\(∀b,bp a=some b->bp hh≠some b)/\Seen f1 i C H ks es M/\(∀e∈M,NQ f0.roads.length e)/\(∀e∈es,e.marks.length<=3)/\es.length<=j)
    ⟨_,a8,.lit (.slice none 0 0),.lit (.slice none 0 0),L,[],[],rfl,by simp[l3],by simp[l4],by simp[l5],by simp[l6],by simp,by simp,by simp,gC,eB,eK,l2,⟨al,.inl ⟨rfl,rfl⟩⟩,⟨al,.inl ⟨rfl,rfl⟩⟩,λb hb=>by simp[bp]at hb,cg,gD,by simp⟩ ?_
   clear l3 l4 l5 l6 gC eB eK l2 al b8 cg gD q4 q6 fv U r4
   rintro c1 j _ hj ⟨env,σ',a,hh,M,es,ks,rfl,D,G,E,F,J,cd,cY,hv,q4,q6,ql,b9,ed,gG,O,gd,hz,x0⟩ ih
   have o:=b9.cells;have d:=ed.cells;have a7:σ' P=some (.cells [a,rows f0.roads,int f0.aP,int f0.dH,int f0.cL,int i]):=by rw[q6,ep]
   rcases aap j qn with g1|g1
   . have k2 : (0 : Int)<(qn:Int)-j:=by omega
     have E0:(j:Int)<qn:=by omega
     have f2:-9223372036854775808<=(i:Int)-1/\(i:Int)-1<=9223372036854775807:=by omega
     have f3:-9223372036854775808<=(qn:Int)-j-1/\(qn:Int)-j-1<=9223372036854775807:=by omega
     apply rn;simp[D,G,E,F,J,cd,cY,o.1,o.2,d.1,d.2,k2,E0,g1,a7,f2.1,f2.2];refine cf Tryz.func18 rfl (eh (by omega) hn ⟨by omega,by omega⟩ hv λkk a8 x3 U=>?_)
     obtain⟨R,rfl⟩:∃R:Nat,kk=(R:Int):=⟨kk.toNat,by omega⟩
     have bB:R<i:=by omega
     have w6:a8 P=some (.cells [a,rows f0.roads,int f0.aP,int f0.dH,int f0.cL,int i]):=by rw[U.2 P n6];exact a7
     apply rn;simp[D,G,E,F,J,cd,cY,o.1,o.2,d.1,d.2,w6];refine cf Tryz.func84 rfl (ow (by omega) hn ⟨by omega,by omega⟩ U.1 λe aO he hA=>?_)
     have c5:∀y,y≠c->aO y=σ' y:=λy hy=>(hA.2 y hy).trans (U.2 y hy)
     have w6:aO P=some (.cells [a,rows f0.roads,int f0.aP,int f0.dH,int f0.cL,int i]):=by rw[c5 P n6];exact a7
     have wl:aO Q=some (.cells (flatten (M.map bn)++rest)):=by rw[c5 Q ay];exact ql
     have w4:aO X=some (.cells fU):=by rw[c5 X bA];exact q4
     apply rn;simp[D,G,E,F,J,cd,cY,o.1,o.2,d.1,d.2,w6];refine bI.intro λc13 l7=>?_
     have m0:c13≠c:=λe=>by subst e;obtain⟨_,_,_,q⟩:=hA.1;simp_all
     have m4:c13≠X:=λe=>by subst e;simp_all
     have m6:c13≠P:=λe=>by subst e;simp_all
     have ml:c13≠Q:=λe=>by subst e;simp_all
     have gf:R<M.length:=by rw[O.Rw];exact bB
     obtain⟨el,eN⟩:∃el,el=M[R]:=⟨_,rfl⟩;have bm:=gd el (by rw[eN];exact zA gf)
     obtain⟨CL,eW⟩:∃CL,CL=flatten (M.map bn)++rest:=⟨_,rfl⟩;rw[<-eW]at wl;have hB:∀x∈M.map bn,x.cells.length=6:=λx hx=>by obtain⟨y,_,rfl⟩:=aad.1 hx;rfl
     have gH:(flatten (M.map bn)).length=M.length*6:=by rw[bc (kk:=6) hB,ZZ]
     have cm:∀t,t<6->CL[R*6+t]?=(bn el).cells[t]?:=λt ht=>by
      rw[eW,aav (by omega)]
      exact ma (kk:=6) hB (by rw[aan,KD gf,eN];rfl) t ht
     have lj:=cm 0 (by omega)
     have lp:=cm 1 (by omega)
     have lA:=cm 2 (by omega)
     have lB:=cm 3 (by omega)
     simp at lj lp lA lB;simp[D,G,E,F,J,cd,cY,o.1,o.2,d.1,d.2,wl,ab.ah,za ml,bB,lA,aG]
     have pB:∀x,bg c nums (k+60+16*j+12) (aO.set c13 x):=λx=>by obtain⟨n,z,g1,g2⟩:=hA.1;exact⟨n,z,by omega,by rw[ab.ah _ _ (za m0)];exact g2⟩
     refine cf Tryz.func18 rfl (eh (by omega) hn ⟨by omega,by omega⟩ (pB _) λsh ec pa b1=>?_)
     have hD:ec c13=some (.cells [int e.hour,int e.place,int el.cR,ints e.marks,int e.bs,int e.jD]):=by rw[b1.2 c13 m0,ab.ai]
     have ee:R<H.length:=by omega
     obtain⟨h0,eg⟩:∃h0,h0=H[R]:=⟨_,rfl⟩;have v5:13<=h0/\h0<=16:=k0 _ (by rw[eg];exact zA ee)
     have hE:(H.map int)[R]?=some (int h0):=by rw[aan,KD ee,eg];rfl
     have m1:sh=0\/sh=1\/sh=2:=by omega
     have gI:0<=sh/\sh<=2:=by omega
     have m2:f0.aP<=f0.dH:=Z.to.1;have x4:0<=f0.aP/\f0.dH<=2:=⟨Z.fr.1,Z.to.2⟩
     have hF:∀x,bg c nums (k+60+16*j+13) (ec.set c13 x):=λx=>by obtain⟨n,z,g1,g2⟩:=b1.1;exact⟨n,z,by omega,by rw[ab.ah _ _ (za m0)];exact g2⟩
     have hG:∀y,y≠c->y≠c13->ec y=σ' y:=λy Y y2=>by rw[b1.2 y Y,ab.ah _ _ y2,c5 y Y]
     have v9:ks.length<1000000:=by rw[O.len];omega
     apply vh (I:=λenv σ6=>∃b,env 0=.ref c 0/\env 4=.ref X 0/\env 6=.ref P 0/\env 7=.gk Q 0 i cap/\env 8=ints H/\env 10=hh/\env 11=int ((qn:Int)-j)/\env 12=int R/\env 13=.ref c13 0/\env 80=bool b/\bg c nums (k+60+16*j+14) σ6/\σ6 c13=some (.cells [int e.hour,int e.place,int el.cR,ints e.marks,int h0,int sh])/\(∀y,y≠c->y≠c13->σ6 y=σ' y)/\(b=true->sh≠0)/\(b=false->sh≠1))
     . intro T
       rcases m1 with rfl|rfl|rfl
       . refine aa.runN lay [] 28 ?_
         simp[D,G,E,F,J,cd,cY,o.1,o.2,d.1,d.2,hD,hE,ee,aG,<-eg]
         refine T _ _ ⟨false,by simp[D,G,E,F,J,cd,cY,o.1,o.2,d.1,d.2],by simp[D,G,E,F,J,cd,cY,o.1,o.2,d.1,d.2],by simp[D,G,E,F,J,cd,cY,o.1,o.2,d.1,d.2],by simp[D,G,E,F,J,cd,cY,o.1,o.2,d.1,d.2],by simp[D,G,E,F,J,cd,cY,o.1,o.2,d.1,d.2],by simp[D,G,E,F,J,cd,cY,o.1,o.2,d.1,d.2],by simp[D,G,E,F,J,cd,cY,o.1,o.2,d.1,d.2],by simp[D,G,E,F,J,cd,cY,o.1,o.2,d.1,d.2],by simp[D,G,E,F,J,cd,cY,o.1,o.2,d.1,d.2],by simp[D,G,E,F,J,cd,cY,o.1,o.2,d.1,d.2],(hF _).mono (by omega),ab.ai _ _ _,λy Y y2=>by rw[ab.ah _ _ y2];exact hG y Y y2,by simp⟩
       . refine aa.runN lay [] 28 ?_
         simp[D,G,E,F,J,cd,cY,o.1,o.2,d.1,d.2,hD,hE,ee,aG,<-eg]
         refine T _ _ ⟨true,by simp[D,G,E,F,J,cd,cY,o.1,o.2,d.1,d.2],by simp[D,G,E,F,J,cd,cY,o.1,o.2,d.1,d.2],by simp[D,G,E,F,J,cd,cY,o.1,o.2,d.1,d.2],by simp[D,G,E,F,J,cd,cY,o.1,o.2,d.1,d.2],by simp[D,G,E,F,J,cd,cY,o.1,o.2,d.1,d.2],by simp[D,G,E,F,J,cd,cY,o.1,o.2,d.1,d.2],by simp[D,G,E,F,J,cd,cY,o.1,o.2,d.1,d.2],by simp[D,G,E,F,J,cd,cY,o.1,o.2,d.1,d.2],by simp[D,G,E,F,J,cd,cY,o.1,o.2,d.1,d.2],by simp[D,G,E,F,J,cd,cY,o.1,o.2,d.1,d.2],(hF _).mono (by omega),ab.ai _ _ _,λy Y y2=>by rw[ab.ah _ _ y2];exact hG y Y y2,by simp⟩
       . refine aa.runN lay [] 28 ?_
         simp[D,G,E,F,J,cd,cY,o.1,o.2,d.1,d.2,hD,hE,ee,aG,<-eg];refine cf Tryz.func20 rfl (sT (by omega) hn ⟨by omega,by omega⟩ (hF _) λb σ6 hH=>?_)
         refine aa.runN lay [] 3 ?_;simp[D,G,E,F,J,cd,cY,o.1,o.2,d.1,d.2]
         refine T _ _ ⟨b,by simp[D,G,E,F,J,cd,cY,o.1,o.2,d.1,d.2],by simp[D,G,E,F,J,cd,cY,o.1,o.2,d.1,d.2],by simp[D,G,E,F,J,cd,cY,o.1,o.2,d.1,d.2],by simp[D,G,E,F,J,cd,cY,o.1,o.2,d.1,d.2],by simp[D,G,E,F,J,cd,cY,o.1,o.2,d.1,d.2],by simp[D,G,E,F,J,cd,cY,o.1,o.2,d.1,d.2],by simp[D,G,E,F,J,cd,cY,o.1,o.2,d.1,d.2],by simp[D,G,E,F,J,cd,cY,o.1,o.2,d.1,d.2],by simp[D,G,E,F,J,cd,cY,o.1,o.2,d.1,d.2],by simp[D,G,E,F,J,cd,cY,o.1,o.2,d.1,d.2],hH.1,by rw[hH.2 c13 m0,ab.ai],λy Y y2=>by rw[hH.2 y Y,ab.ah _ _ y2];exact hG y Y y2,by simp⟩
     clear D G E F J cd cY
     rintro env σ6 ⟨b,D,G,E,F,J,cd,cY,eZ,K,gj,b2,a9,aC,m3,md⟩
     apply vh (I:=λenv σ6=>∃ht,env 0=.ref c 0/\env 4=.ref X 0/\env 6=.ref P 0/\env 7=.gk Q 0 i cap/\env 8=ints H/\env 10=hh/\env 11=int ((qn:Int)-j)/\env 12=int R/\env 13=.ref c13 0/\env 95=int (qC ks R)/\bg c nums (k+60+16*j+15) σ6/\σ6 c13=some (.cells [int e.hour,int e.place,int el.cR,ints e.marks,int ht,int sh])/\(∀y,y≠c->y≠c13->σ6 y=σ' y)/\((sh≠1/\ht=h0)\/(sh≠0/\∃y,f0.aP<=y/\y<=f0.dH/\ht=h0+y)))
     . intro T
       have hW:Wl [hh,int R] [ints ks,int R]:=.cons (by simpa using ed.W) (.cons (.refl _) .nil)
       cases b
       . apply rn
         simp[D,G,E,F,J,cd,cY,eZ,K,gj];refine bU Tryz.func24 rfl rfl hW (sP (by omega) ?_)
         refine T _ _ ⟨h0,?_,?_,?_,?_,?_,?_,?_,?_,?_,?_,b2.mono (by omega),a9,aC,.inl ⟨md rfl,rfl⟩⟩<;>simp[D,G,E,F,J,cd,cY,eZ,K,gj]
       . have v6 : σ6 P=some (.cells [a,rows f0.roads,int f0.aP,int f0.dH,int f0.cL,int i]):=by rw[aC P n6 (za m6)];exact a7
         have x5:=Z.fr;have et:=Z.to;apply rn;simp[D,G,E,F,J,cd,cY,eZ,K,gj,a9,v6,aG]
         repeat' (first
                   |apply And.intro
                   | (refine cf Tryz.func19 rfl (dM (by omega) hn ⟨by omega,by omega⟩ ⟨by omega,by omega⟩ b2 λy S hy hK=>?_)
                      have pO:S c13=some (.cells [int e.hour,int e.place,int el.cR,ints e.marks,int h0,int sh]):=by rw[hK.2 c13 m0];exact a9
                      have f4:-9223372036854775808<=h0+y/\h0+y<=9223372036854775807:=by omega
                      apply pg;simp[D,G,E,F,J,cd,cY,eZ,K,pO,f4.1,f4.2,aG];apply rn;simp[D,G,E,F,J,cd,cY,eZ,K];refine bU Tryz.func24 rfl rfl hW (sP (by omega) ?_)
                      refine T _ _ ⟨h0+y,by simp[D],by simp[G],by simp[E],by simp[F],by simp[J],by simp[cd],by simp[cY],by simp[eZ],by simp[K],by simp,?_,ab.ai _ _ _,λz Y y2=>by rw[ab.ah _ _ y2,hK.2 z Y];exact aC z Y y2,.inr ⟨m3 rfl,y,by omega,by omega,rfl⟩⟩
                      obtain⟨n,z,g1,g2⟩:=hK.1;exact⟨n,z,by omega,by rw[ab.ah _ _ (za m0)];exact g2⟩))
     clear b2 a9 aC D G E F J cd cY eZ K gj m3 md
     rintro env σ6 ⟨ht,D,G,E,F,J,cd,cY,eZ,K,ad,b2,a9,aC,mf⟩
     have hL:0<=ht/\ht<=30:=by rcases mf with⟨_,q⟩|⟨_,y,q1,q2,q3⟩<;>omega
     have aE:=Fr.pJ (Z.fits (by omega)) (Z.check (by omega))
     have x6:∀x∈M,x.marks.length<=3:=λx hx=>(lh (gd x hx).marks).2
     have q0:=(lh he.marks).2;have vc:=(lh bm.marks).2;have mg:=he.place;have mi:=bm.place;have vj:=bm.hour;have mj:=Z.cL;apply vh (I:=λenv S=>∃hr,env 0=.ref c 0/\env 4=.ref X 0/\env 6=.ref P 0/\env 7=.gk Q 0 i cap/\env 8=ints H/\env 10=hh/\env 11=int ((qn:Int)-j)/\env 12=int R/\env 13=.ref c13 0/\bg c nums (k+60+16*j+16) S/\S c13=some (.cells [int hr,int e.place,int el.cR,ints e.marks,int ht,int sh])/\(∀y,y≠c->y≠c13->S y=σ' y)/\(0<=hr/\hr<=1000)/\((R:Int)∈ks->Ng f1 el {e with hour:=hr}))
     . intro T
       by_cases hO:(R:Int)∈ks
       . have q2:qC ks R>=0:=(lP ks R).2 hO
         obtain⟨rw,cv⟩:∃rw,rw=f0.roads[el.place.toNat]'(by omega):=⟨_,rfl⟩
         have gP:=aE.row (i:=el.place.toNat) (by omega)
         rw[<-cv]at gP;have dj:e.place.toNat<rw.length:=by omega
         obtain⟨r,gl⟩:∃r,r=rw[e.place.toNat]:=⟨_,rfl⟩;have x7:=gP.2 r (by rw[gl];exact zA dj)
         have b3:el.place.toNat<f0.roads.length:=by omega
         have q5:(f0.roads.map ints)[el.place.toNat]?=some (ints rw):=by rw[aan,KD b3,cv];rfl
         have hr:(rw.map int)[e.place.toNat]?=some (int r):=by rw[aan,KD dj,gl];rfl
         have mm:=dj;obtain⟨ch,hP⟩:∃ch,ch=U8 el.marks e.marks:=⟨_,rfl⟩
         have eX:0<=ch/\ch<=6:=by have q1:=nH el.marks e.marks;have q2:=nH e.marks el.marks;rw[hP];unfold U8;omega
         have x8:0<=f0.cL*ch/\f0.cL*ch<=24:=⟨Int.mul_nonneg (by omega) eX.1,Int.le_trans (Int.mul_le_mul mj.2 eX.2 eX.1 (by omega)) (by omega)⟩
         have mw:-9223372036854775808<=el.hour+r/\el.hour+r<=9223372036854775807:=by omega
         have mx:-9223372036854775808<=f0.cL*ch/\f0.cL*ch<=9223372036854775807:=by omega
         have mA:-9223372036854775808<=el.hour+r+f0.cL*ch/\el.hour+r+f0.cL*ch<=9223372036854775807:=by omega
         have hR:σ6 Q=some (.cells CL):=by rw[aC Q ay (za ml),<-c5 Q ay];exact wl
         have gR:σ6 P=some (.cells [a,rows f0.roads,int f0.aP,int f0.dH,int f0.cL,int i]):=by rw[aC P n6 (za m6)];exact a7
         refine aa.runN lay [] 3 ?_;simp[D,G,E,F,J,cd,cY,eZ,K,ad,q2]
         obtain⟨V,hV⟩:∃V:Nat->AV,V=λj=>([.gk Q 0 i cap,int R,.ref Q (R*6),.ref Q (R*6),int el.hour,.ref P 1,rows f0.roads,.gk Q 0 i cap,int R,.ref Q (R*6),.ref Q (R*6+1),int el.place,.cp (ints rw) 0,ints rw,.ref c13 1,int e.place,.cp (int r) 0,int r,int (el.hour+r),.ref P 4,int f0.cL,.gk Q 0 i cap,int R,.ref Q (R*6),.ref Q (R*6+3),ints el.marks,.ref c13 3,ints e.marks,int ch,int (f0.cL*ch),int (el.hour+r+f0.cL*ch),.ref c 0,.sl 1 (([0,0,1,3]:acy).map int) .exact,int 0,int 0,.ref c13 0]:acE).getD j (int 0):=⟨_,rfl⟩
         have w:∀j,V j=_:=λj=>congrFun hV j
         refine aa.Pa (Hv V (env.upd 96 (bool true)) σ6 c c13 (k+60+16*j+16) nums (el.hour+r+f0.cL*ch) (λz=>[int z,int e.place,int el.cR,ints e.marks,int ht,int sh])) lay.mixed (by rfl) ⟨λ_ _=>rfl,by simp,λ_=>rfl,by simp,by simp,by simp,by simp,by simp⟩ ?_ ?_
         . intro done i u S N B mB A
           have mB:i<37:=mB
           rcases(show i=0\/i=1\/i=2\/i=3\/i=4\/i=5\/i=6\/i=7\/i=8\/i=9\/i=10\/i=11\/i=12\/i=13\/i=14\/i=15\/i=16\/i=17\/i=18\/i=19\/i=20\/i=21\/i=22\/i=23\/i=24\/i=25\/i=26\/i=27\/i=28\/i=29\/i=30\/i=31\/i=32\/i=33\/i=34\/i=35\/i=36 by omega)with rfl|rfl|rfl|rfl|rfl|rfl|rfl|rfl|rfl|rfl|rfl|rfl|rfl|rfl|rfl|rfl|rfl|rfl|rfl|rfl|rfl|rfl|rfl|rfl|rfl|rfl|rfl|rfl|rfl|rfl|rfl|rfl|rfl|rfl|rfl|rfl|rfl
           . have b7:u 7=.gk Q 0 i cap:=(A.base 7 (by omega)).trans F
             refine bj lay (mu:=[]) ?_;simp[b7];exact A.next (i:=0) (by omega) B (by omega) (by omega) ((w 0).symm)
           . have fc:u 12=int R:=(A.base 12 (by omega)).trans eZ
             refine bj lay (mu:=[]) ?_;simp[fc];exact A.next (i:=1) (by omega) B (by omega) (by omega) ((w 1).symm)
           . have d0:u 97=.gk Q 0 i cap:=(A.dJ 0 (N 0 (by rfl)) (by omega) (by omega) (by omega)).trans (w 0)
             have d1:u 98=int R:=(A.dJ 1 (N 1 (by rfl)) (by omega) (by omega) (by omega)).trans (w 1)
             refine bj lay (mu:=[]) ?_;simp[d0,d1,bB];exact A.next (i:=2) (by omega) B (by omega) (by omega) ((w 2).symm)
           . have d2:u 99=.ref Q (R*6):=(A.dJ 2 (N 2 (by rfl)) (by omega) (by omega) (by omega)).trans (w 2)
             refine bj lay (mu:=[]) ?_;simp[d2];exact A.next (i:=3) (by omega) B (by omega) (by omega) ((w 3).symm)
           . have d3:u 100=.ref Q (R*6):=(A.dJ 3 (N 3 (by rfl)) (by omega) (by omega) (by omega)).trans (w 3)
             have kl:=A.keep (by omega) B (y:=Q) ay;rw[hR]at kl
             refine bj lay (mu:=[]) ?_;simp[kl,lj,d3];exact A.next (i:=4) (by omega) B (by omega) (by omega) ((w 4).symm)
           . have b6:u 6=.ref P 0:=(A.base 6 (by omega)).trans E
             refine bj lay (mu:=[]) ?_;simp[b6];exact A.next (i:=5) (by omega) B (by omega) (by omega) ((w 5).symm)
           . have d5:u 102=.ref P 1:=(A.dJ 5 (N 5 (by rfl)) (by omega) (by omega) (by omega)).trans (w 5)
             have k6:=A.keep (by omega) B (y:=P) n6;rw[gR]at k6
             refine bj lay (mu:=[]) ?_;simp[k6,d5];exact A.next (i:=6) (by omega) B (by omega) (by omega) ((w 6).symm)
           . have b7:u 7=.gk Q 0 i cap:=(A.base 7 (by omega)).trans F
             refine bj lay (mu:=[]) ?_;simp[b7];exact A.next (i:=7) (by omega) B (by omega) (by omega) ((w 7).symm)
           . have fc:u 12=int R:=(A.base 12 (by omega)).trans eZ
             refine bj lay (mu:=[]) ?_;simp[fc];exact A.next (i:=8) (by omega) B (by omega) (by omega) ((w 8).symm)
           . have d7:u 104=.gk Q 0 i cap:=(A.dJ 7 (N 7 (by rfl)) (by omega) (by omega) (by omega)).trans (w 7)
             have d8:u 105=int R:=(A.dJ 8 (N 8 (by rfl)) (by omega) (by omega) (by omega)).trans (w 8)
             refine bj lay (mu:=[]) ?_;simp[d7,d8,bB];exact A.next (i:=9) (by omega) B (by omega) (by omega) ((w 9).symm)
           . have d9:u 106=.ref Q (R*6):=(A.dJ 9 (N 9 (by rfl)) (by omega) (by omega) (by omega)).trans (w 9)
             refine bj lay (mu:=[]) ?_;simp[d9];exact A.next (i:=10) (by omega) B (by omega) (by omega) ((w 10).symm)
           . have q7:u 107=.ref Q (R*6+1):=(A.dJ 10 (N 10 (by rfl)) (by omega) (by omega) (by omega)).trans (w 10)
             have kl:=A.keep (by omega) B (y:=Q) ay;rw[hR]at kl
             refine bj lay (mu:=[]) ?_;simp[kl,lp,q7];exact A.next (i:=11) (by omega) B (by omega) (by omega) ((w 11).symm)
           . have d6:u 103=rows f0.roads:=(A.dJ 6 (N 6 (by rfl)) (by omega) (by omega) (by omega)).trans (w 6)
             have q9:u 108=int el.place:=(A.dJ 11 (N 11 (by rfl)) (by omega) (by omega) (by omega)).trans (w 11)
             refine bj lay (mu:=[]) ?_;simp[d6,q9,q5,b3];refine⟨mi.1,?_⟩;rw[<-cv];exact A.next (i:=12) (by omega) B (by omega) (by omega) ((w 12).symm)
           . have qb:u 109=.cp (ints rw) 0:=(A.dJ 12 (N 12 (by rfl)) (by omega) (by omega) (by omega)).trans (w 12)
             refine bj lay (mu:=[]) ?_;simp[qb];exact A.next (i:=13) (by omega) B (by omega) (by omega) ((w 13).symm)
           . have fg:u 13=.ref c13 0:=(A.base 13 (by omega)).trans K
             refine bj lay (mu:=[]) ?_;simp[fg];exact A.next (i:=14) (by omega) B (by omega) (by omega) ((w 14).symm)
           . have qc:u 111=.ref c13 1:=(A.dJ 14 (N 14 (by rfl)) (by omega) (by omega) (by omega)).trans (w 14)
             have c7:=A.keep (by omega) B (y:=c13) m0;rw[a9]at c7
             refine bj lay (mu:=[]) ?_;simp[c7,qc];exact A.next (i:=15) (by omega) B (by omega) (by omega) ((w 15).symm)
           . have qe:u 110=ints rw:=(A.dJ 13 (N 13 (by rfl)) (by omega) (by omega) (by omega)).trans (w 13)
             have qi:u 112=int e.place:=(A.dJ 15 (N 15 (by rfl)) (by omega) (by omega) (by omega)).trans (w 15)
             refine bj lay (mu:=[]) ?_;simp[qe,qi,hr,mm];refine⟨mg.1,?_⟩;rw[<-gl];exact A.next (i:=16) (by omega) B (by omega) (by omega) ((w 16).symm)
           . have qj:u 113=.cp (int r) 0:=(A.dJ 16 (N 16 (by rfl)) (by omega) (by omega) (by omega)).trans (w 16)
             refine bj lay (mu:=[]) ?_;simp[qj];exact A.next (i:=17) (by omega) B (by omega) (by omega) ((w 17).symm)
           . have d4:u 101=int el.hour:=(A.dJ 4 (N 4 (by rfl)) (by omega) (by omega) (by omega)).trans (w 4)
             have qq:u 114=int r:=(A.dJ 17 (N 17 (by rfl)) (by omega) (by omega) (by omega)).trans (w 17)
             refine bj lay (mu:=[]) ?_;simp[d4,qq,mw.1,mw.2];exact A.next (i:=18) (by omega) B (by omega) (by omega) ((w 18).symm)
           . have b6:u 6=.ref P 0:=(A.base 6 (by omega)).trans E
             refine bj lay (mu:=[]) ?_;simp[b6];exact A.next (i:=19) (by omega) B (by omega) (by omega) ((w 19).symm)
           . have qs:u 116=.ref P 4:=(A.dJ 19 (N 19 (by rfl)) (by omega) (by omega) (by omega)).trans (w 19)
             have k6:=A.keep (by omega) B (y:=P) n6;rw[gR]at k6
             refine bj lay (mu:=[]) ?_;simp[k6,qs];exact A.next (i:=20) (by omega) B (by omega) (by omega) ((w 20).symm)
           . have b7:u 7=.gk Q 0 i cap:=(A.base 7 (by omega)).trans F
             refine bj lay (mu:=[]) ?_;simp[b7];exact A.next (i:=21) (by omega) B (by omega) (by omega) ((w 21).symm)
           . have fc:u 12=int R:=(A.base 12 (by omega)).trans eZ
             refine bj lay (mu:=[]) ?_;simp[fc];exact A.next (i:=22) (by omega) B (by omega) (by omega) ((w 22).symm)
           . have r9:u 118=.gk Q 0 i cap:=(A.dJ 21 (N 21 (by rfl)) (by omega) (by omega) (by omega)).trans (w 21)
             have ra:u 119=int R:=(A.dJ 22 (N 22 (by rfl)) (by omega) (by omega) (by omega)).trans (w 22)
             refine bj lay (mu:=[]) ?_;simp[r9,ra,bB];exact A.next (i:=23) (by omega) B (by omega) (by omega) ((w 23).symm)
           . have rb:u 120=.ref Q (R*6):=(A.dJ 23 (N 23 (by rfl)) (by omega) (by omega) (by omega)).trans (w 23)
             refine bj lay (mu:=[]) ?_;simp[rb];exact A.next (i:=24) (by omega) B (by omega) (by omega) ((w 24).symm)
           . have rh:u 121=.ref Q (R*6+3):=(A.dJ 24 (N 24 (by rfl)) (by omega) (by omega) (by omega)).trans (w 24)
             have kl:=A.keep (by omega) B (y:=Q) ay;rw[hR]at kl
             refine bj lay (mu:=[]) ?_;simp[kl,lB,rh];exact A.next (i:=25) (by omega) B (by omega) (by omega) ((w 25).symm)
           . have fg:u 13=.ref c13 0:=(A.base 13 (by omega)).trans K
             refine bj lay (mu:=[]) ?_;simp[fg];exact A.next (i:=26) (by omega) B (by omega) (by omega) ((w 26).symm)
           . have ri:u 123=.ref c13 3:=(A.dJ 26 (N 26 (by rfl)) (by omega) (by omega) (by omega)).trans (w 26)
             have c7:=A.keep (by omega) B (y:=c13) m0;rw[a9]at c7
             refine bj lay (mu:=[]) ?_;simp[c7,ri];exact A.next (i:=27) (by omega) B (by omega) (by omega) ((w 27).symm)
           . have rj:u 122=ints el.marks:=(A.dJ 25 (N 25 (by rfl)) (by omega) (by omega) (by omega)).trans (w 25)
             have rm:u 124=ints e.marks:=(A.dJ 27 (N 27 (by rfl)) (by omega) (by omega) (by omega)).trans (w 27)
             refine bj lay (mu:=[]) ?_;simp[rj,rm];refine cf Tryz.func85 rfl (Gd (by omega) (by omega) ?_)
             apply pg;simp;exact A.next (i:=28) (by omega) B (by omega) (by omega) (by rw[w,hP];rfl)
           . have rr:u 117=int f0.cL:=(A.dJ 20 (N 20 (by rfl)) (by omega) (by omega) (by omega)).trans (w 20)
             have rF:u 125=int ch:=(A.dJ 28 (N 28 (by rfl)) (by omega) (by omega) (by omega)).trans (w 28)
             refine bj lay (mu:=[]) ?_;simp[rr,rF,mx.1,mx.2];exact A.next (i:=29) (by omega) B (by omega) (by omega) ((w 29).symm)
           . have rG:u 115=int (el.hour+r):=(A.dJ 18 (N 18 (by rfl)) (by omega) (by omega) (by omega)).trans (w 18)
             have rM:u 126=int (f0.cL*ch):=(A.dJ 29 (N 29 (by rfl)) (by omega) (by omega) (by omega)).trans (w 29)
             refine bj lay (mu:=[]) ?_;simp[rG,rM,mA.1,mA.2];exact A.next (i:=30) (by omega) B (by omega) (by omega) ((w 30).symm)
           . have b0:u 0=.ref c 0:=(A.base 0 (by omega)).trans D
             refine bj lay (mu:=[]) ?_;simp[b0];exact A.next (i:=31) (by omega) B (by omega) (by omega) ((w 31).symm)
           . refine bj lay (mu:=[]) ?_
             simp;exact A.next (i:=32) (by omega) B (by omega) (by omega) ((w 32).symm)
           . have rT:u 128=.ref c 0:=(A.dJ 31 (N 31 (by rfl)) (by omega) (by omega) (by omega)).trans (w 31)
             have s3:u 129=.sl 1 (([0,0,1,3]:acy).map int) .exact:=(A.dJ 32 (N 32 (by rfl)) (by omega) (by omega) (by omega)).trans (w 32)
             refine bj lay (mu:=[]) ?_;simp[rT,s3];have s4:=A.pre B;subst s4;have s5:34∉done:=λq=>B (A.dep q)
             refine cf Tryz.func54 rfl (mJ (l:=[0,0,1,3]) (by omega) hn ⟨by decide,by decide⟩ b2 λp x9 hp n2=>?_)
             apply pg;simp;exact A.RJ B s5 (p:=p) (by simp at hp;omega) (n2.1.mono (by omega)) n2.2
           . have s6:u 127=int (el.hour+r+f0.cL*ch):=(A.dJ 30 (N 30 (by rfl)) (by omega) (by omega) (by omega)).trans (w 30)
             have c9:=N 33 (by rfl)
             obtain⟨p,hp,ES,_⟩:=A.pick c9;have n3:-9223372036854775808<=el.hour+r+f0.cL*ch+p/\el.hour+r+f0.cL*ch+p<=9223372036854775807:=by omega
             refine bj lay (mu:=[]) ?_;simp[s6,ES,n3.1,n3.2];exact A.summed B c9 hp ES
           . have fg:u 13=.ref c13 0:=(A.base 13 (by omega)).trans K
             refine bj lay (mu:=[]) ?_;simp[fg];exact A.next (i:=35) (by omega) B (by omega) (by omega) ((w 35).symm)
           . have s7:u 132=.ref c13 0:=(A.dJ 35 (N 35 (by rfl)) (by omega) (by omega) (by omega)).trans (w 35)
             have c9:=N 33 (by rfl)
             have s9:=N 34 (by rfl)
             obtain⟨p,hp,ES,ET⟩:=A.pick c9;have ET:=ET s9;obtain⟨sg,h5⟩:=A.post c9 B;have c7:=(h5 c13 m0).trans a9;refine bj lay (mu:=[]) ?_;simp[s7,ET,c7,aG]
             refine⟨A.base,λj hj g3 g4 g5=>A.dJ j ((aae.1 hj).resolve_left (by omega)) g3 g4 g5,λq=>absurd (aaQ _ c9) q,λ_ q=>absurd (abG ..) q,λ_=>⟨p,hp,ES,λ_=>ET⟩,λ_ j hj=>aaQ _ (N j ((by decide:∀j:Fin 36,jj _ j.val 36=true) ⟨j,hj⟩)),λ_=>aaQ _ c9,λ_=>⟨p,hp,?_,ab.ai _ _ _,λy Y y2=>by rw[ab.ah _ _ y2];exact h5 y Y⟩⟩
             obtain⟨n,z,g1,g2⟩:=sg;exact⟨n,z,g1,by rw[ab.ah _ _ (za m0)];exact g2⟩
         . intro done vk S n5 A
           obtain⟨p,hp,g1,g2,g3⟩:=A.fin (n5 36 (by decide))
           have hb:=λ(t:Nat) (ht:t<96)=>(A.base t (by omega)).trans (kQ (env:=env) (v:=bool true) (show t≠96 by omega))
           refine T _ _ ⟨el.hour+r+f0.cL*ch+p,(hb 0 (by omega)).trans D,(hb 4 (by omega)).trans G,(hb 6 (by omega)).trans E,(hb 7 (by omega)).trans F,(hb 8 (by omega)).trans J,(hb 10 (by omega)).trans cd,(hb 11 (by omega)).trans cY,(hb 12 (by omega)).trans eZ,(hb 13 (by omega)).trans K,g1,g2,λy Y y2=>(g3 y Y y2).trans (aC y Y y2),by omega,λ_=>?_⟩
           have si:rd f1.roads el.place.toNat e.place.toNat=r:=by rw[eR];unfold rd;rw[zG,zG,KD b3,aaD,<-cv,KD dj,<-gl];rfl
           have sj:f1.cL=f0.cL:=by rw[eR]
           unfold Ng;rw[si,sj,<-Er bm.marks he.marks,<-hP];show r+f0.cL*ch<=el.hour+r+f0.cL*ch+p-el.hour;omega
       . have q2:¬qC ks R>=0:=λq=>hO ((lP ks R).1 q)
         refine aa.runN lay [] 4 ?_;simp[D,G,E,F,J,cd,cY,eZ,K,ad,q2];refine T _ _ ⟨e.hour,by simp[D,G,E,F,J,cd,cY,eZ,K,ad],by simp[D,G,E,F,J,cd,cY,eZ,K,ad],by simp[D,G,E,F,J,cd,cY,eZ,K,ad],by simp[D,G,E,F,J,cd,cY,eZ,K,ad],by simp[D,G,E,F,J,cd,cY,eZ,K,ad],by simp[D,G,E,F,J,cd,cY,eZ,K,ad],by simp[D,G,E,F,J,cd,cY,eZ,K,ad],by simp[D,G,E,F,J,cd,cY,eZ,K,ad],by simp[D,G,E,F,J,cd,cY,eZ,K,ad],b2.mono (by omega),a9,aC,by have:=he.hour;omega,λq=>absurd q hO⟩
     clear b2 a9 aC D G E F J cd cY eZ K ad
     rintro env S ⟨hr,D,G,E,F,J,cd,cY,eZ,K,n7,a9,ei,so,n9⟩
     have sr:σ.del c c13=none:=by
      cases hx:σ.del c c13 with
      |none=>rfl
      |some x=>have:=b9.1 _ _ hx;rw[<-c5 c13 m0,l7]at this;cases this
     have b8:(σ.del c).Le S:=λy x hy=>by
      have Y:y≠c:=λe=>by subst e;rw[b4]at hy;cases hy
      have y2:y≠c13:=λe=>by subst e;rw[sr]at hy;cases hy
      rw[ei y Y y2];exact b9.1 y x hy
     have hS:∀b x,σ' b=some x->(∀l,x≠.cells l)->S b=σ' b:=λb x hb hx=>by
      refine ei b (λe=>?_) λe=>?_
      . rw[e]at hb;obtain⟨_,_,_,q⟩:=hv;rw[q]at hb;cases hb;exact hx _ rfl
      . rw[e,<-c5 c13 m0,l7]at hb;cases hb
     have dm:Tok (σ.del c) S a 6 (es.map bn):=te b9 b8 λb hb=>by obtain⟨g1,l,g2⟩:=b9.aR hb;exact⟨hS b _ g2 (by simp),g1⟩
     have dr:Tok (σ.del c) S hh 1 (ks.map int):=te ed b8 λb hb=>by obtain⟨g1,l,g2⟩:=ed.aR hb;exact⟨hS b _ g2 (by simp),g1⟩
     have t4:S X=some (.cells fU):=by rw[ei X bA (za m4)];exact q4
     have t6:S P=some (.cells (A6 a)):=by rw[ei P n6 (za m6)];exact q6
     have tl:S Q=some (.cells (flatten (M.map bn)++rest)):=by rw[ei Q ay (za ml)];exact ql
     clear b9 ed q4 q6 ql a7 ei hS
     rcases Int.lt_or_le 72 hr with nh|nh
     . apply rn
       simp[D,G,E,F,J,cd,cY,eZ,K,a9,nh,f3.1,f3.2];refine ih _ g1 ⟨_,S,a,hh,M,es,ks,rfl,by simp[D,G,E,F,J,cd,cY,eZ,K],by simp[D,G,E,F,J,cd,cY,eZ,K],by simp[D,G,E,F,J,cd,cY,eZ,K],by simp[D,G,E,F,J,cd,cY,eZ,K],by simp[D,G,E,F,J,cd,cY,eZ,K],by simp[D,G,E,F,J,cd,cY,eZ,K],by simp;omega,n7.mono (by omega),t4,t6,tl,dm,dr,gG,O,gd,hz,by omega⟩
     . have nq:¬hr>72:=by omega
       obtain⟨n1,nt⟩:∃n1:xO,n1=⟨hr,e.place,el.cR,e.marks,ht,sh⟩:=⟨_,rfl⟩;obtain⟨bw,gU⟩:∃bw,bw=flatten ((M.set R n1).map bn)++rest:=⟨_,rfl⟩;have ob:R*6+6<=CL.length:=by rw[eW,ZU,gH];omega
       have oc:aG CL (R*6) [int hr,int e.place,int el.cR,ints e.marks,int ht,int sh]=bw:=by
        have:=Ay (k:=6) (M.map bn) R (bn n1) (by rw[ZZ];exact gf) hB rfl
        rw[gU,abt,<-this,eW];unfold aG;rw[List.take_append_of_le_length (by omega),List.drop_append_of_le_length (by rw[gH];simp;omega),nt]
        simp
       rw[<-eW]at tl;have b5:=dm.cells;have vx:=dr.cells;have oj:S P=some (.cells [a,rows f0.roads,int f0.aP,int f0.dH,int f0.cL,int i]):=by rw[t6,ep]
       have xb:=za ml;apply rn;simp[D,G,E,F,J,cd,cY,eZ,K,a9,nq,tl,bB,oc,ob,ab.ah,ho.symm,ml,oj,b5.1,b5.2];subst nt;have sy:bp a≠some Q:=λe=>by obtain⟨_,_,q⟩:=dm.aR e;rw[tl]at q;cases q
       have ox:bp hh≠some Q:=λe=>by obtain⟨_,_,q⟩:=dr.aR e;rw[tl]at q;cases q
       have dx:Tok (σ.del c) (S.set Q (.cells bw)) a 6 (es.map bn):=dm.beside r1 sy;have oF:Tok (σ.del c) (S.set Q (.cells bw)) hh 1 (ks.map int):=dr.beside r1 ox;have vy:(es.map bn).length<=6:=by rw[ZZ];omega
       have wm:(ks.map int).length<=6:=by rw[ZZ,O.len];omega
       refine aN lay rfl rfl rfl lM rfl lM rfl xN (by decide) (by simp;omega) (σ0:=(S.set Q (.cells bw)).off a) (es:=es.map bn) (xs:=[bn ⟨hr,e.place,el.cR,e.marks,ht,sh⟩]) (by simpa using dx.here.1) (.inr ⟨_,by simp;rfl⟩) λa' hT hU=>?_
       obtain⟨dy,tc⟩:=B1 oF dx (λb hb q=>gG b q hb) hU
       have h1:=hU.base dx.here.2;have k9:∀y l,(S.set Q (.cells bw)) y=some (.cells l)->hT y=some (.cells l):=λy l hy=>hU.1 _ _ (by rw[ab.du (λe=>by obtain⟨_,_,q⟩:=dx.aR e;rw[hy]at q;cases q)];exact hy)
       have ea:=h1.cells;apply rn;simp[D,G,E,F,J,cd,cY,eZ,K,ea.1,ea.2];refine aN lay rfl rfl rfl dG rfl dG rfl rA (by decide) (by simp;omega) (σ0:=hT.off hh) (es:=ks.map int) (xs:=[int R]) (by simpa using dy.here.1) (.inr ⟨_,by simp;rfl⟩) λtd ax fi=>?_
       obtain⟨hX,oG⟩:=B1 h1 dy (λb hb q=>tc b q hb) fi
       have fl:=fi.base dy.here.2;have fp:=fl.cells;have gp:∀y l,hT y=some (.cells l)->ax y=some (.cells l):=λy l hy=>fi.1 _ _ (by rw[ab.du (λe=>by obtain⟨_,_,q⟩:=dy.aR e;rw[hy]at q;cases q)];exact hy)
       have z6:ax P=some (.cells [a,rows f0.roads,int f0.aP,int f0.dH,int f0.cL,int i]):=gp _ _ (k9 _ _ (by rw[ab.ah _ _ (za ho)];exact oj))
       have z4:ax X=some (.cells fU):=gp _ _ (k9 _ _ (by rw[ab.ah _ _ (za pA)];exact t4))
       have zl:ax Q=some (.cells bw):=gp _ _ (k9 _ _ (ab.ai _ _ _));apply rn;simp[D,G,E,F,J,cd,cY,eZ,K,z6,aG,ea.1,ea.2,fp.1,fp.2,f3.1,f3.2];have oK:NQ f0.roads.length ⟨hr,e.place,el.cR,e.marks,ht,sh⟩:=⟨⟨so.1,by omega⟩,he.place,bm.cR,he.marks,hL,gI⟩
       have oL:M.getD R rD=el:=by rw[zG,KD gf,eN];rfl
       have oM:H.getD R 0=h0:=by rw[zG,KD ee,eg];rfl
       have gw:=O.push (k:=R) (n:=⟨hr,e.place,el.cR,e.marks,ht,sh⟩) bB (by rw[eR];exact oK.check) (by rw[oL]) (by rw[oM,eR];refine NR m2 gI ?_;exact mf) (λq=>by rw[oL];exact n9 q)
       have h2:∀{x:AV}{kk:Nat}{l:acE},Tok (σ.del c) ax x kk l->Tok (σ.del c) (ax.set P (.cells (A6 a'))) x kk l:=λ{x kk l} hx=>hx.beside p7 (λe=>by obtain⟨_,_,q⟩:=hx.aR e;rw[z6]at q;cases q)
       refine ih _ g1 ⟨_,ax.set P (.cells (A6 a')),a',td,M.set R ⟨hr,e.place,el.cR,e.marks,ht,sh⟩,es++[⟨hr,e.place,el.cR,e.marks,ht,sh⟩],ks++[(R:Int)],by rw[ep],by simp[D,G,E,F,J,cd,cY,eZ,K],by simp[D,G,E,F,J,cd,cY,eZ,K],by simp[D,G,E,F,J,cd,cY,eZ,K],by simp[D,G,E,F,J,cd,cY,eZ,K],by simp[D,G,E,F,J,cd,cY,eZ,K],by simp[D,G,E,F,J,cd,cY,eZ,K],by simp;omega,?_,?_,ab.ai _ _ _,?_,by have:=h2 hX;simpa using this,by have:=h2 fl;simpa using this,λb hb=>oG b hb,gw,λx hx=>?_,λx hx=>?_,by simp;omega⟩
       . obtain⟨n,z,g1,g2⟩:=n7
         exact⟨n,z,by omega,by rw[ab.ah _ _ (za n6)];exact gp _ _ (k9 _ _ (by rw[ab.ah _ _ (za ay)];exact g2))⟩
       . rw[ab.ah _ _ (za ft)];exact z4
       . rw[ab.ah _ _ ho,zl,gU]
       . rcases aaJ hx with hx|rfl
         . exact gd x hx
         . exact oK
       . rcases ZQ.1 hx with hx|hx
         . exact hz x hx
         . simp at hx;subst hx;exact q0
   . have tf:j=qn:=by omega
     subst tf;have tm:¬(j:Int)<j:=by omega
     apply rn;simp[D,G,E,F,J,cd,cY,o.1,o.2,d.1,d.2,tm,q4,a7,aG];obtain⟨nb,zb,hY,h3⟩:=hv;obtain⟨f,hf⟩:∃f:Fr,f=⟨es,f0.roads,f0.aP,f0.dH,f0.cL,(i:Int)⟩:=⟨_,rfl⟩;have aE:=Fr.pJ (Z.fits (by omega)) (Z.check (by omega))
     have tr:Ge cnt f ks:=by
      have gx:=Z.dS;subst eR;subst hf;refine⟨⟨⟨by grind,aE.fits.roads,aE.fits.row,λe he=>by grind⟩,aE.fr,aE.to,aE.le,aE.cL,by grind,by grind,λe he=>O.u6 e he,aE.LH⟩,by grind,by grind,λr hr=>?_,hz,by grind,i,C,H,M,⟨O.len,O.SE,O.u6,O.cR,O.SF,O.fit,O.Wv,O.Hh,O.Rw⟩,rfl⟩
      obtain⟨t,ht,rfl⟩:=aak.1 hr;exact ZV (Nat.le_of_eq (aE.row (i:=t) ht).1) gx.2
     refine .na (a':=.cu [cM f,ints ks]) (M4 rfl λi x y x1 x2=>?_) (.less (σ':=σ.set c (.cells [ints nums,int nb,.lit (.int .u64 zb)])) (λy x hy=>?_) (.done (h f ks _ tr ⟨⟨nb,zb,by omega,ab.ai _ _ _⟩,λy hy=>ab.ah _ _ hy⟩)))
     . match i with
       | 0=>
         simp at x1 x2;subst x1;subst x2;refine lR (by grind) λi x y x1 x2=>?_
         subst hf
         match i with
         |0=>simp at x1 x2;subst x1;subst x2;exact b9.W
         |1=>simp at x1 x2;subst x1;subst x2;exact .refl _
         |2=>simp at x1 x2;subst x1;subst x2;exact .refl _
         |3=>simp at x1 x2;subst x1;subst x2;exact .refl _
         |4=>simp at x1 x2;subst x1;subst x2;exact .refl _
         |5=>simp at x1 x2;subst x1;subst x2;exact .refl _
         |i+6=>simp at x1
       |1=>simp at x1 x2;subst x1;subst x2;exact ed.W
       |i+2=>simp at x1
     . by_cases Y:y=c
       . subst Y
         rw[ab.ai]at hy;rw[ab.ah _ _ n4,h3];exact hy
       . rw[ab.ah _ _ Y]at hy
         have y4:y≠X:=λe=>by grind
         rw[ab.ah _ _ y4];exact b9.1 y x (by simpa[ab.del,Y]using hy)
end
end
open Go.cC Go.Conc
theorem oE{α g}:∀{l:List α},(∀x∈l,g x=0)->eE g l=0
 |[],_=>rfl
 |a::l,h=>by rw[eE,ZS (h a (by simp))];exact oE λx q=>h x (by simp[q])
structure NS  cnt  (w:iw) (own lost:acy):Prop where
 valid:w.Valid
 Cq:gX w=0
 len:(w.fair.aD.length:Int)+w.aB.length<=cnt
 WK:w.ways.length<=5
 lo:own.length=w.fair.aD.length
 ll:lost.length=w.aB.length
 U9:∀e∈w.fair.aD,e.marks.length<=3
 Va:∀c∈w.aB,c.lost.marks.length<=3
 rows:w.fair.roads.length<=3/\∀r∈w.fair.roads,r.length<=3
 YN:∃v∈aI (pS w) [],∀i j ,i<w.fair.aD.length+w.aB.length->j<w.fair.aD.length+w.aB.length->lQ i j v=decide ((own++lost).getD i 0=(own++lost).getD j 0)
theorem PI{cnt f p}(t:Ge cnt f p)(N:cnt<=6){w}{E C:acy}(z:∀i∈E++C,0<=i/\i<f.aD.length)(hn:(E.length:Int)+C.length<=cnt)
 (W:w.fair.aD=E.map (aX f)) (O:w.aB.map (·.lost)=C.map (aX f)) (y:w.fair.roads=f.roads) (m:w.fair.aP=f.aP) (n:w.fair.dH=f.dH) (hd:w.fair.cL=f.cL) (X:f.aW<=w.fair.aW/\w.fair.aW<=6)
 (P:1<=w.aS/\w.aS<=4) (Y:∀x∈w.ways,ki w.aS x=0) (F:w.ways.length<=5) (Z:w.aB.length<=3) (G:∀c∈w.aB,(0<=c.town/\c.town<w.aS)/\(0<=c.hour/\c.hour<=72)/\c.lost.hour<=c.hour):
 NS cnt w (E.map λi=>p.getD i.toNat 0) (C.map λi=>p.getD i.toNat 0):=by
 have d:=t.pJ;have l1:w.fair.aD.length=E.length:=by simp_all
 have l2:w.aB.length=C.length:=by rw[<-List.length_map (f:=(·.lost)),O,ZZ]
 have A:∀e∈w.fair.aD,e∈f.aD:=λe q=>by rw[W]at q;obtain⟨i,I,rfl⟩:=aad.1 q;exact iI (z i (by simp[I]))
 have J:∀c∈w.aB,c.lost∈f.aD:=λc q=>by have:c.lost∈w.aB.map (·.lost):=aad.2 ⟨c,q,rfl⟩;rw[O]at this;obtain⟨i,I,e⟩:=aad.1 this;rw[<-e];exact iI (z i (by simp[I]))
 have gen:∀es:List xO,(∀e∈es,e∈f.aD)->es.length<=6->({w.fair with aD:=es}:Fr).Good:=λes q ql=>by
  have K:=d.aW;refine⟨⟨by grind,by show w.fair.roads.length<_;rw[y];exact d.fits.roads,by show ∀r∈w.fair.roads,_;rw[y];exact d.fits.row,λe D=>d.fits.marks e (q e D)⟩,by rw[m];exact d.fr,by rw[n];exact d.to,by rw[m,n];exact d.le,by rw[hd];exact d.cL,?_,ql,λe D=>?_,by show fS w.fair.roads=0;rw[y];exact d.LH⟩
  . grind
  . show cH w.fair.roads.length e=0
    rw[y];exact d.u6 e (q e D)
 have Q:w.fair.Good:=gen w.fair.aD A (by omega)
 have R:∀c∈w.aB,(lone w.fair c.lost).Good:=λc q=>gen [c.lost] (λe D=>by simp_all) (by simp)
 have S:w.rH:=⟨Q.fits,Q.Cq,λc q=>⟨(R c q).fits,(R c q).Cq⟩,by omega,by omega⟩
 have h6:w.fair.aD.length+w.aB.length<=6:=by omega
 have T:=rI S h6
 have B:yi f (pS w) (E++C):=⟨y,m,n,hd,X.1,z,by simp_all⟩
 obtain⟨mo,Cs,H,last,g,K⟩:=t.seen;obtain⟨v,s,h,hv⟩:=g.cT d (by omega)
 obtain⟨u,U,o⟩:=B.cT d T hv;have L:aI (pS w) []≠[]:=abi U
 have V:gX w=0:=by
  unfold gX;have a1:bu w.aS 1 4=true:=by simp[bu,P.1,P.2]
  have a2:eE (vz w) w.aB=0:=oE λc q=>by
   have:=G c q;have e1:bu c.town 0 (w.aS-1)=true:=by simp only[bu,zj,ZL];omega
   have e2:bu c.hour 0 72=true:=by simp only[bu,zj,ZL];omega
   unfold vz
   simp_all
  have a3:=(Aj T).2 L;rw[a1,oE Y,a2,ZM (by simp),ZM (by omega),ZM (by simp),ZM (by omega),ZM (by simp),ZM (by omega),ZM (by omega)]
 have a7:p.length=f.aD.length:=g.len;refine⟨iw.valid S V,V,by omega,F,by simp_all,by simp_all,λe q=>t.marks e (A e q),λc q=>t.marks _ (J c q),by rw[y];exact⟨t.dS,t.row⟩,u,U,λi j M hj=>?_⟩
 have hl:(E++C).length=w.fair.aD.length+w.aB.length:=by simp_all
 rw[o i j (by omega) (by omega),<-List.map_append]
 have k:∀i:Nat,i<(E++C).length->((E++C).map λi=>p.getD i.toNat 0).getD i 0=p.getD ((E++C).getD i 0).toNat 0:=λi M=>by rw[zG,aan,KD M,zG (l:=E++C),KD M];rfl
 rw[k i (by omega),k j (by omega)]
 have ri:=z _ (yh (l:=E++C) (i:=i) (by omega))
 have rj:=z _ (yh (l:=E++C) (i:=j) (by omega))
 generalize (E++C).getD i 0=a at *;generalize (E++C).getD j 0=b at *;have ea:a=(a.toNat:Int):=by omega
 have eb:b=(b.toNat:Int):=by omega
 rw[abR,ZL];constructor
 . intro q
   rw[ea,eb]at q;have:=yg h (by omega) (by omega) q
   omega
 . intro q
   have:=yf h (i:=a.toNat) (j:=b.toNat) (by omega) (by omega) q
   grind
