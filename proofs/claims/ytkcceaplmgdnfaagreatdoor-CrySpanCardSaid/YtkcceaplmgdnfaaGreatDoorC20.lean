import Derived.Test.YtkcceaplmgdnfaaGreatDoorC19
set_option linter.all false
set_option maxHeartbeats 2000000
set_option maxRecDepth 4000
namespace Go.Proofs.YtkcceaplmgdnfaaGreatDoor
open Go.Proofs.Tryz (prog)
section
open Go.cz Go.Conc
section
variable{w:gn}
theorem Rw{n:Nat}{i:Int}(h:0<=i/\i<n):i∈rO n:=ZU.2 ⟨i.toNat,ZE.2 (by omega),by omega⟩
end
end
section
open Go Go.cz Go.Conc
variable{m:Mo}{σ:ab}{KF:abW}
theorem nJ{a b c d e l}(h:KF (.val (bu ⟨a,b,c,l,d,e⟩)) σ):az prog m 37 [int a,int b,int c,int d,int e,ints l] σ KF:=by
 refine fs [] Tryz.func37 rfl (by kernel_rfl) ?_;simp[Tryz.f37];refine bV.intro λk f=>?_
 simp;exact .less (by repeat (first|exact ab.le_refl _|assumption|refine ab.fa ?_ (by assumption)|refine ab.lq ?_ (by assumption))) (.done h)
theorem BS{a b c d e}(h:KF (.val (jx ⟨a,b,c,d,e⟩)) σ):az prog m 68 [int a,int b,int c,int d,int e] σ KF:=by
 refine fs [] Tryz.func68 rfl (by kernel_rfl) ?_;simp[Tryz.f68];refine bV.intro λk f=>?_
 simp[aJ];exact .less (by repeat (first|exact ab.le_refl _|assumption|refine ab.fa ?_ (by assumption)|refine ab.lq ?_ (by assumption))) (.done h)
def Nw:List xH:=[⟨10,0,1,[0],15,0⟩,⟨12,0,1,[],16,1⟩,⟨14,0,2,[],14,0⟩,⟨16,0,1,[],14,0⟩]
def yp:List Way:=[⟨0,1,4,6,20⟩,⟨1,2,1,0,72⟩,⟨2,0,2,0,72⟩]
def UX:Fr:=⟨Nw,[[0,2],[2,0]],1,2,3,3⟩
def UY:NU:=⟨⟨4,1,1,[0],15,0⟩,1,5⟩
def lW(n:Nat):gn:=⟨UX,3,yp.take n,[UY]⟩
theorem Ap{n}(z:n<=3)(h:KF (.val (dv (lW n))) σ):az prog m 32 [int n] σ KF:=by
 have v:∀a b c d e:Int,∀l:acm,Wl [int a,int b,int c,int d,int e,.sl 1 (l.map int) .exact] [int a,int b,int c,int d,int e,ints l]:=λa b c d e l=>.cons (.refl _) (.cons (.refl _) (.cons (.refl _) (.cons (.refl _) (.cons (.refl _) (.cons (iq 1 _ .exact) .nil)))))
 have r:∀a b c d e:Int,Wl [int a,int b,int c,int d,int e,.lit (.slice none 0 0)] [int a,int b,int c,int d,int e,ints []]:=λa b c d e=>.cons (.refl _) (.cons (.refl _) (.cons (.refl _) (.cons (.refl _) (.cons (.refl _) (.cons (fq 1) .nil)))))
 refine fs V7 Tryz.func32 rfl (by kernel_rfl) ?_
 simp[Tryz.f32];refine bV.intro λwb t=>?_
 simp;refine cd Tryz.func37 rfl rfl (v 10 0 1 15 0 [0]) (nJ ?_);apply rn;simp;refine cd Tryz.func37 rfl rfl (r 12 0 1 16 1) (nJ ?_);apply rn;simp;refine cd Tryz.func37 rfl rfl (r 14 0 2 14 0) (nJ ?_);apply rn;simp;refine cd Tryz.func37 rfl rfl (r 16 0 1 14 0) (nJ ?_);refine aa.runN lay [] 9 ?_;simp[aJ];refine bV.intro λfb j=>?_
 obtain⟨A,B,w⟩:=ab.aP j;simp[aJ]
 change aa _ _ _ _ _ _ _ _ _
 refine aa.bD 3 (b:=fb) (.agg [.sl 6 (Nw.map bu) .exact,.sl 1 [.sl 1 [int 0,int 2] .exact,.sl 1 [int 2,int 0] .exact] .exact,int 1,int 2,int 3,int 3]) (ab.ai _ _ _) (by simp) rfl ?_
 rw[eY j];apply rn;simp;refine cf Tryz.func68 rfl (BS ?_);apply rn;simp;refine cf Tryz.func68 rfl (BS ?_);apply rn;simp;refine cf Tryz.func68 rfl (BS ?_);apply rn;simp;obtain⟨L,x⟩:∃L,L=(yp.take n).map jx:=⟨_,rfl⟩;have u:((yp.map jx).drop 0).take (n-0)=L:=by simp_all
 have Yy:(σ.set wb (.cells [.nil,.nil,int 0,int 0,int 0,int 0,int 0,.nil,.nil])) wb=some (.cells [.nil,.nil,int 0,int 0,int 0,int 0,int 0,.nil,.nil]):=ab.ai _ _ _;have k:n<=(yp.map jx).length:=by simp[yp];omega
 apply Pq
 . intro key
   repeat' first
    |refine⟨?_,?_⟩
    | (refine wC lay rfl Q8 rfl Uc (es:=yp.map jx) (sp:=.exact) (l:=0) (h:=n) (by simp[yp]) (λcap o=>⟨rfl,⟨⟨.i64,by simp⟩,ZH k o⟩,rfl⟩) k ?_
       rw[u];apply pg;simp[aJ])
    | (refine cd Tryz.func37 rfl rfl (v 4 1 1 15 0 [0]) (nJ ?_)
       apply pg;simp[aJ])
   all_goals
    refine aa.iC (λe s=>e 2=.ref wb 0/\s=σ.set wb (.cells [.sl 6 (Nw.map bu) .exact,.sl 1 [.sl 1 [int 0,int 2] .exact,.sl 1 [int 2,int 0] .exact] .exact,int 1,int 2,int 3,int 3,int 3,.sl 5 L .any,.sl 8 [gW UY] .exact])) ⟨by simp,rfl⟩ ?_
    exact key
 rintro env _ ⟨y,rfl⟩
 apply rn;simp[y]
 have p:(AV.sl 1 [AV.sl 1 [int 0,int 2] .exact,.sl 1 [int 2,int 0] .exact] .exact).W (rows [[0,2],[2,0]]):=UL rfl (λa q=>by simp at q;rcases q with rfl|rfl<;>rfl) (λa q=>by simp at q;rcases q with rfl|rfl<;>rfl) (λi a a' f g=>by
  match i with
  |0=>simp at f g;subst f;subst g;exact iq 1 [int 0,int 2] .exact
  |1=>simp at f g;subst f;subst g;exact iq 1 [int 2,int 0] .exact
  |i+2=>simp at f)
 refine .less (ab.fa (ab.le_refl _) t) (.oW (a':=dv (lW n)) (pP rfl λi a a' f g=>?_) (.done h))
 match i with
 |0=>cases f;cases g;exact iq 6 _ .exact
 |1=>cases f;cases g;exact p
 |2=>cases f;cases g;exact .refl _
 |3=>cases f;cases g;exact .refl _
 |4=>cases f;cases g;exact .refl _
 |5=>cases f;cases g;exact .refl _
 |6=>cases f;cases g;exact .refl _
 |7=>cases f;cases g;rw[x];exact .refl _
 |8=>cases f;cases g;exact iq 8 _ .exact
 |i+9=>cases f
end
section
open Go Go.cz Go.Conc
def Hl(f:Fr):Bool:=decide (f.aB.length<100) && decide (f.roads.length<100) && f.roads.all (λr=>decide (r.length<100)) && f.aB.all (λe=>decide (e.marks.length<100))
theorem yq{f}(h:Hl f=true):f.Fits:=by simp only[Hl,za,zU,ZF]at h;obtain⟨⟨⟨a,b⟩,c⟩,d⟩:=h;exact⟨by omega,by omega,λr g=>by grind,λe i=>by grind⟩
def Ed(f:Fr):Bool:=Hl f && decide (check f=0)
theorem Nx{f}(h:Ed f=true):f.Good:=by simp only[Ed,za,zU]at h;exact Fr.qI (yq h.1) h.2
def oH(h:Int):Int:=if h<0 then -1 else if 72<h then 72 else h
theorem Ny  h :∃k:Nat,k<74/\oH h=(k:Int)-1:=by refine⟨(oH h+1).toNat,?_,?_⟩<;>(unfold oH;split<;>(try split)<;>omega)
def F4(w:gn):Bool:=(rO w.fair.aB.length).all (λi=>decide (0<=(aR w.fair i).hour) && decide ((aR w.fair i).hour<=72)) && (rO w.aD.length).all λi=>decide (0<=gY w i.toNat)
theorem Ee{w}(a:F4 w=true)  h :kE w h=kE w (oH h)/\kC w h=kC w (oH h):=by
 simp only[F4,za,ZF,zU]at a
 have c:lR w h=lR w (oH h):=aaP λx b=>by
  have:=a.1 x b;unfold pE oH
  grind
 have d:mZ w h=mZ w (oH h):=aaP λx b=>by
  have:=a.2 x b;unfold pC oH
  grind
 grind
def Wm(w:gn)(p:Int × Int):Bool:=(aA p.1).all (λi=>decide (0<=i) && decide (i<w.fair.aB.length)) && (aA p.2).all (λi=>decide (0<=i) && decide (i<w.aD.length)) && Ed (du w (aA p.1) (aA p.2)) && decide (aH (du w (aA p.1) (aA p.2)) []≠[])
theorem UZ{w p}(h:Wm w p=true):w.Bk p.1 p.2:=by simp only[Wm,za,ZF,zU]at h;exact⟨h.1.1.1,h.1.1.2,Nx h.1.2,h.2⟩
def Qn(w:gn)(L:abO):Bool:=decide (w.fair.aB.length<=6) && decide (w.aD.length<=3) && F4 w && (List.range 74).all (λk=>L.contains (kE w ((k:Int)-1),kC w ((k:Int)-1))) && L.all (Wm w)
theorem BT{w L}(h:Qn w L=true):w.Open:=by
 simp only[Qn,za,ZF,zU]at h;refine⟨⟨h.1.1.1.1,h.1.1.1.2⟩,λt=>?_⟩;obtain⟨a,b⟩:=Ee h.1.1.2 t;obtain⟨k,c,ek⟩:=Ny t;rw[a,b,ek];exact UZ (p:=(kE w ((k:Int)-1),kC w ((k:Int)-1))) (h.2 _ (by grind))
def Qo(w:gn):Bool:=Ed w.fair && w.aD.all (λc=>Hl (lone w.fair c.lost) && decide (check (lone w.fair c.lost)=0)) && decide (w.ways.length<100) && decide (w.aD.length<100)
theorem Hm{w}(h:Qo w=true):w.pY:=by simp only[Qo,Ed,za,ZF,zU]at h;obtain⟨⟨⟨⟨d,e⟩,a⟩,f⟩,g⟩:=h;exact⟨yq d,e,λc b=>⟨yq (a c b).1,(a c b).2⟩,by omega,by omega⟩
theorem Pr:(lW 2).pY/\(lW 3).pY:=⟨Hm (by decide +kernel),Hm (by decide +kernel)⟩
theorem Hn:(lW 2).Open/\(lW 3).Open:=⟨BT (L:=[(0,0),(0,1),(1,0),(1,1),(3,1),(7,1),(15,1)]) (by decide +kernel),BT (L:=[(0,0),(0,1),(1,1),(3,1),(7,1),(15,1)]) (by decide +kernel)⟩
end
section
open Go Go.cz Go.Conc
variable{m:Mo}{σ:ab}{KF:abW}
theorem Rx:GX prog 26 3:=.of (by kernel_rfl) (by kernel_rfl) (by kernel_rfl) (by kernel_rfl)
namespace SR
abbrev Wn:acb:=[⟨4,.take [0,1,2,3,4,5,6,7] false (.one 8 (.done))⟩]
theorem yX{a b}(A:a.length<1152921504606846976)(hb:b.length<1152921504606846976)(h:KF (.val (bool (decide (a=b)))) σ):az prog m 35 [kL a,kL b] σ KF:=by
 refine fs Wn Tryz.func35 rfl (by kernel_rfl) ?_;simp[Tryz.f35];refine aa.loop a.length (λk s=>∃env,s=⟨env,σ,[],.no⟩/\env 0=kL a/\env 1=kL b/\env 5=int k/\k<=b.length/\a.take k=b.take k) ⟨_,rfl,by simp⟩ ?_;rintro B k _ C ⟨env,rfl,g,l,i,r,o⟩ t;apply rn;simp[g,i];refine tJ.intro (λf=>?_) (λf=>?_)<;>(try simp[-Nat.not_lt,-Nat.not_le]at f)<;>(try simp[g,l,i,f])
 . refine aG.intro (λj=>?_) (λj=>?_)<;>(try simp[-Nat.not_lt,-Nat.not_le]at j)<;>(try simp[g,l,i,j,f])
   . obtain⟨x,u⟩:∃x,x=a[k]:=⟨_,rfl⟩
     obtain⟨y,v⟩:∃y,y=b[k]:=⟨_,rfl⟩;simp only[<-u,<-v];refine Il lay Rx rS rfl rfl (a:=x.1) (b:=x.2) (c:=y.1) (d:=y.2) (by simp) (by simp) (.inr ⟨rfl,rfl⟩) ?_;have w:(!(x.1==y.1 && x.2==y.2))=!decide (x=y):=by grind
     rw[w];by_cases p:x=y
     . apply pg
       simp[p];apply rn;simp[i];have z:a[k]=b[k]:=by simp_all
       refine⟨by omega,t _ f ⟨_,rfl,by simp[g],by simp[l],by simp,by omega,?_⟩⟩;rw[zA f,zA j,o,z]
     . have:a≠b:=λe=>by simp_all
       simp[this]at h;apply pg;simp[p];apply rn;simp;exact .done h
   . have:a≠b:=λe=>by simp_all
     have n:((a.length:Int)==b.length)=false:=by grind
     rw[n];exact .done (by simp_all)
 . have:k=a.length:=by omega
   subst this;rw[ZL]at o;by_cases e:a.length=b.length
   . have:a=b:=by grind
     exact .done (by grind)
   . have:a≠b:=λq=>e (by rw[q])
     have n:((a.length:Int)==b.length)=false:=by grind
     rw[n];exact .done (by grind)
end SR
theorem Nz:eH (lW 3) [] [] [0]=0/\eH (lW 3) [14] [] []=0/\eH (lW 3) [] [1] []=0/\eH (lW 2) [] [] []=0/\eH (lW 3) [] [] []=0:=by decide +kernel
theorem Ps:gY (lW 3) 0=8/\js (lW 3) 14=[0,1]/\bF (lW 3) 1=[(12,15)]/\dO (lW 2) (lW 2).fair.aB.length=67/\Hk (lW 3)=[0]:=by decide +kernel
theorem NA:jB (lW 3) 16 0 0=1/\((List.range 16).all λh=>(List.range 4).all fun  i=>decide (jB (lW 3) (h:Nat) i 0≠1))=true:=by decide +kernel
theorem Ry:∀l ,(∀c∈l,0<=c/\c<((lW 3).aD.length:Int))->l.length<=(lW 3).aD.length->((lW 3).only l).Open:=λl d g=>by
 have f:l=[]\/l=[0]:=by
  match l with
  |[]=>simp_all
  | [a]=>
    have:=d a (by simp);have e:(lW 3).aD.length=1:=rfl
    grind
  | a::b::t=>
    have e:(lW 3).aD.length=1:=rfl
    simp_all
 rcases f with rfl|rfl
 . exact BT (L:=[(0,0),(1,0),(3,0),(7,0),(15,0)]) (by decide +kernel)
 . exact Hn.2
theorem F5:(∀h i ,h<73->i<(lW 3).fair.aB.length->foundAt (lW 3) 0 h i->h=16/\i=0)/\¬(∀a b:Nat,a<73->b<(lW 3).fair.aB.length->jB (lW 3) a b 0≠1):=by
 obtain⟨f1,c⟩:=NA;have e:(lW 3).fair.aB.length=4:=rfl;refine⟨λh i j k d=>?_,λq=>q 16 0 (by omega) (by omega) f1⟩;simp only[ZF,zU,ZE]at c;by_cases f:h<16
 . exact absurd d.1 (c h f i (by omega))
 . by_cases g:h=16/\i=0
   . exact g
   . exact absurd f1 (d.2 16 0 (by omega) (by omega))
theorem NB(d:m.solo=true)(h:KF (.val (bool true)) σ):az prog m 16 [] σ KF:=by
 have e:∀(σ:ab) (KF:abW),KF (.val (dv (lW 3))) σ->az prog m 32 [int 3] σ KF:=λσ KF h=>Ap (n:=3) (by decide) h
 have k:∀(σ:ab) (KF:abW),KF (.val (dv (lW 2))) σ->az prog m 32 [int 2] σ KF:=λσ KF h=>Ap (n:=2) (by decide) h
 obtain⟨j,l,o,p,r⟩:=Nz;obtain⟨s,t,u,v,w⟩:=Ps;obtain⟨f1,x⟩:=F5;obtain⟨y,f⟩:=Pr;obtain⟨z,g⟩:=Hn;have sub:=Ry;generalize lW 3=A at *;generalize lW 2=B at *;refine fs [] Tryz.func16 rfl (by kernel_rfl) ?_;simp[Tryz.f16];refine cf Tryz.func32 rfl (e _ _ ?_);apply rn;simp;refine cf Tryz.func22 rfl (DX d f (c:=0) (by decide) j ?_);rw[s,ZB (by decide)];apply rn;simp;refine cf Tryz.func32 rfl (e _ _ ?_);apply rn;simp;refine cf Tryz.func11 rfl (DY d f g (λq=>absurd l q) λ_=>?_);rw[t];apply rn;simp;refine cf Tryz.func32 rfl (e _ _ ?_);apply rn;simp;refine cf Tryz.func23 rfl (Ak d f g (by decide) (λq=>absurd o q) λ_=>?_);rw[u];apply rn;simp;refine cf Tryz.func32 rfl (e _ _ ?_);apply rn;simp;refine cf Tryz.func31 rfl (Jr d f g (by decide) j (λh i C D E=>?_) λq=>absurd q x)
 obtain⟨rfl,rfl⟩:=f1 h i C D E;apply rn;simp;refine cf Tryz.func32 rfl (k _ _ ?_);apply rn;simp;refine cf Tryz.func25 rfl (An d y z p ?_);rw[v];apply rn;simp;refine cf Tryz.func32 rfl (e _ _ ?_);apply rn;simp;refine cf Tryz.func12 rfl (FZ d f g sub r ?_);rw[w];apply rn;simp;refine cd Tryz.func15 rfl rfl (.cons (.refl _) (.cons (iq 1 [int 0,int 1] .exact) .nil)) (pM (a:=[0,1]) (b:=[0,1]) (by simp) (by simp) ?_);apply rn;simp;refine cd Tryz.func35 rfl rfl (.cons (.refl _) (.cons (iq 2 [ko (12,15)] .exact) .nil)) (SR.yX (a:=[(12,15)]) (b:=[(12,15)]) (by simp) (by simp) ?_);apply rn;simp;refine cd Tryz.func15 rfl rfl (.cons (.refl _) (.cons (iq 1 [int 0] .exact) .nil)) (pM (a:=[0]) (b:=[0]) (by simp) (by simp) ?_);apply rn;simp;exact .done h
end
section
open Go.cz Go.Conc
variable{m:Mo}{σ:ab}{KF:abW}
theorem yr{P m fid n ro hold K todo D rc}{G:Prop}(I:abU)
 (a:(∀env σ,I env σ->aa P m fid n ro hold todo ⟨env,σ,D,rc⟩ K)->G) (b:∀env σ,I env σ->aa P m fid n ro hold todo ⟨env,σ,D,rc⟩ K):G:=a b
end
section
open Go Go.cz Go.Conc
variable{m:Mo}{σ:ab}{KF:abW}
section
variable{c k:Nat}{nums:acm}
namespace WY
abbrev Wo:acb:=[⟨2,.take [0,2,3,4,7,9] false (.both 1 (.one 5 (.take [6,8] true (.one 10 (.done)))) (.one 5 (.take [1,6,8] true (.one 10 (.done)))))⟩]
theorem Rz{a b t:Int}(c:2<=t/\t<=4)(d:0<=a/\a<t)(hb:1<=b/\b<t):0<=(a+b).tmod t/\(a+b).tmod t<t/\(a+b).tmod t≠a:=by
 rw[Int.tmod_eq_emod_of_nonneg (by omega)];have:t=2\/t=3\/t=4:=by omega
 grind
theorem NC{a t}(b:2<=t/\t<=4):oV .rem .i64 a t=some (.int .i64 (a.tmod t)):=by simp[oV];omega
theorem ND{t}(hk:k+7<1000000)(H:nums.length<1152921504606846976)(ht:2<=t/\t<=4)(hb:bj c nums k σ)(h:∀  x  σ',pX t x=0->oZ c nums (k+7) σ σ'->KF (.val (jx x)) σ'):az prog m 21 [.ref c 0,int t] σ KF:=by
 obtain⟨n0,s0,_,a7⟩:=id hb;refine fs Wo Tryz.func21 rfl (by kernel_rfl) ?_
 simp[Tryz.f21];refine bV.intro λi h4=>?_
 have v:c≠i:=λe=>by simp_all
 have P:∀x,bj c nums k (σ.set i x):=λx=>⟨n0,s0,by assumption,by rw[ab.ah _ _ v];exact a7⟩
 simp;have W:-9223372036854775808<=t-1/\t-1<=9223372036854775807:=by omega
 simp[W.1,W.2];refine cf Tryz.func18 rfl (eV (by omega) H ⟨by omega,by omega⟩ (P _) λd aC Q M=>?_)
 apply rn;simp;refine cf Tryz.func19 rfl (eF (by omega) H (by omega) (by omega) M.1 λr w aE A=>?_)
 apply rn;simp;refine bV.intro λf h5=>?_
 have B:f≠c:=λe=>by subst e;obtain⟨_,_,_,q⟩:=A.1;simp_all
 have aL:∀y,y≠c->y≠i->w y=σ y:=λy o Y=>by rw[A.2 y o,M.2 y o,ab.ah _ _ Y]
 have q4:w i=some (.cells [int 0,int 0,int 0,int 0,int 0]):=by rw[A.2 i (zj v),M.2 i (zj v),ab.ai]
 have s:f≠i:=λe=>by simp_all
 have Q:0<=d/\d<t:=by omega
 apply yr (I:=λenv σ'=>∃b,(1<=b/\b<t)/\env 0=.ref c 0/\env 1=int t/\env 4=.ref i 0/\env 5=.ref f 0/\bj c nums (k+3) σ'/\σ' i=some (.cells [int 0,int 0,int 0,int 0,int 0])/\σ' f=some (.cells [int d,int ((d+b).tmod t),int r,int 0,int 0])/\∀y,y≠c->y≠i->y≠f->σ' y=σ y)
 . intro u
   simp[aJ,W.1,W.2]
   have R:bj c nums (k+2) (w.set f (.cells [int d,int 0,int r,int 0,int 0])):=by obtain⟨n,z,C,S⟩:=A.1;exact⟨n,z,C,by rw[ab.ah _ _ (zj B)];exact S⟩
   have fin:∀(b:Int) (g:ab),1<=b/\(b<=t-1\/b=1)->oZ c nums (k+2+1) (w.set f (.cells [int d,int 0,int r,int 0,int 0])) g->g f=some (.cells [int d,int 0,int r,int 0,int 0])/\(-9223372036854775808<=d+b/\d+b<=9223372036854775807)/\∀(env:Env) (X:rk),env 0=.ref c 0->env 1=int t->env 4=.ref i 0->env 5=.ref f 0->X=.cells [int d,int ((d+b).tmod t),int r,int 0,int 0]->(∃b,(1<=b/\b<t)/\env 0=.ref c 0/\env 1=int t/\env 4=.ref i 0/\env 5=.ref f 0/\bj c nums (k+3) (g.set f X)/\(g.set f X) i=some (.cells [int 0,int 0,int 0,int 0,int 0])/\(g.set f X) f=some (.cells [int d,int ((d+b).tmod t),int r,int 0,int 0])/\∀y,y≠c->y≠i->y≠f->(g.set f X) y=σ y):=λb g p j=>by
    refine⟨by rw[j.2 f B,ab.ai],by omega,λenv X N J K L eX=>⟨b,by omega,N,J,K,L,?_,?_,by rw[ab.ai,eX],λy o Y y3=>?_⟩⟩
    . obtain⟨n,z,C,S⟩:=j.1
      exact⟨n,z,by omega,by rw[ab.ah _ _ (zj B)];exact S⟩
    . rw[ab.ah _ _ (zj s),j.2 i (zj v),ab.ah _ _ (zj s)];exact q4
    . rw[ab.ah _ _ y3,j.2 y o,ab.ah _ _ y3];grind
   refine⟨?_,?_⟩
   . refine cf Tryz.func19 rfl (eF (by omega) H (by omega) (by omega) R λb g p j=>?_)
     obtain⟨g5,C,gI⟩:=fin b g p j;have Z:=NC (a:=d+b) ht;apply pg;simp[g5,C.1,C.2,Z,aJ];exact u _ _ (gI _ _ (by simp) (by simp) (by simp) (by simp) rfl)
   . refine cf Tryz.func19 rfl (eF (by omega) H (by omega) (by omega) R λb g p j=>?_)
     obtain⟨g5,C,gI⟩:=fin b g p j;have Z:=NC (a:=d+b) ht;apply pg;simp[g5,C.1,C.2,Z,aJ];exact u _ _ (gI _ _ (by simp) (by simp) (by simp) (by simp) rfl)
 rintro env g ⟨b,p,N,J,K,L,a8,u4,u5,a9⟩
 apply rn;simp[N,J,K,L];refine cf Tryz.func18 rfl (eV (by omega) H ⟨by omega,by omega⟩ a8 λo aO b0 D=>?_)
 apply rn;simp[N,J,K,L];refine cf Tryz.func54 rfl (mJ (l:=[0,0,o]) (by omega) H (by simp) D.1 λfr T b1 E=>?_)
 have hf:0<=fr/\fr<=20:=by grind
 have v5:T f=some (.cells [int d,int ((d+b).tmod t),int r,int 0,int 0]):=by rw[E.2 f B,D.2 f B];exact u5
 have r2:-9223372036854775808<=fr+20/\fr+20<=9223372036854775807:=by omega
 apply rn;simp[N,J,K,L,v5,aJ,r2.1,r2.2];obtain⟨hi,ad,ax⟩:∃hi:Int,hi=(if fr+20<72 then fr+20 else 72)/\fr<=hi/\hi<=72:=⟨_,rfl,by omega,by omega⟩
 rw[<-ad]
 have U:bj c nums (k+5) (T.set f (.cells [int d,int ((d+b).tmod t),int r,int fr,int 0])):=by obtain⟨n,z,C,S⟩:=E.1;exact⟨n,z,by omega,by rw[ab.ah _ _ (zj B)];exact S⟩
 refine cf Tryz.func19 rfl (eF (by omega) H (by omega) (by omega) U λY σ6 b2 F=>?_)
 apply rn;simp[N,J,K,L];refine cf Tryz.func54 rfl (mJ (l:=[72,72,Y]) (by omega) H (by simp) F.1 λtt V al G=>?_)
 have b3:fr<=tt/\tt<=72:=by simp at al;omega
 have w5:V f=some (.cells [int d,int ((d+b).tmod t),int r,int fr,int 0]):=by rw[G.2 f B,F.2 f B,ab.ai]
 have w4:V i=some (.cells [int 0,int 0,int 0,int 0,int 0]):=by rw[G.2 i (zj v),F.2 i (zj v),ab.ah _ _ (zj s),E.2 i (zj v),D.2 i (zj v)];exact u4
 apply rn;simp[N,J,K,L,w5,w4,s,zj s,ab.ah,aJ];obtain⟨nb,zb,P,av⟩:=G.1;have ay:=Rz ht Q p
 have hw:pX t ⟨d,(d+b).tmod t,r,fr,tt⟩=0:=by
  have J:bI d 0 (t-1)=true:=by simp only[bI,za,zU];omega
  have Z:bI ((d+b).tmod t) 0 (t-1)=true:=by simp only[bI,za,zU];omega
  have e3:bI r 1 12=true:=by simp only[bI,za,zU];omega
  have K:bI fr 0 72=true:=by simp only[bI,za,zU];omega
  have L:bI tt 0 72=true:=by simp only[bI,za,zU];omega
  unfold pX
  grind
 refine .less (σ':=σ.set c (.cells [ints nums,int nb,.lit (.int .u64 zb)])) (λy x O=>?_) (.done (h ⟨d,(d+b).tmod t,r,fr,tt⟩ _ hw ⟨⟨nb,zb,by omega,ab.ai _ _ _⟩,λy O=>ab.ah _ _ O⟩))
 have s5:σ f=none:=by simp_all
 by_cases o:y=c
 . subst o
   rw[ab.ai]at O;rw[ab.ah _ _ v,ab.ah _ _ (zj B),av];exact O
 . rw[ab.ah _ _ o]at O
   have y4:y≠i:=λe=>by simp_all
   have y5:y≠f:=λe=>by simp_all
   rw[ab.ah _ _ y4,ab.ah _ _ y5,G.2 y o,F.2 y o,ab.ah _ _ y5,E.2 y o,D.2 y o,a9 y o y4 y5];exact O
end WY
end
end
section
open Go.cz Go.Conc
variable{m:Mo}{σ:ab}{KF:abW}
def jY(a b:acm):acm:=a.filter λx=>decide (x∉b)
def U1(a b:acm):Int:=((jY a b).length:Int)+((jY b a).length:Int)
theorem ys{a b:acm}{i}  h :jY (a.take (i+1)) b=jY (a.take i) b++if a[i]∈b then[]else[a[i]]:=by
 unfold jY;rw[zA h,aaF]
 grind
theorem nK  a b :(jY a b).length<=a.length:=aaH _ _
def NF:abQ:=[[],[0],[1],[2],[0,1],[0,2],[1,2],[0,1,2]]
theorem Ef{l}(h:l.Sublist [0,1,2]):l∈NF:=by cases h<;>(rename_i h;cases h<;>(rename_i h;cases h<;>(rename_i h;cases h;decide)))
theorem Pt:∀a∈NF,∀b∈NF,U1 a b=bN (aX a) (aX b):=by decide +kernel
theorem Eg{a b}(c:a.Sublist [0,1,2])(hb:b.Sublist [0,1,2]):U1 a b=bN (aX a) (aX b):=Pt _ (Ef c) _ (Ef hb)
theorem F6{a b}(x:a.length<1000000)(hb:b.length<1000000)(h:KF (.val (int (U1 a b))) σ):az prog m 85 [ints a,ints b] σ KF:=by
 refine fs [] Tryz.func85 rfl (by kernel_rfl) ?_
 simp[Tryz.f85];refine aa.loop a.length (λi s=>∃env,s=⟨env,σ,[],.no⟩/\env 0=ints a/\env 1=ints b/\env 5=int ((jY (a.take i) b).length:Int)/\env 6=int i) ⟨_,rfl,by simp[jY]⟩ ?_
 rintro u i _ v ⟨env,rfl,e,f,d,n⟩ r
 rcases aag i a.length with g1|g1
 . have t:(i:Int)<a.length:=by omega
   have j:=nK (a.take i) b;rw[aaB]at j;have f1:-9223372036854775808<=(i:Int)+1/\(i:Int)+1<=9223372036854775807:=by omega
   have o:-9223372036854775808<=((jY (a.take i) b).length:Int)+1/\((jY (a.take i) b).length:Int)+1<=9223372036854775807:=by omega
   have c:=ys (b:=b) g1;apply rn;simp[e,f,d,n,g1];refine cf Tryz.func24 rfl (pL (by omega) ?_)
   by_cases q:a[i]∈b
   . rw[ZG q,aao]at c
     have k:¬pK b a[i]<0:=by have:=(jW b a[i]).2 q;omega
     apply rn;simp[e,f,d,n,k,f1.1,f1.2]
     simp_all
   . rw[ZB q]at c
     have k:pK b a[i]<0:=by
      rcases abG (pK b a[i]) 0 with g|g
      . exact g
      . exact absurd ((jW b a[i]).1 g) q
     apply rn;simp[e,f,d,n,k,f1.1,f1.2,o.1,o.2]
     simp_all
 . have l:i=a.length:=by omega
   subst l;rw[ZL]at d;have w:=nK a b;apply rn;simp[e,f,d,n];refine aa.loop b.length (λi s=>∃env,s=⟨env,σ,[],.no⟩/\env 0=ints a/\env 1=ints b/\env 5=int (((jY a b).length:Int)+((jY (b.take i) a).length:Int))/\env 7=int i) ⟨_,rfl,by simp[e,f,jY,d]⟩ ?_
   clear e f d n r
   rintro u i _ v ⟨env,rfl,e,f,d,p⟩ r
   rcases aag i b.length with g1|g1
   . have t:(i:Int)<b.length:=by omega
     have j:=nK (b.take i) a;rw[aaB]at j;have f1:-9223372036854775808<=(i:Int)+1/\(i:Int)+1<=9223372036854775807:=by omega
     have o:-9223372036854775808<=((jY a b).length:Int)+((jY (b.take i) a).length:Int)+1/\((jY a b).length:Int)+((jY (b.take i) a).length:Int)+1<=9223372036854775807:=by omega
     have c:=ys (b:=a) g1;apply rn;simp[e,f,d,p,g1];refine cf Tryz.func24 rfl (pL (by omega) ?_)
     by_cases q:b[i]∈a
     . rw[ZG q,aao]at c
       have k:¬pK a b[i]<0:=by have:=(jW a b[i]).2 q;omega
       apply rn;simp[e,f,d,p,k,f1.1,f1.2]
       simp_all
     . rw[ZB q]at c
       have k:pK a b[i]<0:=by
        rcases abG (pK a b[i]) 0 with g|g
        . exact g
        . exact absurd ((jW a b[i]).1 g) q
       apply rn;simp[e,f,d,p,k,f1.1,f1.2,o.1,o.2];refine r _ g1 ⟨_,rfl,by simp_all,by simp_all,by simp[c,Int.add_assoc]⟩
   . have l:i=b.length:=by omega
     subst l;rw[ZL]at d;apply rn;simp[e,f,d,p];exact .done h
structure NG  dR  (e:xH):Prop where
 hour:0<=e.hour/\e.hour<=72
 place:0<=e.place/\e.place<dR
 cR:0<=e.cR/\e.cR<=1
 marks:e.marks.Sublist [0,1,2]
 bt:0<=e.bt/\e.bt<=30
 jw:0<=e.jw/\e.jw<=2
theorem NG.check{dR e}(h:NG dR e):cJ dR e=0:=by
 obtain⟨b,c,d,a,f,g⟩:=h;have a:=(kY a).1;unfold cJ bI
 grind
structure F7  cnt  (f:Fr)  ks :Prop where
 qI:f.Good
 len:(f.aB.length:Int)<=cnt
 dR:f.roads.length<=3
 row:∀r∈f.roads,r.length<=3
 marks:∀e∈f.aB,e.marks.length<=3
 aW:f.aW<=3
 seen:∃  aW   C H   last ,Seen f aW C H ks f.aB last/\(aW:Int)=f.aW
theorem Aq{k}:∀  es   i   x ,i<es.length->(∀e∈es,e.cells.length=k)->x.cells.length=k->(flatten es).take (i*k)++x.cells++(flatten es).drop (i*k+k)=flatten (es.set i x)
 | e::es,0,x,_,a,b=>by
   have c:=a e (by simp);rw[List.set_cons_zero,flatten_cons,flatten_cons]
   grind
 | e::es,i+1,x,g,a,b=>by
   have c:=a e (by simp);have d:=Aq es i x (by simp_all) (λy f=>a y (by simp[f])) b;rw[List.set_cons_succ,flatten_cons,flatten_cons,<-d,abm,Nat.one_mul,abE,List.drop_append];rw[aan (by omega),List.drop_eq_nil_of_le (by omega),c,show i*k+k-k=i*k by omega,show i*k+k+k-k=i*k+k by omega];simp
theorem NH{f n h}(g:f.aQ<=f.eP)(i:0<=n.jw/\n.jw<=2)(hb:(n.jw≠1/\n.bt=h)\/(n.jw≠0/\∃y,f.aQ<=y/\y<=f.eP/\n.bt=h+y)):h∈bT f n:=by
 have a:n.jw≠1->n.bt∈bT f n:=λc=>by
  unfold bT
  grind
 have b:∀x,x∈iR f n->x∈bT f n:=λx j=>by
  unfold bT
  grind
 rcases hb with⟨c,rfl⟩|⟨d,y,k,l,e⟩
 . exact a c
 . refine b _ ?_
   unfold iR;rw[ZG d];exact ZU.2 ⟨(f.eP-y).toNat,ZE.2 (by omega),by omega⟩
theorem tx{σ0 σ c σ' a kk es}(h:Tok σ0 σ a kk es)(d:c.Le σ')(hb:∀b,br a=some b->σ' b=σ b/\c b=none):Tok c σ' a kk es:=by
 refine⟨d,?_⟩;rcases h.2 with q|q|⟨b,e,g,f,i⟩
 . exact .inl q
 . simp_all
 . obtain⟨j,k⟩:=hb b (by rw[f];rfl)
   grind
theorem Ho{σ0 σ σ2 a kk es c}(h:cH σ0 σ a kk es)(i:σ0 c=none)(f:eI a≠some c)(d:∀y,y≠c->σ2 y=σ y):cH σ0 σ2 a kk es:=h.keep (λy x g=>by rw[d y (λe=>by simp_all)];exact h.1 y x g) λb hb=>⟨d b (λe=>f (e ▸ hb)),(h.lr hb).1⟩
theorem Pu{σ0 σ σ' a c j kk k m es n o}(h:Tok σ0 σ a kk es)(f:cH σ0 σ c k n)(g:cH (σ.AP c) σ' j m o):Tok σ0 σ' a kk es:=
 tx h (ab.le_trans f.here.2 g.1) λb hb=>by
  obtain⟨p,e,i⟩:=h.aV hb;have d:eI c≠some b:=λq=>by obtain⟨_,l,r⟩:=f.lr q;simp_all
  exact⟨by rw[i];exact g.1 b _ (by rw[ab.qk d];exact i),p⟩
theorem Pv{σ0 σ σ' a c j kk k m es n o}(h:cH σ0 σ a kk es)(f:Tok σ0 σ c k n)(g:Tok (σ.off c) σ' j m o):cH σ0 σ' a kk es:=
 h.keep (ab.le_trans f.here.2 g.1) λb hb=>by
  obtain⟨p,l,i⟩:=h.lr hb;have d:br c≠some b:=λq=>by obtain⟨_,e,r⟩:=f.aV q;simp_all
  exact⟨by rw[i];exact g.1 b _ (by rw[ab.dL d];exact i),p⟩
theorem kM{env:Env}{t u v}(h:u≠t):(env.upd t v) u=env u:=by simp_all
theorem Sz{env:Env}{t v}:(env.upd t v) t=v:=by simp_all
structure Hp(V:Nat->AV)(yY:Env)  σ6   c c13 K   nums   T  (X:Int->acs) (done:acn) (env:Env)  σ :Prop where
 base:∀s,s<97->env s=yY s
 dG:∀i,i∈done->i≠33->i≠34->i<36->env (97+i)=V i
 pre:33∉done->σ=σ6
 post:33∈done->36∉done->bj c nums K σ/\∀y,y≠c->σ y=σ6 y
 pick:33∈done->∃p ,(0<=p/\p<=3)/\env 130=int p/\(34∈done->env 131=int (T+p))
 all:36∈done->∀j,j<36->j∈done
 dep:34∈done->33∈done
 fin:36∈done->∃p ,(0<=p/\p<=3)/\bj c nums K σ/\σ c13=some (.cells (X (T+p)))/\∀y,y≠c->y≠c13->σ y=σ6 y
section
variable{V:Nat->AV}{yY env:Env}{σ6:ab}{c c13 K:Nat}{nums:acm}{T:Int}{X:Int->acs}{done:acn}
theorem Hp.Pw(h:Hp V yY σ6 c c13 K nums T X done env σ){i}(hi:i<36)(b:i∉done):36∉done:=λa=>b (h.all a i hi)
theorem Hp.keep(h:Hp V yY σ6 c c13 K nums T X done env σ){i}(hi:i<36)(a:i∉done){y}(b:y≠c):σ y=σ6 y:=by
 by_cases q:33∈done
 . exact(h.post q (h.Pw hi a)).2 y b
 . rw[h.pre q]
theorem Hp.next(h:Hp V yY σ6 c c13 K nums T X done env σ){i}(hi:i<36)(m:i∉done)(w:i≠33)(x:i≠34){a}(y:a=V i):Hp V yY σ6 c c13 K nums T X (i::done) (env.upd (97+i) a) σ:=by
 have b:33∈i::done↔33∈done:=by grind
 have f:34∈i::done↔34∈done:=by grind
 have k:=h.Pw hi m;have d:36∉i::done:=by grind
 refine⟨λs n=>?_,λj o r t u=>?_,λq=>h.pre λl=>q (b.2 l),λq _=>h.post (b.1 q) k,λq=>?_,λq=>absurd q d,λq=>b.2 (h.dep (f.1 q)),λq=>absurd q d⟩
 . rw[kM (by omega)];exact h.base s n
 . by_cases e:j=i
   . simp_all
   . rw[kM (by omega)]
     exact h.dG j ((ZW.1 o).resolve_left e) r t u
 . obtain⟨p,v,l,z⟩:=h.pick (b.1 q)
   exact⟨p,v,by rw[kM (by omega)];exact l,λg=>by rw[kM (by omega)];simp_all⟩
theorem Hp.RA(h:Hp V yY σ6 c c13 K nums T X done env σ)(l:33∉done)(b:34∉done){p}(m:0<=p/\p<=3){σ'}(hb:bj c nums K σ')(d:∀y,y≠c->σ' y=σ6 y):Hp V yY σ6 c c13 K nums T X (33::done) (env.upd 130 (int p)) σ':=by
 have e:=h.Pw (i:=33) (by omega) l;have a:36∉33::done:=by simp[e]
 have f:34∉33::done:=by simp[b]
 refine⟨λs d=>?_,λj n k o r=>?_,λq=>absurd (by simp) q,λ_ _=>⟨hb,d⟩,λq=>⟨p,m,by simp_all,λg=>absurd g f⟩,λq=>absurd q a,λ_=>by simp,λq=>absurd q a⟩
 . rw[kM (by omega)];exact h.base s d
 . rw[kM (by omega)]
   exact h.dG j ((ZW.1 n).resolve_left k) k o r
theorem Hp.summed(h:Hp V yY σ6 c c13 K nums T X done env σ)(f:34∉done)(a:33∈done){p}(k:0<=p/\p<=3)(r:env 130=int p):Hp V yY σ6 c c13 K nums T X (34::done) (env.upd 131 (int (T+p))) σ:=by
 have b:=h.Pw (i:=34) (by omega) f;have d:36∉34::done:=by simp[b]
 refine⟨λs l=>?_,λj m n e o=>?_,λq=>absurd (by simp[a]) q,λ_ _=>h.post a b,λq=>⟨p,k,by simp_all,λg=>by simp_all⟩,λq=>absurd q d,λ_=>by simp[a],λq=>absurd q d⟩
 . rw[kM (by omega)];exact h.base s l
 . rw[kM (by omega)]
   exact h.dG j ((ZW.1 m).resolve_left e) n e o
end
theorem BU{σ0 σ σ' a c f kk j k es l m}(h:Tok σ0 σ a kk es)(n:Tok σ0 σ c j l)(hd:∀b,br a=some b->br c≠some b)(d:Tok (σ.off c) σ' f k m):Tok σ0 σ' a kk es/\∀b,br a=some b->br f≠some b:=by
 have key:∀b,br a=some b->(σ.off c) b=σ b:=λb hb=>ab.dL (hd b hb)
 refine⟨tx h (ab.le_trans n.here.2 d.1) λb hb=>?_,λb hb q=>?_⟩
 . obtain⟨g,e,i⟩:=h.aV hb
   exact⟨by rw[i];exact d.1 b _ (by simp_all),g⟩
 . obtain⟨g,e,i⟩:=h.aV hb
   obtain⟨o,_,_⟩:=d.aV q
   simp_all
section
variable{c k:Nat}{nums:acm}
theorem Jx{cnt}(hk:k+500<1000000)(hn:nums.length<1152921504606846976)(tr:1<=cnt/\cnt<=6)(hb:bj c nums k σ)(h:∀  f   ks  σ',F7 cnt f ks->oZ c nums (k+500) σ σ'->KF (.val (.ck [dz f,ints ks])) σ'):az prog m 40 [.ref c 0,int cnt] σ KF:=by
 obtain⟨n0,s0,_,oL⟩:=id hb;refine fs V9 Tryz.func40 rfl (by kernel_rfl) ?_
 simp[Tryz.f40];refine bV.intro λX h4=>?_
 have n4:c≠X:=λe=>by simp_all
 have hX:∀x,bj c nums k (σ.set X x):=λx=>⟨n0,s0,by assumption,by rw[ab.ah _ _ n4];exact oL⟩
 simp;refine cf Tryz.func83 rfl (FI (cnt:=0) (by omega) hn ⟨by omega,by omega⟩ (hX _) λf0 a0 hY Z ei oM=>?_)
 obtain rfl:=oM.1 (abC.1 (by have:=Z.len;omega))
 have bw:X≠c:=zj n4;have oN:hY X=some (.cells fQ):=by rw[ei.2 X bw,ab.ai]
 apply rn;simp;refine bV.intro λP h6=>?_
 have n6:P≠c:=λe=>by subst e;obtain⟨_,_,_,q⟩:=ei.1;simp_all
 have fp:P≠X:=λe=>by simp_all
 have oS:σ P=none:=by rw[ei.2 P n6,ab.ah _ _ fp]at h6;exact h6
 simp
 have h2:∀x,bj c nums (k+20) (hY.set P x):=λx=>by obtain⟨n,z,g1,g2⟩:=ei.1;exact⟨n,z,g1,by rw[ab.ah _ _ (zj n6)];exact g2⟩
 refine cf Tryz.func19 rfl (eF (by omega) hn ⟨by omega,by omega⟩ ⟨by omega,by omega⟩ (h2 _) λaW ea wm ft=>?_)
 have t6:ea P=some (.cells [.lit (.slice none 0 0),rows f0.roads,int f0.aQ,int f0.eP,int f0.cM,int f0.aW]):=by rw[ft.2 P n6,ab.ai]
 have t4:ea X=some (.cells fQ):=by rw[ft.2 X bw,ab.ah _ _ (zj fp)];exact oN
 apply rn;simp[t6,aJ];obtain⟨mo,rfl⟩:∃mo:Nat,aW=(mo:Int):=⟨aW.toNat,by omega⟩
 have wK:1<=mo/\mo<=3:=by omega
 have h3:=Z.dR;obtain⟨A6,ej⟩:∃A6:AV->acs,A6=λa=>[a,rows f0.roads,int f0.aQ,int f0.eP,int f0.cM,int mo]:=⟨_,rfl⟩
 have p0:∀a,(A6 a).length=6:=λa=>by grind
 have b4:σ.del c c=none:=by simp[ab.del]
 have hZ:bj c nums (k+21) (ea.set P (.cells (A6 (.lit (.slice none 0 0))))):=by obtain⟨n,z,g1,g2⟩:=ft.1;exact⟨n,z,by omega,by rw[ab.ah _ _ (zj n6)];exact g2⟩
 have al:(σ.del c).Le (ea.set P (.cells (A6 (.lit (.slice none 0 0))))):=λy x hy=>by
  have Y:y≠c:=λe=>by simp_all
  have y0:σ y=some x:=by simpa[ab.del,Y]using hy
  have y6:y≠P:=λe=>by simp_all
  have y4:y≠X:=λe=>by simp_all
  rw[ab.ah _ _ y6,ft.2 y Y,ab.ah _ _ y6,ei.2 y Y,ab.ah _ _ y4];exact y0
 have p5:σ.del c P=none:=by simp[ab.del,oS]
 have wL:σ.del c X=none:=by simp[ab.del,h4]
 have ic:(ea.set P (.cells (A6 (.lit (.slice none 0 0))))) X=some (.cells fQ):=by rw[ab.ah _ _ (zj fp)];exact t4
 refine aa.loop mo (λi s=>∃env σ' la ha L H,s=⟨env,σ',[],.no⟩/\env 0=.ref c 0/\env 1=int cnt/\env 4=.ref X 0/\env 6=.ref P 0/\env 7=la/\env 8=ha/\env 9=int i/\bj c nums (k+21+12*i) σ'/\σ' X=some (.cells fQ)/\σ' P=some (.cells (A6 (.lit (.slice none 0 0))))/\cH (σ.del c) σ' la 6 (L.map bu)/\Tok (σ.del c) σ' ha 1 (H.map int)/\eI la≠some c/\eI la≠some X/\eI la≠some P/\L.length=i/\H.length=i/\(∀e∈L,xR f0.roads.length e)/\(∀x∈H,13<=x/\x<=16))
  ⟨_,ea.set P (.cells (A6 (.lit (.slice none 0 0)))),.lit (.slice none 0 0),.lit (.slice none 0 0),[],[],by rw[ej],by simp,by simp,by simp,by simp,by simp,by simp,by simp,hZ,ic,ab.ai _ _ _,⟨al,.inl ⟨rfl,.inl rfl⟩⟩,⟨al,.inl ⟨rfl,rfl⟩⟩,by simp[eI],by simp[eI],by simp[eI],rfl,rfl,by simp⟩ ?_
 clear hZ al ic
 rintro c0 i _ hi ⟨env,σ',la,ha,L,H,rfl,D,e1,G,E,F,J,e9,fu,q4,q6,ep,et,ev,fv,fw,ie,p6,h5,ix⟩ ih
 have b5:=ep.cells;have d:=et.cells;have a7:σ' P=some (.cells [.lit (.slice none 0 0),rows f0.roads,int f0.aQ,int f0.eP,int f0.cM,int mo]):=by rw[q6,ej]
 rcases aag i mo with g1|g1
 . have k0:(i:Int)<mo:=by omega
   have f1:-9223372036854775808<=(i:Int)+1/\(i:Int)+1<=9223372036854775807:=by omega
   apply rn;simp[D,e1,G,E,F,J,e9,a7,b5.1,b5.2,d.1,d.2,g1];refine cf Tryz.func84 rfl (oA (by omega) hn ⟨by omega,by omega⟩ fu λe a8 he U=>?_)
   have k2:∃l,σ' c=some (.cells l):=by obtain⟨_,_,_,q⟩:=fu;exact⟨_,q⟩
   have ey:=Ho ep b4 ev U.2;have k3:=qA et b4 k2 U.2;have eA:a8 X=some (.cells fQ):=by rw[U.2 X bw];exact q4
   have eB:a8 P=some (.cells (A6 (.lit (.slice none 0 0)))):=by rw[U.2 P n6];exact q6
   apply rn;simp[D,e1,G,E,F,J,e9,a7,b5.1,b5.2,d.1,d.2];refine sc lay rfl rfl rfl mW rfl mW rfl yP (by decide) (by simp;omega) (σ0:=a8.AP la) (es:=L.map bu) (xs:=[bu e]) (by simpa using ey.here.1) (.inl (.inr ⟨_,by simp;rfl⟩)) (by simp) λfx aO av=>?_
   have k4:∀y l,eI la≠some y->a8 y=some l->aO y=some l:=λy l hy hl=>av.1 _ _ (by rw[ab.qk hy];exact hl)
   have k5:=Pu k3 ey av;have h7:=av.base ey.here.2
   have k7:bj c nums (k+21+12*i+11) aO:=by obtain⟨n,z,g1,g2⟩:=U.1;exact⟨n,z,g1,k4 _ _ ev g2⟩
   have gx:eI fx≠some c:=λq=>by obtain⟨g,_⟩:=av.lr q;obtain⟨_,_,_,g2⟩:=U.1;rw[ab.qk ev,g2]at g;cases g
   have k8:eI fx≠some X:=λq=>by obtain⟨g,_⟩:=av.lr q;rw[ab.qk fv,eA]at g;cases g
   have kt:eI fx≠some P:=λq=>by obtain⟨g,_⟩:=av.lr q;rw[ab.qk fw,eB]at g;cases g
   have aL:=av.cells;apply rn;simp[D,J,aL.1,aL.2];refine cf Tryz.func19 rfl (eF (by omega) hn ⟨by omega,by omega⟩ ⟨by omega,by omega⟩ k7 λx eb p7 b1=>?_)
   have kv:∃l,aO c=some (.cells l):=by obtain⟨_,_,_,q⟩:=k7;exact⟨_,q⟩
   have c9:=qA k5 b4 kv b1.2;have kx:=Ho h7 b4 gx b1.2;apply rn;simp[D,J,aL.1,aL.2,d.1,d.2];refine aK lay rfl rfl rfl dM rfl dM rfl rS (by decide) (by simp;omega) (σ0:=eb.off ha) (es:=H.map int) (xs:=[int x]) (by simpa using c9.here.1) (.inr ⟨_,by simp;rfl⟩) λp8 σ6 ca=>?_
   have ky:=Pv kx c9 ca;have h8:=ca.base c9.here.2;have gA:=ca.cells;have k6:∀y l,eb y=some (.cells l)->σ6 y=some (.cells l):=λy l hy=>ca.1 _ _ (by rw[ab.dL (λe=>by obtain⟨_,_,q⟩:=c9.aV e;rw[hy]at q;cases q)];exact hy)
   have pa:σ6 X=some (.cells fQ):=k6 _ _ (by rw[b1.2 X bw];exact k4 _ _ fv eA)
   have pb:σ6 P=some (.cells (A6 (.lit (.slice none 0 0)))):=k6 _ _ (by rw[b1.2 P n6];exact k4 _ _ fw eB)
   have b2:bj c nums (k+21+12*(i+1)) σ6:=by obtain⟨n,z,g1,g2⟩:=b1.1;exact⟨n,z,by omega,k6 _ _ g2⟩
   apply rn;simp[D,e9,f1.1,f1.2,aL.1,aL.2,gA.1,gA.2];refine ih _ g1 ⟨_,σ6,fx,p8,L++[e],H++[x],rfl,by simp[D],by simp[e1],by simp[G],by simp[E],by simp,by simp,by simp,b2,pa,pb,by simpa using ky,by simpa using h8,gx,k8,kt,by simp[ie],by simp[p6],λy hy=>?_,λy hy=>?_⟩
   . rcases ZA.1 hy with hy|hy
     . exact h5 y hy
     . simp at hy;subst hy;exact he
   . rcases ZA.1 hy with hy|hy
     . exact ix y hy
     . simp at hy;omega
 . have pd:i=mo:=by omega
   subst pd;clear ih
   obtain⟨Q,cap,rest,rfl,r1,r2,r3,r4,r5⟩:∃Q cap rest,la=.gh Q 0 i cap/\σ.del c Q=none/\i<=cap/\(∀e∈L.map bu,e.cells.length=6)/\σ' Q=some (.cells (flatten (L.map bu)++rest))/\rest.length=(cap-i)*6:=by
    have eK:(L.map bu).length=i:=by simp_all
    rcases ep.2 with⟨e,_⟩|⟨b,cap,rest,g1,g2,g3,g4,g5,g6⟩
    . grind
    . rw[eK]at g1 g3 g6
      grind
   have ay:Q≠c:=λe=>ev (by rw[e];rfl)
   have pk:Q≠X:=λe=>fv (by rw[e];rfl)
   have h9:Q≠P:=λe=>fw (by rw[e];rfl)
   have ts:σ Q=none:=by simpa[ab.del,ay]using r1
   refine aa.Ii 8 (a':=ints H) (by rw[J];simpa using et.W) ?_
   have b8:=et.1;clear ep et b5 d ev fv fw J;apply rn;simp[D,e1,G,E,F,e9,a7];refine cf Tryz.func19 rfl (eF (by omega) hn ⟨by omega,by omega⟩ ⟨by omega,by omega⟩ fu λq a8 hq U=>?_)
   have eA:a8 X=some (.cells fQ):=by rw[U.2 X bw];exact q4
   have eB:a8 P=some (.cells (A6 (.lit (.slice none 0 0)))):=by rw[U.2 P n6];exact q6
   have l1:a8 Q=some (.cells (flatten (L.map bu)++rest)):=by rw[U.2 Q ay];exact r4
   have al:(σ.del c).Le a8:=λy x hy=>by
    have Y:y≠c:=λe=>by simp_all
    rw[U.2 y Y];exact b8 y x hy
   obtain⟨qn,rfl⟩:∃qn:Nat,q=(qn:Int):=⟨q.toNat,by omega⟩
   have wN:1<=qn/\qn<=6:=by omega
   have gB:bj c nums (k+60) a8:=U.1.mono (by omega)
   obtain⟨C,hC⟩:∃C,C=L.map (·.cR):=⟨_,rfl⟩;obtain⟨f1,eN⟩:∃f1:Fr,f1=⟨[],f0.roads,f0.aQ,f0.eP,f0.cM,(i:Int)⟩:=⟨_,rfl⟩
   have cb:Seen f1 i C H [] [] L:=⟨rfl,by simp,by simp,λj hj=>by simp at hj,λj hj=>by simp at hj,λa b _ hb=>by simp at hb,λj hj=>by simp at hj,λj hj=>by simp_all,ie⟩
   have gC:∀e∈L,NG f0.roads.length e:=λe he=>by have:=h5 e he;exact⟨⟨this.hour.1,by have:=this.hour;omega⟩,this.place,this.cR,this.marks,⟨by have:=this.bt;omega,by have:=this.bt;omega⟩,this.jw⟩
   apply rn;simp[D,e1,G,E,F,e9,a7];have l2:=D;have l3:=G;have l4:=E;have l5:=F;clear D e1 G E F e9 a7 h5 r3
   refine aa.loop qn (λj s=>∃env σ' a hh M es ks,s=⟨env,σ',[],.no⟩/\env 0=.ref c 0/\env 4=.ref X 0/\env 6=.ref P 0/\env 7=.gh Q 0 i cap/\env 8=ints H/\env 10=hh/\env 11=int ((qn:Int)-j)/\bj c nums (k+60+16*j) σ'/\σ' X=some (.cells fQ)/\σ' P=some (.cells (A6 a))/\σ' Q=some (.cells (flatten (M.map bu)++rest))/\Tok (σ.del c) σ' a 6 (es.map bu)/\Tok (σ.del c) σ' hh 1 (ks.map int)/\(∀b,br a=some b->br hh≠some b)/\Seen f1 i C H ks es M/\(∀e∈M,NG f0.roads.length e)/\(∀e∈es,e.marks.length<=3)/\es.length<=j)
    ⟨_,a8,.lit (.slice none 0 0),.lit (.slice none 0 0),L,[],[],rfl,by simp[l2],by simp[l3],by simp[l4],by simp[l5],by simp,by simp,by simp,gB,eA,eB,l1,⟨al,.inl ⟨rfl,rfl⟩⟩,⟨al,.inl ⟨rfl,rfl⟩⟩,λb hb=>by simp[br]at hb,cb,gC,by simp⟩ ?_
   clear l2 l3 l4 l5 gB eA eB l1 al b8 cb gC q4 q6 fu U r4
   rintro c1 j _ hj ⟨env,σ',a,hh,M,es,ks,rfl,D,G,E,F,J,bp,bs,ho,q4,q6,ql,b9,ec,gD,O,fO,hv,wS⟩ ih
   have o:=b9.cells;have d:=ec.cells;have a7:σ' P=some (.cells [a,rows f0.roads,int f0.aQ,int f0.eP,int f0.cM,int i]):=by rw[q6,ej]
   rcases aag j qn with g1|g1
   . have k0 : (0 : Int)<(qn:Int)-j:=by omega
     have ER:(j:Int)<qn:=by omega
     have f2:-9223372036854775808<=(i:Int)-1/\(i:Int)-1<=9223372036854775807:=by omega
     have f3:-9223372036854775808<=(qn:Int)-j-1/\(qn:Int)-j-1<=9223372036854775807:=by omega
     apply rn;simp[D,G,E,F,J,bp,bs,o.1,o.2,d.1,d.2,k0,ER,g1,a7,f2.1,f2.2];refine cf Tryz.func18 rfl (eV (by omega) hn ⟨by omega,by omega⟩ ho λkk a8 x0 U=>?_)
     obtain⟨R,rfl⟩:∃R:Nat,kk=(R:Int):=⟨kk.toNat,by omega⟩
     have bA:R<i:=by omega
     have w6:a8 P=some (.cells [a,rows f0.roads,int f0.aQ,int f0.eP,int f0.cM,int i]):=by rw[U.2 P n6];exact a7
     apply rn;simp[D,G,E,F,J,bp,bs,o.1,o.2,d.1,d.2,w6];refine cf Tryz.func84 rfl (oA (by omega) hn ⟨by omega,by omega⟩ U.1 λe aO he hz=>?_)
     have bB:∀y,y≠c->aO y=σ' y:=λy hy=>(hz.2 y hy).trans (U.2 y hy)
     have w6:aO P=some (.cells [a,rows f0.roads,int f0.aQ,int f0.eP,int f0.cM,int i]):=by rw[bB P n6];exact a7
     have wl:aO Q=some (.cells (flatten (M.map bu)++rest)):=by rw[bB Q ay];exact ql
     have w4:aO X=some (.cells fQ):=by rw[bB X bw];exact q4
     apply rn;simp[D,G,E,F,J,bp,bs,o.1,o.2,d.1,d.2,w6];refine bV.intro λc13 l6=>?_
     have m0:c13≠c:=λe=>by subst e;obtain⟨_,_,_,q⟩:=hz.1;simp_all
     have m4:c13≠X:=λe=>by subst e;simp_all
     have m6:c13≠P:=λe=>by subst e;simp_all
     have ml:c13≠Q:=λe=>by subst e;simp_all
     have gd:R<M.length:=by rw[O.Rl];exact bA
     obtain⟨el,eK⟩:∃el,el=M[R]:=⟨_,rfl⟩;have bb:=fO el (by rw[eK];exact zD gd)
     obtain⟨CL,eR⟩:∃CL,CL=flatten (M.map bu)++rest:=⟨_,rfl⟩;rw[<-eR]at wl;have hA:∀x∈M.map bu,x.cells.length=6:=λx hx=>by obtain⟨y,_,rfl⟩:=ZU.1 hx;rfl
     have gG:(flatten (M.map bu)).length=M.length*6:=by rw[bK (kk:=6) hA,ZT]
     have cg:∀t,t<6->CL[R*6+t]?=(bu el).cells[t]?:=λt ht=>by
      rw[eR,aam (by omega)]
      exact mc (kk:=6) hA (by rw[ZY,Rp gd,eK];rfl) t ht
     have l7:=cg 0 (by omega)
     have lj:=cg 1 (by omega)
     have lp:=cg 2 (by omega)
     have lA:=cg 3 (by omega)
     simp at l7 lj lp lA;simp[D,G,E,F,J,bp,bs,o.1,o.2,d.1,d.2,wl,ab.ah,zj ml,bA,lp,aJ]
     have ps:∀x,bj c nums (k+60+16*j+12) (aO.set c13 x):=λx=>by obtain⟨n,z,g1,g2⟩:=hz.1;exact⟨n,z,by omega,by rw[ab.ah _ _ (zj m0)];exact g2⟩
     refine cf Tryz.func18 rfl (eV (by omega) hn ⟨by omega,by omega⟩ (ps _) λsh eb p7 b1=>?_)
     have hB:eb c13=some (.cells [int e.hour,int e.place,int el.cR,ints e.marks,int e.bt,int e.jw]):=by rw[b1.2 c13 m0,ab.ai]
     have ed:R<H.length:=by omega
     obtain⟨h0,ee⟩:∃h0,h0=H[R]:=⟨_,rfl⟩;have v3:13<=h0/\h0<=16:=ix _ (by rw[ee];exact zD ed)
     have hD:(H.map int)[R]?=some (int h0):=by rw[ZY,Rp ed,ee];rfl
     have lB:sh=0\/sh=1\/sh=2:=by omega
     have gH:0<=sh/\sh<=2:=by omega
     have m1:f0.aQ<=f0.eP:=Z.to.1;have x3:0<=f0.aQ/\f0.eP<=2:=⟨Z.fr.1,Z.to.2⟩
     have hE:∀x,bj c nums (k+60+16*j+13) (eb.set c13 x):=λx=>by obtain⟨n,z,g1,g2⟩:=b1.1;exact⟨n,z,by omega,by rw[ab.ah _ _ (zj m0)];exact g2⟩
     have hF:∀y,y≠c->y≠c13->eb y=σ' y:=λy Y y2=>by rw[b1.2 y Y,ab.ah _ _ y2,bB y Y]
     have v5:ks.length<1000000:=by rw[O.len];omega
     apply yr (I:=λenv σ6=>∃b,env 0=.ref c 0/\env 4=.ref X 0/\env 6=.ref P 0/\env 7=.gh Q 0 i cap/\env 8=ints H/\env 10=hh/\env 11=int ((qn:Int)-j)/\env 12=int R/\env 13=.ref c13 0/\env 80=bool b/\bj c nums (k+60+16*j+14) σ6/\σ6 c13=some (.cells [int e.hour,int e.place,int el.cR,ints e.marks,int h0,int sh])/\(∀y,y≠c->y≠c13->σ6 y=σ' y)/\(b=true->sh≠0)/\(b=false->sh≠1))
     . intro T
       rcases lB with rfl|rfl|rfl
       . refine aa.runN lay [] 28 ?_
         simp[D,G,E,F,J,bp,bs,o.1,o.2,d.1,d.2,hB,hD,ed,aJ,<-ee]
         refine T _ _ ⟨false,by simp[D,G,E,F,J,bp,bs,o.1,o.2,d.1,d.2],by simp[D,G,E,F,J,bp,bs,o.1,o.2,d.1,d.2],by simp[D,G,E,F,J,bp,bs,o.1,o.2,d.1,d.2],by simp[D,G,E,F,J,bp,bs,o.1,o.2,d.1,d.2],by simp[D,G,E,F,J,bp,bs,o.1,o.2,d.1,d.2],by simp[D,G,E,F,J,bp,bs,o.1,o.2,d.1,d.2],by simp[D,G,E,F,J,bp,bs,o.1,o.2,d.1,d.2],by simp[D,G,E,F,J,bp,bs,o.1,o.2,d.1,d.2],by simp[D,G,E,F,J,bp,bs,o.1,o.2,d.1,d.2],by simp[D,G,E,F,J,bp,bs,o.1,o.2,d.1,d.2],(hE _).mono (by omega),ab.ai _ _ _,λy Y y2=>by rw[ab.ah _ _ y2];exact hF y Y y2,by simp⟩
       . refine aa.runN lay [] 28 ?_
         simp[D,G,E,F,J,bp,bs,o.1,o.2,d.1,d.2,hB,hD,ed,aJ,<-ee]
         refine T _ _ ⟨true,by simp[D,G,E,F,J,bp,bs,o.1,o.2,d.1,d.2],by simp[D,G,E,F,J,bp,bs,o.1,o.2,d.1,d.2],by simp[D,G,E,F,J,bp,bs,o.1,o.2,d.1,d.2],by simp[D,G,E,F,J,bp,bs,o.1,o.2,d.1,d.2],by simp[D,G,E,F,J,bp,bs,o.1,o.2,d.1,d.2],by simp[D,G,E,F,J,bp,bs,o.1,o.2,d.1,d.2],by simp[D,G,E,F,J,bp,bs,o.1,o.2,d.1,d.2],by simp[D,G,E,F,J,bp,bs,o.1,o.2,d.1,d.2],by simp[D,G,E,F,J,bp,bs,o.1,o.2,d.1,d.2],by simp[D,G,E,F,J,bp,bs,o.1,o.2,d.1,d.2],(hE _).mono (by omega),ab.ai _ _ _,λy Y y2=>by rw[ab.ah _ _ y2];exact hF y Y y2,by simp⟩
       . refine aa.runN lay [] 28 ?_
         simp[D,G,E,F,J,bp,bs,o.1,o.2,d.1,d.2,hB,hD,ed,aJ,<-ee];refine cf Tryz.func20 rfl (vM (by omega) hn ⟨by omega,by omega⟩ (hE _) λb σ6 hG=>?_)
         refine aa.runN lay [] 3 ?_;simp[D,G,E,F,J,bp,bs,o.1,o.2,d.1,d.2]
         refine T _ _ ⟨b,by simp[D,G,E,F,J,bp,bs,o.1,o.2,d.1,d.2],by simp[D,G,E,F,J,bp,bs,o.1,o.2,d.1,d.2],by simp[D,G,E,F,J,bp,bs,o.1,o.2,d.1,d.2],by simp[D,G,E,F,J,bp,bs,o.1,o.2,d.1,d.2],by simp[D,G,E,F,J,bp,bs,o.1,o.2,d.1,d.2],by simp[D,G,E,F,J,bp,bs,o.1,o.2,d.1,d.2],by simp[D,G,E,F,J,bp,bs,o.1,o.2,d.1,d.2],by simp[D,G,E,F,J,bp,bs,o.1,o.2,d.1,d.2],by simp[D,G,E,F,J,bp,bs,o.1,o.2,d.1,d.2],by simp[D,G,E,F,J,bp,bs,o.1,o.2,d.1,d.2],hG.1,by rw[hG.2 c13 m0,ab.ai],λy Y y2=>by rw[hG.2 y Y,ab.ah _ _ y2];exact hF y Y y2,by simp⟩
     clear D G E F J bp bs
     rintro env σ6 ⟨b,D,G,E,F,J,bp,bs,cZ,K,gf,b2,a9,aC,m2,m3⟩
     apply yr (I:=λenv σ6=>∃ht,env 0=.ref c 0/\env 4=.ref X 0/\env 6=.ref P 0/\env 7=.gh Q 0 i cap/\env 8=ints H/\env 10=hh/\env 11=int ((qn:Int)-j)/\env 12=int R/\env 13=.ref c13 0/\env 95=int (pK ks R)/\bj c nums (k+60+16*j+15) σ6/\σ6 c13=some (.cells [int e.hour,int e.place,int el.cR,ints e.marks,int ht,int sh])/\(∀y,y≠c->y≠c13->σ6 y=σ' y)/\((sh≠1/\ht=h0)\/(sh≠0/\∃y,f0.aQ<=y/\y<=f0.eP/\ht=h0+y)))
     . intro T
       have hW:Wl [hh,int R] [ints ks,int R]:=.cons (by simpa using ec.W) (.cons (.refl _) .nil)
       cases b
       . apply rn
         simp[D,G,E,F,J,bp,bs,cZ,K,gf];refine cd Tryz.func24 rfl rfl hW (pL (by omega) ?_)
         refine T _ _ ⟨h0,?_,?_,?_,?_,?_,?_,?_,?_,?_,?_,b2.mono (by omega),a9,aC,.inl ⟨m3 rfl,rfl⟩⟩<;>simp[D,G,E,F,J,bp,bs,cZ,K,gf]
       . have v6 : σ6 P=some (.cells [a,rows f0.roads,int f0.aQ,int f0.eP,int f0.cM,int i]):=by rw[aC P n6 (zj m6)];exact a7
         have x4:=Z.fr;have ep:=Z.to;apply rn;simp[D,G,E,F,J,bp,bs,cZ,K,gf,a9,v6,aJ]
         repeat' (first
                   |apply And.intro
                   | (refine cf Tryz.func19 rfl (eF (by omega) hn ⟨by omega,by omega⟩ ⟨by omega,by omega⟩ b2 λy S hy hH=>?_)
                      have pA:S c13=some (.cells [int e.hour,int e.place,int el.cR,ints e.marks,int h0,int sh]):=by rw[hH.2 c13 m0];exact a9
                      have f4:-9223372036854775808<=h0+y/\h0+y<=9223372036854775807:=by omega
                      apply pg;simp[D,G,E,F,J,bp,bs,cZ,K,pA,f4.1,f4.2,aJ];apply rn;simp[D,G,E,F,J,bp,bs,cZ,K];refine cd Tryz.func24 rfl rfl hW (pL (by omega) ?_)
                      refine T _ _ ⟨h0+y,by simp[D],by simp[G],by simp[E],by simp[F],by simp[J],by simp[bp],by simp[bs],by simp[cZ],by simp[K],by simp,?_,ab.ai _ _ _,λz Y y2=>by rw[ab.ah _ _ y2,hH.2 z Y];exact aC z Y y2,.inr ⟨m2 rfl,y,by omega,by omega,rfl⟩⟩
                      obtain⟨n,z,g1,g2⟩:=hH.1;exact⟨n,z,by omega,by rw[ab.ah _ _ (zj m0)];exact g2⟩))
     clear b2 a9 aC D G E F J bp bs cZ K gf m2 m3
     rintro env σ6 ⟨ht,D,G,E,F,J,bp,bs,cZ,K,ad,b2,a9,aC,md⟩
     have hK:0<=ht/\ht<=30:=by rcases md with⟨_,q⟩|⟨_,y,q1,q2,q3⟩<;>omega
     have aE:=Fr.qI (Z.fits (by omega)) (Z.check (by omega))
     have x5:∀x∈M,x.marks.length<=3:=λx hx=>(kY (fO x hx).marks).2
     have pB:=(kY he.marks).2;have v9:=(kY bb.marks).2;have mf:=he.place;have mg:=bb.place;have vc:=bb.hour;have mi:=Z.cM;apply yr (I:=λenv S=>∃hr,env 0=.ref c 0/\env 4=.ref X 0/\env 6=.ref P 0/\env 7=.gh Q 0 i cap/\env 8=ints H/\env 10=hh/\env 11=int ((qn:Int)-j)/\env 12=int R/\env 13=.ref c13 0/\bj c nums (k+60+16*j+16) S/\S c13=some (.cells [int hr,int e.place,int el.cR,ints e.marks,int ht,int sh])/\(∀y,y≠c->y≠c13->S y=σ' y)/\(0<=hr/\hr<=1000)/\((R:Int)∈ks->M0 f1 el {e with hour:=hr}))
     . intro T
       by_cases hL:(R:Int)∈ks
       . have q2:pK ks R>=0:=(jW ks R).2 hL
         obtain⟨rw,cm⟩:∃rw,rw=f0.roads[el.place.toNat]'(by omega):=⟨_,rfl⟩
         have gI:=aE.row (i:=el.place.toNat) (by omega)
         rw[<-cm]at gI;have cv:e.place.toNat<rw.length:=by omega
         obtain⟨r,gj⟩:∃r,r=rw[e.place.toNat]:=⟨_,rfl⟩;have x6:=gI.2 r (by rw[gj];exact zD cv)
         have b3:el.place.toNat<f0.roads.length:=by omega
         have pO:(f0.roads.map ints)[el.place.toNat]?=some (ints rw):=by rw[ZY,Rp b3,cm];rfl
         have hr:(rw.map int)[e.place.toNat]?=some (int r):=by rw[ZY,Rp cv,gj];rfl
         have mj:=cv;obtain⟨ch,hO⟩:∃ch,ch=U1 el.marks e.marks:=⟨_,rfl⟩
         have eW:0<=ch/\ch<=6:=by have q1:=nK el.marks e.marks;have q2:=nK e.marks el.marks;rw[hO];unfold U1;omega
         have x7:0<=f0.cM*ch/\f0.cM*ch<=24:=⟨Int.mul_nonneg (by omega) eW.1,Int.le_trans (Int.mul_le_mul mi.2 eW.2 eW.1 (by omega)) (by omega)⟩
         have mm:-9223372036854775808<=el.hour+r/\el.hour+r<=9223372036854775807:=by omega
         have mw:-9223372036854775808<=f0.cM*ch/\f0.cM*ch<=9223372036854775807:=by omega
         have mx:-9223372036854775808<=el.hour+r+f0.cM*ch/\el.hour+r+f0.cM*ch<=9223372036854775807:=by omega
         have hP:σ6 Q=some (.cells CL):=by rw[aC Q ay (zj ml),<-bB Q ay];exact wl
         have gP:σ6 P=some (.cells [a,rows f0.roads,int f0.aQ,int f0.eP,int f0.cM,int i]):=by rw[aC P n6 (zj m6)];exact a7
         refine aa.runN lay [] 3 ?_;simp[D,G,E,F,J,bp,bs,cZ,K,ad,q2]
         obtain⟨V,hV⟩:∃V:Nat->AV,V=λj=>([.gh Q 0 i cap,int R,.ref Q (R*6),.ref Q (R*6),int el.hour,.ref P 1,rows f0.roads,.gh Q 0 i cap,int R,.ref Q (R*6),.ref Q (R*6+1),int el.place,.cp (ints rw) 0,ints rw,.ref c13 1,int e.place,.cp (int r) 0,int r,int (el.hour+r),.ref P 4,int f0.cM,.gh Q 0 i cap,int R,.ref Q (R*6),.ref Q (R*6+3),ints el.marks,.ref c13 3,ints e.marks,int ch,int (f0.cM*ch),int (el.hour+r+f0.cM*ch),.ref c 0,.sl 1 (([0,0,1,3]:acm).map int) .exact,int 0,int 0,.ref c13 0]:acs).getD j (int 0):=⟨_,rfl⟩
         have w:∀j,V j=_:=λj=>congrFun hV j
         refine aa.OX (Hp V (env.upd 96 (bool true)) σ6 c c13 (k+60+16*j+16) nums (el.hour+r+f0.cM*ch) (λz=>[int z,int e.place,int el.cR,ints e.marks,int ht,int sh])) lay.mixed (by rfl) ⟨λ_ _=>rfl,by simp,λ_=>rfl,by simp,by simp,by simp,by simp,by simp⟩ ?_ ?_
         . intro done i u S N B mA A
           have mA:i<37:=mA
           rcases(show i=0\/i=1\/i=2\/i=3\/i=4\/i=5\/i=6\/i=7\/i=8\/i=9\/i=10\/i=11\/i=12\/i=13\/i=14\/i=15\/i=16\/i=17\/i=18\/i=19\/i=20\/i=21\/i=22\/i=23\/i=24\/i=25\/i=26\/i=27\/i=28\/i=29\/i=30\/i=31\/i=32\/i=33\/i=34\/i=35\/i=36 by omega)with rfl|rfl|rfl|rfl|rfl|rfl|rfl|rfl|rfl|rfl|rfl|rfl|rfl|rfl|rfl|rfl|rfl|rfl|rfl|rfl|rfl|rfl|rfl|rfl|rfl|rfl|rfl|rfl|rfl|rfl|rfl|rfl|rfl|rfl|rfl|rfl|rfl
           . have b7:u 7=.gh Q 0 i cap:=(A.base 7 (by omega)).trans F
             refine bg lay (mu:=[]) ?_;simp[b7];exact A.next (i:=0) (by omega) B (by omega) (by omega) ((w 0).symm)
           . have eX:u 12=int R:=(A.base 12 (by omega)).trans cZ
             refine bg lay (mu:=[]) ?_;simp[eX];exact A.next (i:=1) (by omega) B (by omega) (by omega) ((w 1).symm)
           . have d0:u 97=.gh Q 0 i cap:=(A.dG 0 (N 0 (by rfl)) (by omega) (by omega) (by omega)).trans (w 0)
             have d1:u 98=int R:=(A.dG 1 (N 1 (by rfl)) (by omega) (by omega) (by omega)).trans (w 1)
             refine bg lay (mu:=[]) ?_;simp[d0,d1,bA];exact A.next (i:=2) (by omega) B (by omega) (by omega) ((w 2).symm)
           . have d2:u 99=.ref Q (R*6):=(A.dG 2 (N 2 (by rfl)) (by omega) (by omega) (by omega)).trans (w 2)
             refine bg lay (mu:=[]) ?_;simp[d2];exact A.next (i:=3) (by omega) B (by omega) (by omega) ((w 3).symm)
           . have d3:u 100=.ref Q (R*6):=(A.dG 3 (N 3 (by rfl)) (by omega) (by omega) (by omega)).trans (w 3)
             have kl:=A.keep (by omega) B (y:=Q) ay;rw[hP]at kl
             refine bg lay (mu:=[]) ?_;simp[kl,l7,d3];exact A.next (i:=4) (by omega) B (by omega) (by omega) ((w 4).symm)
           . have b6:u 6=.ref P 0:=(A.base 6 (by omega)).trans E
             refine bg lay (mu:=[]) ?_;simp[b6];exact A.next (i:=5) (by omega) B (by omega) (by omega) ((w 5).symm)
           . have d5:u 102=.ref P 1:=(A.dG 5 (N 5 (by rfl)) (by omega) (by omega) (by omega)).trans (w 5)
             have k6:=A.keep (by omega) B (y:=P) n6;rw[gP]at k6
             refine bg lay (mu:=[]) ?_;simp[k6,d5];exact A.next (i:=6) (by omega) B (by omega) (by omega) ((w 6).symm)
           . have b7:u 7=.gh Q 0 i cap:=(A.base 7 (by omega)).trans F
             refine bg lay (mu:=[]) ?_;simp[b7];exact A.next (i:=7) (by omega) B (by omega) (by omega) ((w 7).symm)
           . have eX:u 12=int R:=(A.base 12 (by omega)).trans cZ
             refine bg lay (mu:=[]) ?_;simp[eX];exact A.next (i:=8) (by omega) B (by omega) (by omega) ((w 8).symm)
           . have d7:u 104=.gh Q 0 i cap:=(A.dG 7 (N 7 (by rfl)) (by omega) (by omega) (by omega)).trans (w 7)
             have d8:u 105=int R:=(A.dG 8 (N 8 (by rfl)) (by omega) (by omega) (by omega)).trans (w 8)
             refine bg lay (mu:=[]) ?_;simp[d7,d8,bA];exact A.next (i:=9) (by omega) B (by omega) (by omega) ((w 9).symm)
           . have d9:u 106=.ref Q (R*6):=(A.dG 9 (N 9 (by rfl)) (by omega) (by omega) (by omega)).trans (w 9)
             refine bg lay (mu:=[]) ?_;simp[d9];exact A.next (i:=10) (by omega) B (by omega) (by omega) ((w 10).symm)
           . have q0:u 107=.ref Q (R*6+1):=(A.dG 10 (N 10 (by rfl)) (by omega) (by omega) (by omega)).trans (w 10)
             have kl:=A.keep (by omega) B (y:=Q) ay;rw[hP]at kl
             refine bg lay (mu:=[]) ?_;simp[kl,lj,q0];exact A.next (i:=11) (by omega) B (by omega) (by omega) ((w 11).symm)
           . have d6:u 103=rows f0.roads:=(A.dG 6 (N 6 (by rfl)) (by omega) (by omega) (by omega)).trans (w 6)
             have q5:u 108=int el.place:=(A.dG 11 (N 11 (by rfl)) (by omega) (by omega) (by omega)).trans (w 11)
             refine bg lay (mu:=[]) ?_;simp[d6,q5,pO,b3];refine⟨mg.1,?_⟩;rw[<-cm];exact A.next (i:=12) (by omega) B (by omega) (by omega) ((w 12).symm)
           . have q7:u 109=.cp (ints rw) 0:=(A.dG 12 (N 12 (by rfl)) (by omega) (by omega) (by omega)).trans (w 12)
             refine bg lay (mu:=[]) ?_;simp[q7];exact A.next (i:=13) (by omega) B (by omega) (by omega) ((w 13).symm)
           . have fc:u 13=.ref c13 0:=(A.base 13 (by omega)).trans K
             refine bg lay (mu:=[]) ?_;simp[fc];exact A.next (i:=14) (by omega) B (by omega) (by omega) ((w 14).symm)
           . have q9:u 111=.ref c13 1:=(A.dG 14 (N 14 (by rfl)) (by omega) (by omega) (by omega)).trans (w 14)
             have c5:=A.keep (by omega) B (y:=c13) m0;rw[a9]at c5
             refine bg lay (mu:=[]) ?_;simp[c5,q9];exact A.next (i:=15) (by omega) B (by omega) (by omega) ((w 15).symm)
           . have qb:u 110=ints rw:=(A.dG 13 (N 13 (by rfl)) (by omega) (by omega) (by omega)).trans (w 13)
             have qi:u 112=int e.place:=(A.dG 15 (N 15 (by rfl)) (by omega) (by omega) (by omega)).trans (w 15)
             refine bg lay (mu:=[]) ?_;simp[qb,qi,hr,mj];refine⟨mf.1,?_⟩;rw[<-gj];exact A.next (i:=16) (by omega) B (by omega) (by omega) ((w 16).symm)
           . have qj:u 113=.cp (int r) 0:=(A.dG 16 (N 16 (by rfl)) (by omega) (by omega) (by omega)).trans (w 16)
             refine bg lay (mu:=[]) ?_;simp[qj];exact A.next (i:=17) (by omega) B (by omega) (by omega) ((w 17).symm)
           . have d4:u 101=int el.hour:=(A.dG 4 (N 4 (by rfl)) (by omega) (by omega) (by omega)).trans (w 4)
             have qq:u 114=int r:=(A.dG 17 (N 17 (by rfl)) (by omega) (by omega) (by omega)).trans (w 17)
             refine bg lay (mu:=[]) ?_;simp[d4,qq,mm.1,mm.2];exact A.next (i:=18) (by omega) B (by omega) (by omega) ((w 18).symm)
           . have b6:u 6=.ref P 0:=(A.base 6 (by omega)).trans E
             refine bg lay (mu:=[]) ?_;simp[b6];exact A.next (i:=19) (by omega) B (by omega) (by omega) ((w 19).symm)
           . have qs:u 116=.ref P 4:=(A.dG 19 (N 19 (by rfl)) (by omega) (by omega) (by omega)).trans (w 19)
             have k6:=A.keep (by omega) B (y:=P) n6;rw[gP]at k6
             refine bg lay (mu:=[]) ?_;simp[k6,qs];exact A.next (i:=20) (by omega) B (by omega) (by omega) ((w 20).symm)
           . have b7:u 7=.gh Q 0 i cap:=(A.base 7 (by omega)).trans F
             refine bg lay (mu:=[]) ?_;simp[b7];exact A.next (i:=21) (by omega) B (by omega) (by omega) ((w 21).symm)
           . have eX:u 12=int R:=(A.base 12 (by omega)).trans cZ
             refine bg lay (mu:=[]) ?_;simp[eX];exact A.next (i:=22) (by omega) B (by omega) (by omega) ((w 22).symm)
           . have r9:u 118=.gh Q 0 i cap:=(A.dG 21 (N 21 (by rfl)) (by omega) (by omega) (by omega)).trans (w 21)
             have ra:u 119=int R:=(A.dG 22 (N 22 (by rfl)) (by omega) (by omega) (by omega)).trans (w 22)
             refine bg lay (mu:=[]) ?_;simp[r9,ra,bA];exact A.next (i:=23) (by omega) B (by omega) (by omega) ((w 23).symm)
           . have rb:u 120=.ref Q (R*6):=(A.dG 23 (N 23 (by rfl)) (by omega) (by omega) (by omega)).trans (w 23)
             refine bg lay (mu:=[]) ?_;simp[rb];exact A.next (i:=24) (by omega) B (by omega) (by omega) ((w 24).symm)
           . have rh:u 121=.ref Q (R*6+3):=(A.dG 24 (N 24 (by rfl)) (by omega) (by omega) (by omega)).trans (w 24)
             have kl:=A.keep (by omega) B (y:=Q) ay;rw[hP]at kl
             refine bg lay (mu:=[]) ?_;simp[kl,lA,rh];exact A.next (i:=25) (by omega) B (by omega) (by omega) ((w 25).symm)
           . have fc:u 13=.ref c13 0:=(A.base 13 (by omega)).trans K
             refine bg lay (mu:=[]) ?_;simp[fc];exact A.next (i:=26) (by omega) B (by omega) (by omega) ((w 26).symm)
           . have ri:u 123=.ref c13 3:=(A.dG 26 (N 26 (by rfl)) (by omega) (by omega) (by omega)).trans (w 26)
             have c5:=A.keep (by omega) B (y:=c13) m0;rw[a9]at c5
             refine bg lay (mu:=[]) ?_;simp[c5,ri];exact A.next (i:=27) (by omega) B (by omega) (by omega) ((w 27).symm)
           . have rj:u 122=ints el.marks:=(A.dG 25 (N 25 (by rfl)) (by omega) (by omega) (by omega)).trans (w 25)
             have rm:u 124=ints e.marks:=(A.dG 27 (N 27 (by rfl)) (by omega) (by omega) (by omega)).trans (w 27)
             refine bg lay (mu:=[]) ?_;simp[rj,rm];refine cf Tryz.func85 rfl (F6 (by omega) (by omega) ?_)
             apply pg;simp;exact A.next (i:=28) (by omega) B (by omega) (by omega) (by rw[w,hO];rfl)
           . have rr:u 117=int f0.cM:=(A.dG 20 (N 20 (by rfl)) (by omega) (by omega) (by omega)).trans (w 20)
             have rF:u 125=int ch:=(A.dG 28 (N 28 (by rfl)) (by omega) (by omega) (by omega)).trans (w 28)
             refine bg lay (mu:=[]) ?_;simp[rr,rF,mw.1,mw.2];exact A.next (i:=29) (by omega) B (by omega) (by omega) ((w 29).symm)
           . have rG:u 115=int (el.hour+r):=(A.dG 18 (N 18 (by rfl)) (by omega) (by omega) (by omega)).trans (w 18)
             have rM:u 126=int (f0.cM*ch):=(A.dG 29 (N 29 (by rfl)) (by omega) (by omega) (by omega)).trans (w 29)
             refine bg lay (mu:=[]) ?_;simp[rG,rM,mx.1,mx.2];exact A.next (i:=30) (by omega) B (by omega) (by omega) ((w 30).symm)
           . have b0:u 0=.ref c 0:=(A.base 0 (by omega)).trans D
             refine bg lay (mu:=[]) ?_;simp[b0];exact A.next (i:=31) (by omega) B (by omega) (by omega) ((w 31).symm)
           . refine bg lay (mu:=[]) ?_
             simp;exact A.next (i:=32) (by omega) B (by omega) (by omega) ((w 32).symm)
           . have rT:u 128=.ref c 0:=(A.dG 31 (N 31 (by rfl)) (by omega) (by omega) (by omega)).trans (w 31)
             have s3:u 129=.sl 1 (([0,0,1,3]:acm).map int) .exact:=(A.dG 32 (N 32 (by rfl)) (by omega) (by omega) (by omega)).trans (w 32)
             refine bg lay (mu:=[]) ?_;simp[rT,s3];have s4:=A.pre B;subst s4;have s5:34∉done:=λq=>B (A.dep q)
             refine cf Tryz.func54 rfl (mJ (l:=[0,0,1,3]) (by omega) hn ⟨by decide,by decide⟩ b2 λp x8 hp mB=>?_)
             apply pg;simp;exact A.RA B s5 (p:=p) (by simp at hp;omega) (mB.1.mono (by omega)) mB.2
           . have s6:u 127=int (el.hour+r+f0.cM*ch):=(A.dG 30 (N 30 (by rfl)) (by omega) (by omega) (by omega)).trans (w 30)
             have c7:=N 33 (by rfl)
             obtain⟨p,hp,EI,_⟩:=A.pick c7;have n2:-9223372036854775808<=el.hour+r+f0.cM*ch+p/\el.hour+r+f0.cM*ch+p<=9223372036854775807:=by omega
             refine bg lay (mu:=[]) ?_;simp[s6,EI,n2.1,n2.2];exact A.summed B c7 hp EI
           . have fc:u 13=.ref c13 0:=(A.base 13 (by omega)).trans K
             refine bg lay (mu:=[]) ?_;simp[fc];exact A.next (i:=35) (by omega) B (by omega) (by omega) ((w 35).symm)
           . have s7:u 132=.ref c13 0:=(A.dG 35 (N 35 (by rfl)) (by omega) (by omega) (by omega)).trans (w 35)
             have c7:=N 33 (by rfl)
             have s9:=N 34 (by rfl)
             obtain⟨p,hp,EI,EJ⟩:=A.pick c7;have EJ:=EJ s9;obtain⟨sg,h3⟩:=A.post c7 B;have c5:=(h3 c13 m0).trans a9;refine bg lay (mu:=[]) ?_;simp[s7,EJ,c5,aJ]
             refine⟨A.base,λj hj g3 g4 g5=>A.dG j ((ZW.1 hj).resolve_left (by omega)) g3 g4 g5,λq=>absurd (aaC _ c7) q,λ_ q=>absurd (abw ..) q,λ_=>⟨p,hp,EI,λ_=>EJ⟩,λ_ j hj=>aaC _ (N j ((by decide:∀j:Fin 36,jb _ j.val 36=true) ⟨j,hj⟩)),λ_=>aaC _ c7,λ_=>⟨p,hp,?_,ab.ai _ _ _,λy Y y2=>by rw[ab.ah _ _ y2];exact h3 y Y⟩⟩
             obtain⟨n,z,g1,g2⟩:=sg;exact⟨n,z,g1,by rw[ab.ah _ _ (zj m0)];exact g2⟩
         . intro done vj S n3 A
           obtain⟨p,hp,g1,g2,g3⟩:=A.fin (n3 36 (by decide))
           have hb:=λ(t:Nat) (ht:t<96)=>(A.base t (by omega)).trans (kM (env:=env) (v:=bool true) (show t≠96 by omega))
           refine T _ _ ⟨el.hour+r+f0.cM*ch+p,(hb 0 (by omega)).trans D,(hb 4 (by omega)).trans G,(hb 6 (by omega)).trans E,(hb 7 (by omega)).trans F,(hb 8 (by omega)).trans J,(hb 10 (by omega)).trans bp,(hb 11 (by omega)).trans bs,(hb 12 (by omega)).trans cZ,(hb 13 (by omega)).trans K,g1,g2,λy Y y2=>(g3 y Y y2).trans (aC y Y y2),by omega,λ_=>?_⟩
           have si:rd f1.roads el.place.toNat e.place.toNat=r:=by rw[eN];unfold rd;rw[zH,zH,Rp b3,aat,<-cm,Rp cv,<-gj];rfl
           have sj:f1.cM=f0.cM:=by rw[eN]
           unfold M0;rw[si,sj,<-Eg bb.marks he.marks,<-hO];show r+f0.cM*ch<=el.hour+r+f0.cM*ch+p-el.hour;omega
       . have q2:¬pK ks R>=0:=λq=>hL ((jW ks R).1 q)
         refine aa.runN lay [] 4 ?_;simp[D,G,E,F,J,bp,bs,cZ,K,ad,q2];refine T _ _ ⟨e.hour,by simp[D,G,E,F,J,bp,bs,cZ,K,ad],by simp[D,G,E,F,J,bp,bs,cZ,K,ad],by simp[D,G,E,F,J,bp,bs,cZ,K,ad],by simp[D,G,E,F,J,bp,bs,cZ,K,ad],by simp[D,G,E,F,J,bp,bs,cZ,K,ad],by simp[D,G,E,F,J,bp,bs,cZ,K,ad],by simp[D,G,E,F,J,bp,bs,cZ,K,ad],by simp[D,G,E,F,J,bp,bs,cZ,K,ad],by simp[D,G,E,F,J,bp,bs,cZ,K,ad],b2.mono (by omega),a9,aC,by have:=he.hour;omega,λq=>absurd q hL⟩
     clear b2 a9 aC D G E F J bp bs cZ K ad
     rintro env S ⟨hr,D,G,E,F,J,bp,bs,cZ,K,n5,a9,eg,so,n7⟩
     have sr:σ.del c c13=none:=by
      cases hx:σ.del c c13 with
      |none=>rfl
      |some x=>have:=b9.1 _ _ hx;rw[<-bB c13 m0,l6]at this;cases this
     have b8:(σ.del c).Le S:=λy x hy=>by
      have Y:y≠c:=λe=>by subst e;rw[b4]at hy;cases hy
      have y2:y≠c13:=λe=>by subst e;rw[sr]at hy;cases hy
      rw[eg y Y y2];exact b9.1 y x hy
     have hR:∀b x,σ' b=some x->(∀l,x≠.cells l)->S b=σ' b:=λb x hb hx=>by
      refine eg b (λe=>?_) λe=>?_
      . rw[e]at hb;obtain⟨_,_,_,q⟩:=ho;rw[q]at hb;cases hb;exact hx _ rfl
      . rw[e,<-bB c13 m0,l6]at hb;cases hb
     have dj:Tok (σ.del c) S a 6 (es.map bu):=tx b9 b8 λb hb=>by obtain⟨g1,l,g2⟩:=b9.aV hb;exact⟨hR b _ g2 (by simp),g1⟩
     have dm:Tok (σ.del c) S hh 1 (ks.map int):=tx ec b8 λb hb=>by obtain⟨g1,l,g2⟩:=ec.aV hb;exact⟨hR b _ g2 (by simp),g1⟩
     have t4:S X=some (.cells fQ):=by rw[eg X bw (zj m4)];exact q4
     have t6:S P=some (.cells (A6 a)):=by rw[eg P n6 (zj m6)];exact q6
     have tl:S Q=some (.cells (flatten (M.map bu)++rest)):=by rw[eg Q ay (zj ml)];exact ql
     clear b9 ec q4 q6 ql a7 eg hR
     rcases abG 72 hr with n9|n9
     . apply rn
       simp[D,G,E,F,J,bp,bs,cZ,K,a9,n9,f3.1,f3.2];refine ih _ g1 ⟨_,S,a,hh,M,es,ks,rfl,by simp[D,G,E,F,J,bp,bs,cZ,K],by simp[D,G,E,F,J,bp,bs,cZ,K],by simp[D,G,E,F,J,bp,bs,cZ,K],by simp[D,G,E,F,J,bp,bs,cZ,K],by simp[D,G,E,F,J,bp,bs,cZ,K],by simp[D,G,E,F,J,bp,bs,cZ,K],by simp;omega,n5.mono (by omega),t4,t6,tl,dj,dm,gD,O,fO,hv,by omega⟩
     . have nc:¬hr>72:=by omega
       obtain⟨n1,nh⟩:∃n1:xH,n1=⟨hr,e.place,el.cR,e.marks,ht,sh⟩:=⟨_,rfl⟩;obtain⟨bm,gR⟩:∃bm,bm=flatten ((M.set R n1).map bu)++rest:=⟨_,rfl⟩;have nq:R*6+6<=CL.length:=by rw[eR,ZN,gG];omega
       have nt:aJ CL (R*6) [int hr,int e.place,int el.cR,ints e.marks,int ht,int sh]=bm:=by
        have:=Aq (k:=6) (M.map bu) R (bu n1) (by rw[ZT];exact gd) hA rfl
        rw[gR,abt,<-this,eR];unfold aJ;rw[List.take_append_of_le_length (by omega),List.drop_append_of_le_length (by rw[gG];simp;omega),nh]
        simp
       rw[<-eR]at tl;have b5:=dj.cells;have vk:=dm.cells;have ob:S P=some (.cells [a,rows f0.roads,int f0.aQ,int f0.eP,int f0.cM,int i]):=by rw[t6,ej]
       have x9:=zj ml;apply rn;simp[D,G,E,F,J,bp,bs,cZ,K,a9,nc,tl,bA,nt,nq,ab.ah,h9.symm,ml,ob,b5.1,b5.2];subst nh;have sy:br a≠some Q:=λe=>by obtain⟨_,_,q⟩:=dj.aV e;rw[tl]at q;cases q
       have oi:br hh≠some Q:=λe=>by obtain⟨_,_,q⟩:=dm.aV e;rw[tl]at q;cases q
       have dr:Tok (σ.del c) (S.set Q (.cells bm)) a 6 (es.map bu):=dj.beside r1 sy;have oj:Tok (σ.del c) (S.set Q (.cells bm)) hh 1 (ks.map int):=dm.beside r1 oi;have vx:(es.map bu).length<=6:=by rw[ZT];omega
       have vy:(ks.map int).length<=6:=by rw[ZT,O.len];omega
       refine aK lay rfl rfl rfl mW rfl mW rfl yP (by decide) (by simp;omega) (σ0:=(S.set Q (.cells bm)).off a) (es:=es.map bu) (xs:=[bu ⟨hr,e.place,el.cR,e.marks,ht,sh⟩]) (by simpa using dr.here.1) (.inr ⟨_,by simp;rfl⟩) λa' hS hT=>?_
       obtain⟨dx,sN⟩:=BU oj dr (λb hb q=>gD b q hb) hT
       have gU:=hT.base dr.here.2;have k9:∀y l,(S.set Q (.cells bm)) y=some (.cells l)->hS y=some (.cells l):=λy l hy=>hT.1 _ _ (by rw[ab.dL (λe=>by obtain⟨_,_,q⟩:=dr.aV e;rw[hy]at q;cases q)];exact hy)
       have dy:=gU.cells;apply rn;simp[D,G,E,F,J,bp,bs,cZ,K,dy.1,dy.2];refine aK lay rfl rfl rfl dM rfl dM rfl rS (by decide) (by simp;omega) (σ0:=hS.off hh) (es:=ks.map int) (xs:=[int R]) (by simpa using dx.here.1) (.inr ⟨_,by simp;rfl⟩) λtc ax fg=>?_
       obtain⟨hU,ox⟩:=BU gU dx (λb hb q=>sN b q hb) fg
       have fi:=fg.base dx.here.2;have fl:=fi.cells;have gl:∀y l,hS y=some (.cells l)->ax y=some (.cells l):=λy l hy=>fg.1 _ _ (by rw[ab.dL (λe=>by obtain⟨_,_,q⟩:=dx.aV e;rw[hy]at q;cases q)];exact hy)
       have z6:ax P=some (.cells [a,rows f0.roads,int f0.aQ,int f0.eP,int f0.cM,int i]):=gl _ _ (k9 _ _ (by rw[ab.ah _ _ (zj h9)];exact ob))
       have z4:ax X=some (.cells fQ):=gl _ _ (k9 _ _ (by rw[ab.ah _ _ (zj pk)];exact t4))
       have zl:ax Q=some (.cells bm):=gl _ _ (k9 _ _ (ab.ai _ _ _));apply rn;simp[D,G,E,F,J,bp,bs,cZ,K,z6,aJ,dy.1,dy.2,fl.1,fl.2,f3.1,f3.2];have oF:NG f0.roads.length ⟨hr,e.place,el.cR,e.marks,ht,sh⟩:=⟨⟨so.1,by omega⟩,he.place,bb.cR,he.marks,hK,gH⟩
       have oG:M.getD R rL=el:=by rw[zH,Rp gd,eK];rfl
       have oK:H.getD R 0=h0:=by rw[zH,Rp ed,ee];rfl
       have gp:=O.push (k:=R) (n:=⟨hr,e.place,el.cR,e.marks,ht,sh⟩) bA (by rw[eN];exact oF.check) (by rw[oG]) (by rw[oK,eN];refine NH m1 gH ?_;exact md) (λq=>by rw[oG];exact n7 q)
       have h1:∀{x:AV}{kk:Nat}{l:acs},Tok (σ.del c) ax x kk l->Tok (σ.del c) (ax.set P (.cells (A6 a'))) x kk l:=λ{x kk l} hx=>hx.beside p5 (λe=>by obtain⟨_,_,q⟩:=hx.aV e;rw[z6]at q;cases q)
       refine ih _ g1 ⟨_,ax.set P (.cells (A6 a')),a',tc,M.set R ⟨hr,e.place,el.cR,e.marks,ht,sh⟩,es++[⟨hr,e.place,el.cR,e.marks,ht,sh⟩],ks++[(R:Int)],by rw[ej],by simp[D,G,E,F,J,bp,bs,cZ,K],by simp[D,G,E,F,J,bp,bs,cZ,K],by simp[D,G,E,F,J,bp,bs,cZ,K],by simp[D,G,E,F,J,bp,bs,cZ,K],by simp[D,G,E,F,J,bp,bs,cZ,K],by simp[D,G,E,F,J,bp,bs,cZ,K],by simp;omega,?_,?_,ab.ai _ _ _,?_,by have:=h1 hU;simpa using this,by have:=h1 fi;simpa using this,λb hb=>ox b hb,gp,λx hx=>?_,λx hx=>?_,by simp;omega⟩
       . obtain⟨n,z,g1,g2⟩:=n5
         exact⟨n,z,by omega,by rw[ab.ah _ _ (zj n6)];exact gl _ _ (k9 _ _ (by rw[ab.ah _ _ (zj ay)];exact g2))⟩
       . rw[ab.ah _ _ (zj fp)];exact z4
       . rw[ab.ah _ _ h9,zl,gR]
       . rcases aaT hx with hx|rfl
         . exact fO x hx
         . exact oF
       . rcases ZA.1 hx with hx|hx
         . exact hv x hx
         . simp at hx;subst hx;exact pB
   . have td:j=qn:=by omega
     subst td;have tf:¬(j:Int)<j:=by omega
     apply rn;simp[D,G,E,F,J,bp,bs,o.1,o.2,d.1,d.2,tf,q4,a7,aJ];obtain⟨nb,zb,hX,h2⟩:=ho;obtain⟨f,hf⟩:∃f:Fr,f=⟨es,f0.roads,f0.aQ,f0.eP,f0.cM,(i:Int)⟩:=⟨_,rfl⟩;have aE:=Fr.qI (Z.fits (by omega)) (Z.check (by omega))
     have tm:F7 cnt f ks:=by
      have gw:=Z.dR;subst eN;subst hf;refine⟨⟨⟨by grind,aE.fits.roads,aE.fits.row,λe he=>by grind⟩,aE.fr,aE.to,aE.le,aE.cM,by grind,by grind,λe he=>O.tz e he,aE.JB⟩,by grind,by grind,λr hr=>?_,hv,by grind,i,C,H,M,⟨O.len,O.FL,O.tz,O.cR,O.Su,O.fit,O.Wf,O.Hb,O.Rl⟩,rfl⟩
      obtain⟨t,ht,rfl⟩:=aab.1 hr;exact ZH (Nat.le_of_eq (aE.row (i:=t) ht).1) gw.2
     refine .oW (a':=.ck [dz f,ints ks]) (MN rfl λi x y x1 x2=>?_) (.less (σ':=σ.set c (.cells [ints nums,int nb,.lit (.int .u64 zb)])) (λy x hy=>?_) (.done (h f ks _ tm ⟨⟨nb,zb,by omega,ab.ai _ _ _⟩,λy hy=>ab.ah _ _ hy⟩)))
     . match i with
       | 0=>
         simp at x1 x2;subst x1;subst x2;refine pP (by grind) λi x y x1 x2=>?_
         subst hf
         match i with
         |0=>simp at x1 x2;subst x1;subst x2;exact b9.W
         |1=>simp at x1 x2;subst x1;subst x2;exact .refl _
         |2=>simp at x1 x2;subst x1;subst x2;exact .refl _
         |3=>simp at x1 x2;subst x1;subst x2;exact .refl _
         |4=>simp at x1 x2;subst x1;subst x2;exact .refl _
         |5=>simp at x1 x2;subst x1;subst x2;exact .refl _
         |i+6=>simp at x1
       |1=>simp at x1 x2;subst x1;subst x2;exact ec.W
       |i+2=>simp at x1
     . by_cases Y:y=c
       . subst Y
         rw[ab.ai]at hy;rw[ab.ah _ _ n4,h2];exact hy
       . rw[ab.ah _ _ Y]at hy
         have y4:y≠X:=λe=>by grind
         rw[ab.ah _ _ y4];exact b9.1 y x (by simpa[ab.del,Y]using hy)
end
end
open Go.cz Go.Conc
theorem rQ{α g}:∀{l:List α},(∀x∈l,g x=0)->fJ g l=0
 |[],_=>rfl
 |a::l,h=>by rw[fJ,ZG (h a (by simp))];exact rQ λx q=>h x (by simp[q])
structure NI  cnt  (w:gn) (own lost:acm):Prop where
 valid:w.Valid
 EB:mY w=0
 len:(w.fair.aB.length:Int)+w.aD.length<=cnt
 Zq:w.ways.length<=5
 lo:own.length=w.fair.aB.length
 ll:lost.length=w.aD.length
 Yz:∀e∈w.fair.aB,e.marks.length<=3
 YA:∀c∈w.aD,c.lost.marks.length<=3
 rows:w.fair.roads.length<=3/\∀r∈w.fair.roads,r.length<=3
 YB:∃v∈aH (iS w) [],∀i j ,i<w.fair.aB.length+w.aD.length->j<w.fair.aB.length+w.aD.length->lM i j v=decide ((own++lost).getD i 0=(own++lost).getD j 0)
theorem Px{cnt f p}(t:F7 cnt f p)(N:cnt<=6){w}{E C:acm}(z:∀i∈E++C,0<=i/\i<f.aB.length)(hn:(E.length:Int)+C.length<=cnt)
 (W:w.fair.aB=E.map (aR f)) (O:w.aD.map (·.lost)=C.map (aR f)) (y:w.fair.roads=f.roads) (m:w.fair.aQ=f.aQ) (n:w.fair.eP=f.eP) (hd:w.fair.cM=f.cM) (X:f.aW<=w.fair.aW/\w.fair.aW<=6)
 (P:1<=w.ba/\w.ba<=4) (Y:∀x∈w.ways,pX w.ba x=0) (F:w.ways.length<=5) (Z:w.aD.length<=3) (G:∀c∈w.aD,(0<=c.town/\c.town<w.ba)/\(0<=c.hour/\c.hour<=72)/\c.lost.hour<=c.hour):
 NI cnt w (E.map λi=>p.getD i.toNat 0) (C.map λi=>p.getD i.toNat 0):=by
 have d:=t.qI;have l1:w.fair.aB.length=E.length:=by simp_all
 have l2:w.aD.length=C.length:=by rw[<-List.length_map (f:=(·.lost)),O,ZT]
 have A:∀e∈w.fair.aB,e∈f.aB:=λe q=>by rw[W]at q;obtain⟨i,I,rfl⟩:=ZU.1 q;exact gK (z i (by simp[I]))
 have J:∀c∈w.aD,c.lost∈f.aB:=λc q=>by have:c.lost∈w.aD.map (·.lost):=ZU.2 ⟨c,q,rfl⟩;rw[O]at this;obtain⟨i,I,e⟩:=ZU.1 this;rw[<-e];exact gK (z i (by simp[I]))
 have gen:∀es:List xH,(∀e∈es,e∈f.aB)->es.length<=6->({w.fair with aB:=es}:Fr).Good:=λes q ql=>by
  have K:=d.aW;refine⟨⟨by grind,by show w.fair.roads.length<_;rw[y];exact d.fits.roads,by show ∀r∈w.fair.roads,_;rw[y];exact d.fits.row,λe D=>d.fits.marks e (q e D)⟩,by rw[m];exact d.fr,by rw[n];exact d.to,by rw[m,n];exact d.le,by rw[hd];exact d.cM,?_,ql,λe D=>?_,by show fN w.fair.roads=0;rw[y];exact d.JB⟩
  . grind
  . show cJ w.fair.roads.length e=0
    rw[y];exact d.tz e (q e D)
 have Q:w.fair.Good:=gen w.fair.aB A (by omega)
 have R:∀c∈w.aD,(lone w.fair c.lost).Good:=λc q=>gen [c.lost] (λe D=>by simp_all) (by simp)
 have S:w.pY:=⟨Q.fits,Q.EB,λc q=>⟨(R c q).fits,(R c q).EB⟩,by omega,by omega⟩
 have h6:w.fair.aB.length+w.aD.length<=6:=by omega
 have T:=lP S h6
 have B:uz f (iS w) (E++C):=⟨y,m,n,hd,X.1,z,by simp_all⟩
 obtain⟨mo,Cs,H,last,g,K⟩:=t.seen;obtain⟨v,s,h,hv⟩:=g.cW d (by omega)
 obtain⟨u,U,o⟩:=B.cW d T hv;have L:aH (iS w) []≠[]:=aaY U
 have V:mY w=0:=by
  unfold mY;have a1:bI w.ba 1 4=true:=by simp[bI,P.1,P.2]
  have a2:fJ (yV w) w.aD=0:=rQ λc q=>by
   have:=G c q;have e1:bI c.town 0 (w.ba-1)=true:=by simp only[bI,za,zU];omega
   have e2:bI c.hour 0 72=true:=by simp only[bI,za,zU];omega
   unfold yV
   simp_all
  have a3:=(z9 T).2 L;rw[a1,rQ Y,a2,ZB (by simp),ZB (by omega),ZB (by simp),ZB (by omega),ZB (by simp),ZB (by omega),ZB (by omega)]
 have a7:p.length=f.aB.length:=g.len;refine⟨gn.valid S V,V,by omega,F,by simp_all,by simp_all,λe q=>t.marks e (A e q),λc q=>t.marks _ (J c q),by rw[y];exact⟨t.dR,t.row⟩,u,U,λi j M hj=>?_⟩
 have hl:(E++C).length=w.fair.aB.length+w.aD.length:=by simp_all
 rw[o i j (by omega) (by omega),<-List.map_append]
 have k:∀i:Nat,i<(E++C).length->((E++C).map λi=>p.getD i.toNat 0).getD i 0=p.getD ((E++C).getD i 0).toNat 0:=λi M=>by rw[zH,ZY,Rp M,zH (l:=E++C),Rp M];rfl
 rw[k i (by omega),k j (by omega)]
 have ri:=z _ (ya (l:=E++C) (i:=i) (by omega))
 have rj:=z _ (ya (l:=E++C) (i:=j) (by omega))
 generalize (E++C).getD i 0=a at *;generalize (E++C).getD j 0=b at *;have ea:a=(a.toNat:Int):=by omega
 have eb:b=(b.toNat:Int):=by omega
 rw[aaL,zU];constructor
 . intro q
   rw[ea,eb]at q;have:=xZ h (by omega) (by omega) q
   omega
 . intro q
   have:=xY h (i:=a.toNat) (j:=b.toNat) (by omega) (by omega) q
   grind
