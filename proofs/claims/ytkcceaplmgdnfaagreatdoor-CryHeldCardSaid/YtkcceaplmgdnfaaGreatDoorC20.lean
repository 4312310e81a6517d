import Derived.Test.YtkcceaplmgdnfaaGreatDoorC19
set_option linter.all false
set_option maxHeartbeats 2000000
set_option maxRecDepth 4000
namespace Go.Proofs.YtkcceaplmgdnfaaGreatDoor
open Go.Proofs.Tryz (prog)
section
open Go.cz Go.Conc
def GS(L:adA)(g g':Int)(v:adA):Bool:=iQ (L.idxOf g:Int) (L.idxOf g':Int) v
theorem E0{L:adA}{g}(h:g∈L):L.getD (L.idxOf g) 0=g:=by grind
theorem o6.sub{f x y L M}(h:o6 f x L)(a:o6 f y M)(d:∀i∈M,i∈L)(b:x.aY<=y.aY):o6 x y (M.map λi=>(L.idxOf i:Int)):=by
 have c:∀i∈M,(L.idxOf i:Int)<L.length:=λi q=>by grind
 refine⟨by rw[a.roads,h.roads],by rw[a.fr,h.fr],by rw[a.to,h.to],by rw[a.cB,h.cB],b,λj q=>?_,?_⟩
 . obtain⟨i,e,rfl⟩:=aaU.1 q
   rw[h.len];simp_all
 . rw[a.qV,acV]
   refine acg λi q=>?_
   have:=h.at (j:=(L.idxOf i:Int)) ⟨by omega,c i q⟩
   simp_all
theorem Qy{f x y L M}(h:o6 f x L)(b:o6 f y M)(c:∀i∈M,i∈L)(d:x.aY<=y.aY)(j:x.Good)(k:y.Good){v}(l:v∈aH x []):∃u∈aH y [],∀g∈M,∀g'∈M,GS M g g' u=GS L g g' v:=by
 obtain⟨u,m,e⟩:=(h.sub b c d).cY j k l;have a:∀g∈M,M.idxOf g<M.length/\(M.map λi=>(L.idxOf i:Int)).getD (M.idxOf g) 0=(L.idxOf g:Int):=λg q=>by grind
 refine⟨u,m,λg q g' n=>?_⟩;have o:=a g q;have p:=a g' n;have:=e (M.idxOf g) (M.idxOf g') (by simp_all) (by simp_all);unfold GS
 simp_all
theorem Ig  f  (es cs:adA)  x  (N:adA) (a:cs.Nodup) (b:∀c∈cs,0<=c/\c<3) (g:3*(es.getD x 0).toNat+2<N.length)  q :∀n ,n<=cs.length ->
 ((List.range n).foldl (λN y=>N.set (3*(es.getD x 0).toNat+(cs.getD y 0).toNat) (nY f x ((es.length:Int)+y))) N).length=N.length/\
 (∀y<n,((List.range n).foldl (λN y=>N.set (3*(es.getD x 0).toNat+(cs.getD y 0).toNat) (nY f x ((es.length:Int)+y))) N).getD (3*(es.getD x 0).toNat+(cs.getD y 0).toNat) 0=nY f x ((es.length:Int)+y))/\
 ((∀y<n,q≠3*(es.getD x 0).toNat+(cs.getD y 0).toNat)->((List.range n).foldl (λN y=>N.set (3*(es.getD x 0).toNat+(cs.getD y 0).toNat) (nY f x ((es.length:Int)+y))) N).getD q 0=N.getD q 0)
 |0,_=>⟨rfl,λy d=>by omega,λ_=>rfl⟩
 | n + 1,o=>by
   obtain⟨p,r,j⟩:=Ig f es cs x N a b g q n (by omega);rw[aaZ,abo,abC,List.foldl_nil];generalize (List.range n).foldl _ N=R at *;have s:=b _ (hQ (l:=cs) (i:=n) (by omega));refine⟨by simp_all,λy d=>?_,λh=>?_⟩
   . by_cases e:y=n
     . subst e
       rw[zD,abL (by omega)];rfl
     . have k:(cs.getD y 0).toNat≠(cs.getD n 0).toNat:=λq=>by
        have m:=b _ (hQ (l:=cs) (i:=y) (by omega));have:cs.getD y 0=cs.getD n 0:=by omega
        rw[zD,zD,zU (show y<cs.length by omega),zU (show n<cs.length by omega)]at this;exact e (yA a this)
       grind
   . rw[zD,abA (λe=>h n (by omega) e.symm),<-List.getD_eq_getElem?_getD]
     exact j λy d=>h y (by omega)
theorem E1  f   es cs  (a:es.Nodup) (g:∀i∈es,0<=i/\i<6) (b:cs.Nodup) (d:∀c∈cs,0<=c/\c<3)  q :∀n ,n<=es.length ->
 ((List.range n).foldl (λN x=>vT f es cs x N) (List.replicate 18 0)).length=18/\
 (∀x<n,∀y<cs.length,((List.range n).foldl (λN x=>vT f es cs x N) (List.replicate 18 0)).getD (3*(es.getD x 0).toNat+(cs.getD y 0).toNat) 0=nY f x ((es.length:Int)+y))/\
 ((∀x<n,∀y<cs.length,q≠3*(es.getD x 0).toNat+(cs.getD y 0).toNat)->((List.range n).foldl (λN x=>vT f es cs x N) (List.replicate 18 0)).getD q 0=0)
 |0,_=>⟨by simp,λy j=>by omega,λ_=>by grind⟩
 | n + 1,w=>by
   obtain⟨o,p,r⟩:=E1 f es cs a g b d q n (by omega);rw[aaZ,abo,abC,List.foldl_nil];obtain⟨R,k⟩:∃R,R=(List.range n).foldl (λN x=>vT f es cs x N) (List.replicate 18 0):=⟨_,rfl⟩;rw[<-k]at o p r ⊢;have z:=g _ (hQ (l:=es) (i:=n) (by omega));have s:3*(es.getD n 0).toNat+2<R.length:=by omega
   have key:=λq=>Ig f es cs n R b d s q cs.length (aaP _)
   refine⟨by unfold vT;exact(key 0).1.trans o,λx A y j=>?_,λh=>?_⟩
   . by_cases e:x=n
     . subst e;exact(key 0).2.1 y j
     . have t:=g _ (hQ (l:=es) (i:=x) (by omega))
       have u:(es.getD x 0).toNat≠(es.getD n 0).toNat:=λq=>by
        have:es.getD x 0=es.getD n 0:=by omega
        rw[zD,zD,zU (show x<es.length by omega),zU (show n<es.length by omega)]at this;exact e (yA a this)
       have v:=d _ (hQ j);unfold vT;rw[(key _).2.2 λB m=>by have:=d _ (hQ m);omega]
       grind
   . unfold vT
     grind
section
variable{w:gO}
theorem Bd  n :(nz n).Nodup:=by unfold nz;rw[List.Nodup,List.pairwise_map];exact(List.nodup_range (n:=n)).imp λh e=>h (by omega)
theorem CA  w   h :(fY w h).Nodup:=(Bd _).filter _
theorem CB  w   h :(ew w h).Nodup:=(Bd _).filter _
theorem Ku{es cs i}(hi:i∈es):(rN w es cs).idxOf i=es.idxOf i:=by grind
theorem Qz{cs:adA}{n c}:(cs.map fun  c=>c+n).idxOf (c+n)=cs.idxOf c:=by
 induction cs with
 |nil=>rfl
 |cons a l b=>grind
theorem Kv{es cs:adA}{c:Int}(a:∀i∈es,i<w.fair.aA.length)(b:0<=c):(rN w es cs).idxOf (c+w.fair.aA.length)=es.length+cs.idxOf c:=by unfold rN;rw[List.idxOf_append,aaJ λq=>by grind,Qz,Nat.add_comm]
abbrev OB(w:gO)(h i c:Int):Int:=ED (aH (vF w h) []) ((rO w h).idxOf i) ((rO w h).idxOf (c+w.fair.aA.length))
theorem QA(a:w.Valid){h i c}(hi:0<=i/\i<6)(b:0<=c/\c<3):ia w h i c=if i∈fY w h/\c∈ew w h then OB w h i c else 0:=by
 have m:=a.pI;have n:=a.GK.1;obtain⟨_,d,f⟩:=E1 (vF w h) (fY w h) (ew w h) (CA w h) (λi q=>by have:=jY q;omega) (CB w h) (λi q=>by have:=lK q;omega) (3*i.toNat+c.toNat) _ (aaP _)
 have e:ia w h i c=(AZ (vF w h) (fY w h) (ew w h)).getD (3*i.toNat+c.toNat) 0:=by show(AZ (bR w (aB (kE w h)) (aB (kC w h))) (aB (kE w h)) (aB (kC w h))).getD (3*i.toNat+c.toNat) 0=_;rw[a.kE,a.kC]
 rw[e];unfold AZ;split
 . next q=>
   obtain⟨g,o⟩:=tF q.1;obtain⟨j,p⟩:=tF q.2;have:=d _ g _ j;rw[E0 q.1,E0 q.2]at this;rw[this];unfold OB ED nY;rw[Ku q.1,Kv (λi q=>(jY q).2) b.1]
   simp_all
 . next q=>
   refine f λx k y l e=>q ?_
   have r:=jY (hQ k);have s:=lK (hQ l);have t:(fY w h).getD x 0=i:=by omega
   have u:(ew w h).getD y 0=c:=by omega
   grind
theorem Kw(a:w.Valid)  h :0<(aH (vF w h) []).length:=by
 have:=(a.open.bk h).some;simp only[a.kE,a.kC]at this
 grind
theorem Ih(a:w.Valid){h i c}(hi:0<=i/\i<6)(d:0<=c/\c<3):qC (ia w h i c)=true↔(i∈fY w h/\c∈ew w h)/\∃v∈aH (vF w h) [],GS (rO w h) i (c+w.fair.aA.length) v=true:=by
 have b:=Kw a h;rw[QA a hi d];split
 . next q=>
   have f:=GC b (x:=(rO w h).idxOf i) (y:=(rO w h).idxOf (c+w.fair.aA.length))
   have g:qC (OB w h i c)=true↔OB w h i c≠2:=by rcases Ke (aH (vF w h) []) ((rO w h).idxOf i) ((rO w h).idxOf (c+w.fair.aA.length)) b with e|e|e<;>simp[OB,e,qC]
   rw[g,Ne,f];unfold GS
   simp_all
 . next q=>exact⟨λz=>(by cases z),λz=>absurd z.1 q⟩
end
end
section
open Go Go.cz Go.Conc
variable{m:Mo}{σ:ab}{KF:adm}
theorem QB{P Q:Prop}(f:P->Q)(p:P):Q:=f p
end
section
open Go.cz Go.Conc
section
variable{w:gO}
theorem QC{h i c}(q:i∈fY w h/\c∈ew w h):i∈rO w h/\c+w.fair.aA.length∈rO w h:=⟨List.mem_append_left _ q.1,List.mem_append_right _ (aaU.2 ⟨c,q.2,rfl⟩)⟩
end
section
variable{w:gO}
theorem GF.part{f l g}(h:GF f l)(c:∀i∈g,i∈l):GF f g:=by obtain⟨z,k⟩:=h.SD;exact⟨λa d b hb=>h.bX a (c a d) b (c b hb),⟨z,λj m=>k j (c j m)⟩,λa d b hb e=>h.fit a (c a d) b (c b hb) e⟩
theorem QD{f}(c:f.Good){v}(d:v∈aH f []){k}(a:bb v k≠[]):GF f (bb v k):=by
 rw[<-me c,abv]at d;obtain⟨g,b⟩:=d;obtain⟨wl,h,_⟩:=lJ _ _ g;unfold qp at b;rw[za,aaL]at b;obtain⟨n,j⟩:=abG _ a;obtain⟨p,q,r⟩:=cE j;have e:k∈v:=by grind
 have l:=h k e;have m:=o0 e;have:=abV (b.2 k.toNat (Rp.2 (by omega)));rw[show(k.toNat:Int)=k by omega]at this;exact(wD c a (np v k) λi o=>by have:=cE o;omega).1 this
theorem OC(f:w.Valid){h i c}(hi:0<=i/\i<6)(p:0<=c/\c<3)(l:qC (ia w h i c)=true):(bR w [i] [c]).Good/\jM (bR w [i] [c]) [0,1]=0:=by
 rw[Ih f hi p]at l;obtain⟨k,v,r,s⟩:=l;have B:=f.pI;have m:∀j∈[i],0<=j/\j<w.fair.aA.length:=λj q=>by rw[lb.1 q];exact jY k.1
 have a:∀j∈[c],0<=j/\j<w.aD.length:=λj q=>by rw[lb.1 q];exact lK k.2
 have b:(bR w [i] [c]).Good:=Bb f m a (by simp)
 refine⟨b,?_⟩;obtain⟨C,D⟩:=QC k
 obtain⟨u,o,e⟩:=Qy (Bc w h) (yQ m a) (λg q=>by
  simp[rN]at q
  grind) (acL _) (yS f h) b r
 have d:=e i (by simp[rN]) (c+w.fair.aA.length) (by simp[rN])
 rw[s]at d;have t:i≠c+w.fair.aA.length:=by grind
 have x:(rN w [i] [c]).idxOf i=0:=by simp_all
 have y:(rN w [i] [c]).idxOf (c+w.fair.aA.length)=1:=by grind
 unfold GS at d;rw[x,y]at d;simp only[iQ,aaG]at d;have E:u.length=2:=(lJ _ _ (yD b o)).1;have m0:(0:Int)∈bb u (u.getD 0 0):=er (i:=0) (by omega) rfl
 have z:(1:Int)∈bb u (u.getD 0 0):=er (i:=1) (by omega) d.symm
 have A:=QD b o (abW m0);refine(wD b (by simp) (by decide) λn q=>?_).2 (A.part λn q=>?_)
 . have:(bR w [i] [c]).aA.length=2:=by grind
   simp at q;omega
 . simp at q
   rcases q with rfl|rfl
   . exact m0
   . exact z
end
end
section
open Go Go.cz Go.Conc
variable{m:Mo}{σ:ab}{KF:adm}
theorem nZ{a b c d e l}(h:KF (.val (bc ⟨a,b,c,l,d,e⟩)) σ):az prog m 37 [int a,int b,int c,int d,int e,ints l] σ KF:=by
 refine fs [] Tryz.func37 rfl (by kernel_rfl) ?_;simp[Tryz.f37];refine bS.intro λk f=>?_
 simp;exact .less (by repeat (first|exact ab.le_refl _|assumption|refine ab.fE ?_ (by assumption)|refine ab.lO ?_ (by assumption))) (.done h)
theorem CC{a b c d e}(h:KF (.val (jN ⟨a,b,c,d,e⟩)) σ):az prog m 68 [int a,int b,int c,int d,int e] σ KF:=by
 refine fs [] Tryz.func68 rfl (by kernel_rfl) ?_;simp[Tryz.f68];refine bS.intro λk f=>?_
 simp[aM];exact .less (by repeat (first|exact ab.le_refl _|assumption|refine ab.fE ?_ (by assumption)|refine ab.lO ?_ (by assumption))) (.done h)
def OD:List wu:=[⟨10,0,1,[0],15,0⟩,⟨12,0,1,[],16,1⟩,⟨14,0,2,[],14,0⟩,⟨16,0,1,[],14,0⟩]
def yT:List Way:=[⟨0,1,4,6,20⟩,⟨1,2,1,0,72⟩,⟨2,0,2,0,72⟩]
def Wb:Fr:=⟨OD,[[0,2],[2,0]],1,2,3,3⟩
def Wc:O4:=⟨⟨4,1,1,[0],15,0⟩,1,5⟩
def lW(n:Nat):gO:=⟨Wb,3,yT.take n,[Wc]⟩
theorem Be{n}(z:n<=3)(h:KF (.val (dP (lW n))) σ):az prog m 32 [int n] σ KF:=by
 have v:∀a b c d e:Int,∀l:adA,Wl [int a,int b,int c,int d,int e,.sl 1 (l.map int) .exact] [int a,int b,int c,int d,int e,ints l]:=λa b c d e l=>.cons (.refl _) (.cons (.refl _) (.cons (.refl _) (.cons (.refl _) (.cons (.refl _) (.cons (fL 1 _ .exact) .nil)))))
 have r:∀a b c d e:Int,Wl [int a,int b,int c,int d,int e,.lit (.slice none 0 0)] [int a,int b,int c,int d,int e,ints []]:=λa b c d e=>.cons (.refl _) (.cons (.refl _) (.cons (.refl _) (.cons (.refl _) (.cons (.refl _) (.cons (fK 1) .nil)))))
 refine fs XB Tryz.func32 rfl (by kernel_rfl) ?_
 simp[Tryz.f32];refine bS.intro λwb t=>?_
 simp;refine bK Tryz.func37 rfl rfl (v 10 0 1 15 0 [0]) (nZ ?_);apply rn;simp;refine bK Tryz.func37 rfl rfl (r 12 0 1 16 1) (nZ ?_);apply rn;simp;refine bK Tryz.func37 rfl rfl (r 14 0 2 14 0) (nZ ?_);apply rn;simp;refine bK Tryz.func37 rfl rfl (r 16 0 1 14 0) (nZ ?_);refine aa.runN lay [] 9 ?_;simp[aM];refine bS.intro λfb j=>?_
 obtain⟨A,B,w⟩:=ab.aQ j;simp[aM]
 change aa _ _ _ _ _ _ _ _ _
 refine aa.bd 3 (b:=fb) (.agg [.sl 6 (OD.map bc) .exact,.sl 1 [.sl 1 [int 0,int 2] .exact,.sl 1 [int 2,int 0] .exact] .exact,int 1,int 2,int 3,int 3]) (ab.ai _ _ _) (by simp) rfl ?_
 rw[eE j];apply rn;simp;refine cf Tryz.func68 rfl (CC ?_);apply rn;simp;refine cf Tryz.func68 rfl (CC ?_);apply rn;simp;refine cf Tryz.func68 rfl (CC ?_);apply rn;simp;obtain⟨L,x⟩:∃L,L=(yT.take n).map jN:=⟨_,rfl⟩;have u:((yT.map jN).drop 0).take (n-0)=L:=by simp_all
 have ZK:(σ.set wb (.cells [.nil,.nil,int 0,int 0,int 0,int 0,int 0,.nil,.nil])) wb=some (.cells [.nil,.nil,int 0,int 0,int 0,int 0,int 0,.nil,.nil]):=ab.ai _ _ _;have k:n<=(yT.map jN).length:=by simp[yT];omega
 apply QB
 . intro key
   repeat' first
    |refine⟨?_,?_⟩
    | (refine xh lay rfl So rfl Vq (es:=yT.map jN) (sp:=.exact) (l:=0) (h:=n) (by simp[yT]) (λcap o=>⟨rfl,⟨⟨.i64,by simp⟩,aaR k o⟩,rfl⟩) k ?_
       rw[u];apply pg;simp[aM])
    | (refine bK Tryz.func37 rfl rfl (v 4 1 1 15 0 [0]) (nZ ?_)
       apply pg;simp[aM])
   all_goals
    refine aa.jQ (λe s=>e 2=.ref wb 0/\s=σ.set wb (.cells [.sl 6 (OD.map bc) .exact,.sl 1 [.sl 1 [int 0,int 2] .exact,.sl 1 [int 2,int 0] .exact] .exact,int 1,int 2,int 3,int 3,int 3,.sl 5 L .any,.sl 8 [iv Wc] .exact])) ⟨by simp,rfl⟩ ?_
    exact key
 rintro env _ ⟨y,rfl⟩
 apply rn;simp[y]
 have p:(AV.sl 1 [AV.sl 1 [int 0,int 2] .exact,.sl 1 [int 2,int 0] .exact] .exact).W (rows [[0,2],[2,0]]):=V3 rfl (λa q=>by simp at q;rcases q with rfl|rfl<;>rfl) (λa q=>by simp at q;rcases q with rfl|rfl<;>rfl) (λi a a' f g=>by
  match i with
  |0=>simp at f g;subst f;subst g;exact fL 1 [int 0,int 2] .exact
  |1=>simp at f g;subst f;subst g;exact fL 1 [int 2,int 0] .exact
  |i+2=>simp at f)
 refine .less (ab.fE (ab.le_refl _) t) (.om (a':=dP (lW n)) (qm rfl λi a a' f g=>?_) (.done h))
 match i with
 |0=>cases f;cases g;exact fL 6 _ .exact
 |1=>cases f;cases g;exact p
 |2=>cases f;cases g;exact .refl _
 |3=>cases f;cases g;exact .refl _
 |4=>cases f;cases g;exact .refl _
 |5=>cases f;cases g;exact .refl _
 |6=>cases f;cases g;exact .refl _
 |7=>cases f;cases g;rw[x];exact .refl _
 |8=>cases f;cases g;exact fL 8 _ .exact
 |i+9=>cases f
end
section
open Go Go.cz Go.Conc
def Ii(f:Fr):Bool:=decide (f.aA.length<100) && decide (f.roads.length<100) && f.roads.all (λr=>decide (r.length<100)) && f.aA.all (λe=>decide (e.marks.length<100))
theorem yU{f}(h:Ii f=true):f.Fits:=by simp only[Ii,za,aaG,aaL]at h;obtain⟨⟨⟨a,b⟩,c⟩,d⟩:=h;exact⟨by omega,by omega,λr g=>by grind,λe i=>by grind⟩
def E2(f:Fr):Bool:=Ii f && decide (check f=0)
theorem OE{f}(h:E2 f=true):f.Good:=by simp only[E2,za,aaG]at h;exact Fr.qh (yU h.1) h.2
def pj(h:Int):Int:=if h<0 then -1 else if 72<h then 72 else h
theorem OF  h :∃k:Nat,k<74/\pj h=(k:Int)-1:=by refine⟨(pj h+1).toNat,?_,?_⟩<;>(unfold pj;split<;>(try split)<;>omega)
def GW(w:gO):Bool:=(nz w.fair.aA.length).all (λi=>decide (0<=(aJ w.fair i).hour) && decide ((aJ w.fair i).hour<=72)) && (nz w.aD.length).all λi=>decide (0<=iy w i.toNat)
theorem E3{w}(a:GW w=true)  h :kE w h=kE w (pj h)/\kC w h=kC w (pj h):=by
 simp only[GW,za,aaL,aaG]at a
 have c:fY w h=fY w (pj h):=aca λx b=>by
  have:=a.1 x b;unfold pE pj
  grind
 have d:ew w h=ew w (pj h):=aca λx b=>by
  have:=a.2 x b;unfold pC pj
  grind
 grind
def XQ(w:gO)(p:Int × Int):Bool:=(aB p.1).all (λi=>decide (0<=i) && decide (i<w.fair.aA.length)) && (aB p.2).all (λi=>decide (0<=i) && decide (i<w.aD.length)) && E2 (bR w (aB p.1) (aB p.2)) && decide (aH (bR w (aB p.1) (aB p.2)) []≠[])
theorem We{w p}(h:XQ w p=true):w.Bk p.1 p.2:=by simp only[XQ,za,aaL,aaG]at h;exact⟨h.1.1.1,h.1.1.2,OE h.1.2,h.2⟩
def Rx(w:gO)(L:ade):Bool:=decide (w.fair.aA.length<=6) && decide (w.aD.length<=3) && GW w && (List.range 74).all (λk=>L.contains (kE w ((k:Int)-1),kC w ((k:Int)-1))) && L.all (XQ w)
theorem CD{w L}(h:Rx w L=true):w.Open:=by
 simp only[Rx,za,aaL,aaG]at h;refine⟨⟨h.1.1.1.1,h.1.1.1.2⟩,λt=>?_⟩;obtain⟨a,b⟩:=E3 h.1.1.2 t;obtain⟨k,c,ek⟩:=OF t;rw[a,b,ek];exact We (p:=(kE w ((k:Int)-1),kC w ((k:Int)-1))) (h.2 _ (by grind))
def Ry(w:gO):Bool:=E2 w.fair && w.aD.all (λc=>Ii (lone w.fair c.lost) && decide (check (lone w.fair c.lost)=0)) && decide (w.ways.length<100) && decide (w.aD.length<100)
theorem Ij{w}(h:Ry w=true):w.qz:=by simp only[Ry,E2,za,aaL,aaG]at h;obtain⟨⟨⟨⟨d,e⟩,a⟩,f⟩,g⟩:=h;exact⟨yU d,e,λc b=>⟨yU (a c b).1,(a c b).2⟩,by omega,by omega⟩
theorem QE:(lW 2).qz/\(lW 3).qz:=⟨Ij (by decide +kernel),Ij (by decide +kernel)⟩
theorem Ik:(lW 2).Open/\(lW 3).Open:=⟨CD (L:=[(0,0),(0,1),(1,0),(1,1),(3,1),(7,1),(15,1)]) (by decide +kernel),CD (L:=[(0,0),(0,1),(1,1),(3,1),(7,1),(15,1)]) (by decide +kernel)⟩
end
section
open Go Go.cz Go.Conc
variable{m:Mo}{σ:ab}{KF:adm}
theorem SL:HW prog 26 3:=.of (by kernel_rfl) (by kernel_rfl) (by kernel_rfl) (by kernel_rfl)
namespace SR
abbrev XR:adr:=[⟨4,.take [0,1,2,3,4,5,6,7] false (.one 8 (.done))⟩]
theorem zO{a b}(A:a.length<1152921504606846976)(hb:b.length<1152921504606846976)(h:KF (.val (bool (decide (a=b)))) σ):az prog m 35 [pf a,pf b] σ KF:=by
 refine fs XR Tryz.func35 rfl (by kernel_rfl) ?_;simp[Tryz.f35];refine aa.loop a.length (λk s=>∃env,s=⟨env,σ,[],.no⟩/\env 0=pf a/\env 1=pf b/\env 5=int k/\k<=b.length/\a.take k=b.take k) ⟨_,rfl,by simp⟩ ?_;rintro B k _ C ⟨env,rfl,g,l,i,r,o⟩ t;apply rn;simp[g,i];refine sm.intro (λf=>?_) (λf=>?_)<;>(try simp[-Nat.not_lt,-Nat.not_le]at f)<;>(try simp[g,l,i,f])
 . refine aG.intro (λj=>?_) (λj=>?_)<;>(try simp[-Nat.not_lt,-Nat.not_le]at j)<;>(try simp[g,l,i,j,f])
   . obtain⟨x,u⟩:∃x,x=a[k]:=⟨_,rfl⟩
     obtain⟨y,v⟩:∃y,y=b[k]:=⟨_,rfl⟩;simp only[<-u,<-v];refine Jf lay SL rH rfl rfl (a:=x.1) (b:=x.2) (c:=y.1) (d:=y.2) (by simp) (by simp) (.inr ⟨rfl,rfl⟩) ?_;have w:(!(x.1==y.1 && x.2==y.2))=!decide (x=y):=by grind
     rw[w];by_cases p:x=y
     . apply pg
       simp[p];apply rn;simp[i];have z:a[k]=b[k]:=by simp_all
       refine⟨by omega,t _ f ⟨_,rfl,by simp[g],by simp[l],by simp,by omega,?_⟩⟩;rw[zG f,zG j,o,z]
     . have:a≠b:=λe=>by simp_all
       simp[this]at h;apply pg;simp[p];apply rn;simp;exact .done h
   . have:a≠b:=λe=>by simp_all
     have n:((a.length:Int)==b.length)=false:=by grind
     rw[n];exact .done (by simp_all)
 . have:k=a.length:=by omega
   subst this;rw[aaQ]at o;by_cases e:a.length=b.length
   . have:a=b:=by grind
     exact .done (by grind)
   . have:a≠b:=λq=>e (by rw[q])
     have n:((a.length:Int)==b.length)=false:=by grind
     rw[n];exact .done (by grind)
end SR
theorem OG:fh (lW 3) [] [] [0]=0/\fh (lW 3) [14] [] []=0/\fh (lW 3) [] [1] []=0/\fh (lW 2) [] [] []=0/\fh (lW 3) [] [] []=0:=by decide +kernel
theorem QF:iy (lW 3) 0=8/\kX (lW 3) 14=[0,1]/\cQ (lW 3) 1=[(12,15)]/\jd (lW 2) (lW 2).fair.aA.length=67/\Ie (lW 3)=[0]:=by decide +kernel
theorem OH:ia (lW 3) 16 0 0=1/\((List.range 16).all λh=>(List.range 4).all fun  i=>decide (ia (lW 3) (h:Nat) i 0≠1))=true:=by decide +kernel
theorem SM:∀l ,(∀c∈l,0<=c/\c<((lW 3).aD.length:Int))->l.length<=(lW 3).aD.length->((lW 3).only l).Open:=λl d g=>by
 have f:l=[]\/l=[0]:=by
  match l with
  |[]=>simp_all
  | [a]=>
    have:=d a (by simp);have e:(lW 3).aD.length=1:=rfl
    grind
  | a::b::t=>
    have e:(lW 3).aD.length=1:=rfl
    simp_all
 rcases f with rfl|rfl
 . exact CD (L:=[(0,0),(1,0),(3,0),(7,0),(15,0)]) (by decide +kernel)
 . exact Ik.2
theorem GX:(∀h i ,h<73->i<(lW 3).fair.aA.length->foundAt (lW 3) 0 h i->h=16/\i=0)/\¬(∀a b:Nat,a<73->b<(lW 3).fair.aA.length->ia (lW 3) a b 0≠1):=by
 obtain⟨f1,c⟩:=OH;have e:(lW 3).fair.aA.length=4:=rfl;refine⟨λh i j k d=>?_,λq=>q 16 0 (by omega) (by omega) f1⟩;simp only[aaL,aaG,Rp]at c;by_cases f:h<16
 . exact absurd d.1 (c h f i (by omega))
 . by_cases g:h=16/\i=0
   . exact g
   . exact absurd f1 (d.2 16 0 (by omega) (by omega))
theorem OI(d:m.solo=true)(h:KF (.val (bool true)) σ):az prog m 16 [] σ KF:=by
 have e:∀(σ:ab) (KF:adm),KF (.val (dP (lW 3))) σ->az prog m 32 [int 3] σ KF:=λσ KF h=>Be (n:=3) (by decide) h
 have k:∀(σ:ab) (KF:adm),KF (.val (dP (lW 2))) σ->az prog m 32 [int 2] σ KF:=λσ KF h=>Be (n:=2) (by decide) h
 obtain⟨j,l,o,p,r⟩:=OG;obtain⟨s,t,u,v,w⟩:=QF;obtain⟨f1,x⟩:=GX;obtain⟨y,f⟩:=QE;obtain⟨z,g⟩:=Ik;have sub:=SM;generalize lW 3=A at *;generalize lW 2=B at *;refine fs [] Tryz.func16 rfl (by kernel_rfl) ?_;simp[Tryz.f16];refine cf Tryz.func32 rfl (e _ _ ?_);apply rn;simp;refine cf Tryz.func22 rfl (EU d f (c:=0) (by decide) j ?_);rw[s,aaJ (by decide)];apply rn;simp;refine cf Tryz.func32 rfl (e _ _ ?_);apply rn;simp;refine cf Tryz.func11 rfl (EV d f g (λq=>absurd l q) λ_=>?_);rw[t];apply rn;simp;refine cf Tryz.func32 rfl (e _ _ ?_);apply rn;simp;refine cf Tryz.func23 rfl (Kl d f g (by decide) (λq=>absurd o q) λ_=>?_);rw[u];apply rn;simp;refine cf Tryz.func32 rfl (e _ _ ?_);apply rn;simp;refine cf Tryz.func31 rfl (Ko d f g (by decide) j (λh i C D E=>?_) λq=>absurd q x)
 obtain⟨rfl,rfl⟩:=f1 h i C D E;apply rn;simp;refine cf Tryz.func32 rfl (k _ _ ?_);apply rn;simp;refine cf Tryz.func25 rfl (Kn d y z p ?_);rw[v];apply rn;simp;refine cf Tryz.func32 rfl (e _ _ ?_);apply rn;simp;refine cf Tryz.func12 rfl (GU d f g sub r ?_);rw[w];apply rn;simp;refine bK Tryz.func15 rfl rfl (.cons (.refl _) (.cons (fL 1 [int 0,int 1] .exact) .nil)) (vw (a:=[0,1]) (b:=[0,1]) (by simp) (by simp) ?_);apply rn;simp;refine bK Tryz.func35 rfl rfl (.cons (.refl _) (.cons (fL 2 [kQ (12,15)] .exact) .nil)) (SR.zO (a:=[(12,15)]) (b:=[(12,15)]) (by simp) (by simp) ?_);apply rn;simp;refine bK Tryz.func15 rfl rfl (.cons (.refl _) (.cons (fL 1 [int 0] .exact) .nil)) (vw (a:=[0]) (b:=[0]) (by simp) (by simp) ?_);apply rn;simp;exact .done h
end
section
open Go.cz Go.Conc
variable{m:Mo}{σ:ab}{KF:adm}
theorem yV{P m fid n ro hold K todo D rc}{G:Prop}(I:adk)
 (a:(∀env σ,I env σ->aa P m fid n ro hold todo ⟨env,σ,D,rc⟩ K)->G) (b:∀env σ,I env σ->aa P m fid n ro hold todo ⟨env,σ,D,rc⟩ K):G:=a b
end
section
open Go Go.cz Go.Conc
variable{m:Mo}{σ:ab}{KF:adm}
section
variable{c k:Nat}{nums:adA}
namespace WY
abbrev XS:adr:=[⟨2,.take [0,2,3,4,7,9] false (.both 1 (.one 5 (.take [6,8] true (.one 10 (.done)))) (.one 5 (.take [1,6,8] true (.one 10 (.done)))))⟩]
theorem SN{a b t:Int}(c:2<=t/\t<=4)(d:0<=a/\a<t)(hb:1<=b/\b<t):0<=(a+b).tmod t/\(a+b).tmod t<t/\(a+b).tmod t≠a:=by
 rw[Int.tmod_eq_emod_of_nonneg (by omega)];have:t=2\/t=3\/t=4:=by omega
 grind
theorem OJ{a t}(b:2<=t/\t<=4):pz .rem .i64 a t=some (.int .i64 (a.tmod t)):=by simp[pz];omega
theorem OK{t}(hk:k+7<1000000)(H:nums.length<1152921504606846976)(ht:2<=t/\t<=4)(hb:bo c nums k σ)(h:∀  x  σ',qy t x=0->pG c nums (k+7) σ σ'->KF (.val (jN x)) σ'):az prog m 21 [.ref c 0,int t] σ KF:=by
 obtain⟨n0,s0,_,a7⟩:=id hb;refine fs XS Tryz.func21 rfl (by kernel_rfl) ?_
 simp[Tryz.f21];refine bS.intro λi h4=>?_
 have v:c≠i:=λe=>by simp_all
 have P:∀x,bo c nums k (σ.set i x):=λx=>⟨n0,s0,by assumption,by rw[ab.ah _ _ v];exact a7⟩
 simp;have W:-9223372036854775808<=t-1/\t-1<=9223372036854775807:=by omega
 simp[W.1,W.2];refine cf Tryz.func18 rfl (eU (by omega) H ⟨by omega,by omega⟩ (P _) λd aC Q M=>?_)
 apply rn;simp;refine cf Tryz.func19 rfl (eV (by omega) H (by omega) (by omega) M.1 λr w aE A=>?_)
 apply rn;simp;refine bS.intro λf h5=>?_
 have B:f≠c:=λe=>by subst e;obtain⟨_,_,_,q⟩:=A.1;simp_all
 have aL:∀y,y≠c->y≠i->w y=σ y:=λy o Y=>by rw[A.2 y o,M.2 y o,ab.ah _ _ Y]
 have q4:w i=some (.cells [int 0,int 0,int 0,int 0,int 0]):=by rw[A.2 i (zj v),M.2 i (zj v),ab.ai]
 have s:f≠i:=λe=>by simp_all
 have Q:0<=d/\d<t:=by omega
 apply yV (I:=λenv σ'=>∃b,(1<=b/\b<t)/\env 0=.ref c 0/\env 1=int t/\env 4=.ref i 0/\env 5=.ref f 0/\bo c nums (k+3) σ'/\σ' i=some (.cells [int 0,int 0,int 0,int 0,int 0])/\σ' f=some (.cells [int d,int ((d+b).tmod t),int r,int 0,int 0])/\∀y,y≠c->y≠i->y≠f->σ' y=σ y)
 . intro u
   simp[aM,W.1,W.2]
   have R:bo c nums (k+2) (w.set f (.cells [int d,int 0,int r,int 0,int 0])):=by obtain⟨n,z,C,S⟩:=A.1;exact⟨n,z,C,by rw[ab.ah _ _ (zj B)];exact S⟩
   have fin:∀(b:Int) (g:ab),1<=b/\(b<=t-1\/b=1)->pG c nums (k+2+1) (w.set f (.cells [int d,int 0,int r,int 0,int 0])) g->g f=some (.cells [int d,int 0,int r,int 0,int 0])/\(-9223372036854775808<=d+b/\d+b<=9223372036854775807)/\∀(env:Env) (X:sn),env 0=.ref c 0->env 1=int t->env 4=.ref i 0->env 5=.ref f 0->X=.cells [int d,int ((d+b).tmod t),int r,int 0,int 0]->(∃b,(1<=b/\b<t)/\env 0=.ref c 0/\env 1=int t/\env 4=.ref i 0/\env 5=.ref f 0/\bo c nums (k+3) (g.set f X)/\(g.set f X) i=some (.cells [int 0,int 0,int 0,int 0,int 0])/\(g.set f X) f=some (.cells [int d,int ((d+b).tmod t),int r,int 0,int 0])/\∀y,y≠c->y≠i->y≠f->(g.set f X) y=σ y):=λb g p j=>by
    refine⟨by rw[j.2 f B,ab.ai],by omega,λenv X N J K L eX=>⟨b,by omega,N,J,K,L,?_,?_,by rw[ab.ai,eX],λy o Y y3=>?_⟩⟩
    . obtain⟨n,z,C,S⟩:=j.1
      exact⟨n,z,by omega,by rw[ab.ah _ _ (zj B)];exact S⟩
    . rw[ab.ah _ _ (zj s),j.2 i (zj v),ab.ah _ _ (zj s)];exact q4
    . rw[ab.ah _ _ y3,j.2 y o,ab.ah _ _ y3];grind
   refine⟨?_,?_⟩
   . refine cf Tryz.func19 rfl (eV (by omega) H (by omega) (by omega) R λb g p j=>?_)
     obtain⟨g5,C,gI⟩:=fin b g p j;have Z:=OJ (a:=d+b) ht;apply pg;simp[g5,C.1,C.2,Z,aM];exact u _ _ (gI _ _ (by simp) (by simp) (by simp) (by simp) rfl)
   . refine cf Tryz.func19 rfl (eV (by omega) H (by omega) (by omega) R λb g p j=>?_)
     obtain⟨g5,C,gI⟩:=fin b g p j;have Z:=OJ (a:=d+b) ht;apply pg;simp[g5,C.1,C.2,Z,aM];exact u _ _ (gI _ _ (by simp) (by simp) (by simp) (by simp) rfl)
 rintro env g ⟨b,p,N,J,K,L,a8,u4,u5,a9⟩
 apply rn;simp[N,J,K,L];refine cf Tryz.func18 rfl (eU (by omega) H ⟨by omega,by omega⟩ a8 λo aO b0 D=>?_)
 apply rn;simp[N,J,K,L];refine cf Tryz.func54 rfl (mW (l:=[0,0,o]) (by omega) H (by simp) D.1 λfr T b1 E=>?_)
 have hf:0<=fr/\fr<=20:=by grind
 have v5:T f=some (.cells [int d,int ((d+b).tmod t),int r,int 0,int 0]):=by rw[E.2 f B,D.2 f B];exact u5
 have r2:-9223372036854775808<=fr+20/\fr+20<=9223372036854775807:=by omega
 apply rn;simp[N,J,K,L,v5,aM,r2.1,r2.2];obtain⟨hi,ad,ax⟩:∃hi:Int,hi=(if fr+20<72 then fr+20 else 72)/\fr<=hi/\hi<=72:=⟨_,rfl,by omega,by omega⟩
 rw[<-ad]
 have U:bo c nums (k+5) (T.set f (.cells [int d,int ((d+b).tmod t),int r,int fr,int 0])):=by obtain⟨n,z,C,S⟩:=E.1;exact⟨n,z,by omega,by rw[ab.ah _ _ (zj B)];exact S⟩
 refine cf Tryz.func19 rfl (eV (by omega) H (by omega) (by omega) U λY σ6 b2 F=>?_)
 apply rn;simp[N,J,K,L];refine cf Tryz.func54 rfl (mW (l:=[72,72,Y]) (by omega) H (by simp) F.1 λtt V al G=>?_)
 have b3:fr<=tt/\tt<=72:=by simp at al;omega
 have w5:V f=some (.cells [int d,int ((d+b).tmod t),int r,int fr,int 0]):=by rw[G.2 f B,F.2 f B,ab.ai]
 have w4:V i=some (.cells [int 0,int 0,int 0,int 0,int 0]):=by rw[G.2 i (zj v),F.2 i (zj v),ab.ah _ _ (zj s),E.2 i (zj v),D.2 i (zj v)];exact u4
 apply rn;simp[N,J,K,L,w5,w4,s,zj s,ab.ah,aM];obtain⟨nb,zb,P,av⟩:=G.1;have ay:=SN ht Q p
 have hw:qy t ⟨d,(d+b).tmod t,r,fr,tt⟩=0:=by
  have J:br d 0 (t-1)=true:=by simp only[br,za,aaG];omega
  have Z:br ((d+b).tmod t) 0 (t-1)=true:=by simp only[br,za,aaG];omega
  have e3:br r 1 12=true:=by simp only[br,za,aaG];omega
  have K:br fr 0 72=true:=by simp only[br,za,aaG];omega
  have L:br tt 0 72=true:=by simp only[br,za,aaG];omega
  unfold qy
  grind
 refine .less (σ':=σ.set c (.cells [ints nums,int nb,.lit (.int .u64 zb)])) (λy x O=>?_) (.done (h ⟨d,(d+b).tmod t,r,fr,tt⟩ _ hw ⟨⟨nb,zb,by omega,ab.ai _ _ _⟩,λy O=>ab.ah _ _ O⟩))
 have s5:σ f=none:=by simp_all
 by_cases o:y=c
 . subst o
   rw[ab.ai]at O;rw[ab.ah _ _ v,ab.ah _ _ (zj B),av];exact O
 . rw[ab.ah _ _ o]at O
   have y4:y≠i:=λe=>by simp_all
   have y5:y≠f:=λe=>by simp_all
   rw[ab.ah _ _ y4,ab.ah _ _ y5,G.2 y o,F.2 y o,ab.ah _ _ y5,E.2 y o,D.2 y o,a9 y o y4 y5];exact O
end WY
end
end
section
open Go.cz Go.Conc
variable{m:Mo}{σ:ab}{KF:adm}
def kH(a b:adA):adA:=a.filter λx=>decide (x∉b)
def Wf(a b:adA):Int:=((kH a b).length:Int)+((kH b a).length:Int)
theorem yW{a b:adA}{i}  h :kH (a.take (i+1)) b=kH (a.take i) b++if a[i]∈b then[]else[a[i]]:=by
 unfold kH;rw[zG h,abz]
 grind
theorem n8  a b :(kH a b).length<=a.length:=abJ _ _
def OL:adg:=[[],[0],[1],[2],[0,1],[0,2],[1,2],[0,1,2]]
theorem E4{l}(h:l.Sublist [0,1,2]):l∈OL:=by cases h<;>(rename_i h;cases h<;>(rename_i h;cases h<;>(rename_i h;cases h;decide)))
theorem QG:∀a∈OL,∀b∈OL,Wf a b=bx (aR a) (aR b):=by decide +kernel
theorem E5{a b}(c:a.Sublist [0,1,2])(hb:b.Sublist [0,1,2]):Wf a b=bx (aR a) (aR b):=QG _ (E4 c) _ (E4 hb)
theorem GY{a b}(x:a.length<1000000)(hb:b.length<1000000)(h:KF (.val (int (Wf a b))) σ):az prog m 85 [ints a,ints b] σ KF:=by
 refine fs [] Tryz.func85 rfl (by kernel_rfl) ?_
 simp[Tryz.f85];refine aa.loop a.length (λi s=>∃env,s=⟨env,σ,[],.no⟩/\env 0=ints a/\env 1=ints b/\env 5=int ((kH (a.take i) b).length:Int)/\env 6=int i) ⟨_,rfl,by simp[kH]⟩ ?_
 rintro u i _ v ⟨env,rfl,e,f,d,n⟩ r
 rcases aaX i a.length with g1|g1
 . have t:(i:Int)<a.length:=by omega
   have j:=n8 (a.take i) b;rw[abO]at j;have f1:-9223372036854775808<=(i:Int)+1/\(i:Int)+1<=9223372036854775807:=by omega
   have o:-9223372036854775808<=((kH (a.take i) b).length:Int)+1/\((kH (a.take i) b).length:Int)+1<=9223372036854775807:=by omega
   have c:=yW (b:=b) g1;apply rn;simp[e,f,d,n,g1];refine cf Tryz.func24 rfl (qg (by omega) ?_)
   by_cases q:a[i]∈b
   . rw[aaK q,abn]at c
     have k:¬qf b a[i]<0:=by have:=(kA b a[i]).2 q;omega
     apply rn;simp[e,f,d,n,k,f1.1,f1.2]
     simp_all
   . rw[aaJ q]at c
     have k:qf b a[i]<0:=by
      rcases Int.lt_or_le (qf b a[i]) 0 with g|g
      . exact g
      . exact absurd ((kA b a[i]).1 g) q
     apply rn;simp[e,f,d,n,k,f1.1,f1.2,o.1,o.2]
     simp_all
 . have l:i=a.length:=by omega
   subst l;rw[aaQ]at d;have w:=n8 a b;apply rn;simp[e,f,d,n];refine aa.loop b.length (λi s=>∃env,s=⟨env,σ,[],.no⟩/\env 0=ints a/\env 1=ints b/\env 5=int (((kH a b).length:Int)+((kH (b.take i) a).length:Int))/\env 7=int i) ⟨_,rfl,by simp[e,f,kH,d]⟩ ?_
   clear e f d n r
   rintro u i _ v ⟨env,rfl,e,f,d,p⟩ r
   rcases aaX i b.length with g1|g1
   . have t:(i:Int)<b.length:=by omega
     have j:=n8 (b.take i) a;rw[abO]at j;have f1:-9223372036854775808<=(i:Int)+1/\(i:Int)+1<=9223372036854775807:=by omega
     have o:-9223372036854775808<=((kH a b).length:Int)+((kH (b.take i) a).length:Int)+1/\((kH a b).length:Int)+((kH (b.take i) a).length:Int)+1<=9223372036854775807:=by omega
     have c:=yW (b:=a) g1;apply rn;simp[e,f,d,p,g1];refine cf Tryz.func24 rfl (qg (by omega) ?_)
     by_cases q:b[i]∈a
     . rw[aaK q,abn]at c
       have k:¬qf a b[i]<0:=by have:=(kA a b[i]).2 q;omega
       apply rn;simp[e,f,d,p,k,f1.1,f1.2]
       simp_all
     . rw[aaJ q]at c
       have k:qf a b[i]<0:=by
        rcases Int.lt_or_le (qf a b[i]) 0 with g|g
        . exact g
        . exact absurd ((kA a b[i]).1 g) q
       apply rn;simp[e,f,d,p,k,f1.1,f1.2,o.1,o.2];refine r _ g1 ⟨_,rfl,by simp_all,by simp_all,by simp[c,Int.add_assoc]⟩
   . have l:i=b.length:=by omega
     subst l;rw[aaQ]at d;apply rn;simp[e,f,d,p];exact .done h
structure OM  dW  (e:wu):Prop where
 hour:0<=e.hour/\e.hour<=72
 place:0<=e.place/\e.place<dW
 bX:0<=e.bX/\e.bX<=1
 marks:e.marks.Sublist [0,1,2]
 aX:0<=e.aX/\e.aX<=30
 gg:0<=e.gg/\e.gg<=2
theorem OM.check{dW e}(h:OM dW e):bL dW e=0:=by
 obtain⟨b,c,d,a,f,g⟩:=h;have a:=(lH a).1;unfold bL br
 grind
structure GZ  cnt  (f:Fr)  ks :Prop where
 qh:f.Good
 len:(f.aA.length:Int)<=cnt
 dW:f.roads.length<=3
 row:∀r∈f.roads,r.length<=3
 marks:∀e∈f.aA,e.marks.length<=3
 aY:f.aY<=3
 seen:∃  aY   C H   last ,Seen f aY C H ks f.aA last/\(aY:Int)=f.aY
theorem Bf{k}:∀  es   i   x ,i<es.length->(∀e∈es,e.cells.length=k)->x.cells.length=k->(flatten es).take (i*k)++x.cells++(flatten es).drop (i*k+k)=flatten (es.set i x)
 | e::es,0,x,_,a,b=>by
   have c:=a e (by simp);rw[List.set_cons_zero,flatten_cons,flatten_cons]
   grind
 | e::es,i+1,x,g,a,b=>by
   have c:=a e (by simp);have d:=Bf es i x (by simp_all) (λy f=>a y (by simp[f])) b;rw[List.set_cons_succ,flatten_cons,flatten_cons,<-d,acB,Nat.one_mul,acR,List.drop_append];rw[abM (by omega),List.drop_eq_nil_of_le (by omega),c,show i*k+k-k=i*k by omega,show i*k+k+k-k=i*k+k by omega];simp
theorem ON{f n h}(g:f.aT<=f.eL)(i:0<=n.gg/\n.gg<=2)(hb:(n.gg≠1/\n.aX=h)\/(n.gg≠0/\∃y,f.aT<=y/\y<=f.eL/\n.aX=h+y)):h∈bH f n:=by
 have a:n.gg≠1->n.aX∈bH f n:=λc=>by
  unfold bH
  grind
 have b:∀x,x∈gY f n->x∈bH f n:=λx j=>by
  unfold bH
  grind
 rcases hb with⟨c,rfl⟩|⟨d,y,k,l,e⟩
 . exact a c
 . refine b _ ?_
   unfold gY;rw[aaK d];exact aaU.2 ⟨(f.eL-y).toNat,Rp.2 (by omega),by omega⟩
theorem tP{σ0 σ c σ' a kk es}(h:Tok σ0 σ a kk es)(d:c.Le σ')(hb:∀b,bt a=some b->σ' b=σ b/\c b=none):Tok c σ' a kk es:=by
 refine⟨d,?_⟩;rcases h.2 with q|q|⟨b,e,g,f,i⟩
 . exact .inl q
 . simp_all
 . obtain⟨j,k⟩:=hb b (by rw[f];rfl)
   grind
theorem Il{σ0 σ σ2 a kk es c}(h:cd σ0 σ a kk es)(i:σ0 c=none)(f:eZ a≠some c)(d:∀y,y≠c->σ2 y=σ y):cd σ0 σ2 a kk es:=h.keep (λy x g=>by rw[d y (λe=>by simp_all)];exact h.1 y x g) λb hb=>⟨d b (λe=>f (e ▸ hb)),(h.lP hb).1⟩
theorem QH{σ0 σ σ' a c j kk k m es n o}(h:Tok σ0 σ a kk es)(f:cd σ0 σ c k n)(g:cd (σ.BC c) σ' j m o):Tok σ0 σ' a kk es:=
 tP h (ab.le_trans f.here.2 g.1) λb hb=>by
  obtain⟨p,e,i⟩:=h.aZ hb;have d:eZ c≠some b:=λq=>by obtain⟨_,l,r⟩:=f.lP q;simp_all
  exact⟨by rw[i];exact g.1 b _ (by rw[ab.qL d];exact i),p⟩
theorem QI{σ0 σ σ' a c j kk k m es n o}(h:cd σ0 σ a kk es)(f:Tok σ0 σ c k n)(g:Tok (σ.off c) σ' j m o):cd σ0 σ' a kk es:=
 h.keep (ab.le_trans f.here.2 g.1) λb hb=>by
  obtain⟨p,l,i⟩:=h.lP hb;have d:bt c≠some b:=λq=>by obtain⟨_,e,r⟩:=f.aZ q;simp_all
  exact⟨by rw[i];exact g.1 b _ (by rw[ab.dT d];exact i),p⟩
theorem lq{env:Env}{t u v}(h:u≠t):(env.upd t v) u=env u:=by simp_all
theorem TR{env:Env}{t v}:(env.upd t v) t=v:=by simp_all
structure Im(V:Nat->AV)(zP:Env)  σ6   c c13 K   nums   T  (X:Int->adF) (done:adB) (env:Env)  σ :Prop where
 base:∀s,s<97->env s=zP s
 dM:∀i,i∈done->i≠33->i≠34->i<36->env (97+i)=V i
 pre:33∉done->σ=σ6
 post:33∈done->36∉done->bo c nums K σ/\∀y,y≠c->σ y=σ6 y
 pick:33∈done->∃p ,(0<=p/\p<=3)/\env 130=int p/\(34∈done->env 131=int (T+p))
 all:36∈done->∀j,j<36->j∈done
 dep:34∈done->33∈done
 fin:36∈done->∃p ,(0<=p/\p<=3)/\bo c nums K σ/\σ c13=some (.cells (X (T+p)))/\∀y,y≠c->y≠c13->σ y=σ6 y
section
variable{V:Nat->AV}{zP env:Env}{σ6:ab}{c c13 K:Nat}{nums:adA}{T:Int}{X:Int->adF}{done:adB}
theorem Im.QJ(h:Im V zP σ6 c c13 K nums T X done env σ){i}(hi:i<36)(b:i∉done):36∉done:=λa=>b (h.all a i hi)
theorem Im.keep(h:Im V zP σ6 c c13 K nums T X done env σ){i}(hi:i<36)(a:i∉done){y}(b:y≠c):σ y=σ6 y:=by
 by_cases q:33∈done
 . exact(h.post q (h.QJ hi a)).2 y b
 . rw[h.pre q]
theorem Im.next(h:Im V zP σ6 c c13 K nums T X done env σ){i}(hi:i<36)(m:i∉done)(w:i≠33)(x:i≠34){a}(y:a=V i):Im V zP σ6 c c13 K nums T X (i::done) (env.upd (97+i) a) σ:=by
 have b:33∈i::done↔33∈done:=by grind
 have f:34∈i::done↔34∈done:=by grind
 have k:=h.QJ hi m;have d:36∉i::done:=by grind
 refine⟨λs n=>?_,λj o r t u=>?_,λq=>h.pre λl=>q (b.2 l),λq _=>h.post (b.1 q) k,λq=>?_,λq=>absurd q d,λq=>b.2 (h.dep (f.1 q)),λq=>absurd q d⟩
 . rw[lq (by omega)];exact h.base s n
 . by_cases e:j=i
   . simp_all
   . rw[lq (by omega)]
     exact h.dM j ((abf.1 o).resolve_left e) r t u
 . obtain⟨p,v,l,z⟩:=h.pick (b.1 q)
   exact⟨p,v,by rw[lq (by omega)];exact l,λg=>by rw[lq (by omega)];simp_all⟩
theorem Im.SO(h:Im V zP σ6 c c13 K nums T X done env σ)(l:33∉done)(b:34∉done){p}(m:0<=p/\p<=3){σ'}(hb:bo c nums K σ')(d:∀y,y≠c->σ' y=σ6 y):Im V zP σ6 c c13 K nums T X (33::done) (env.upd 130 (int p)) σ':=by
 have e:=h.QJ (i:=33) (by omega) l;have a:36∉33::done:=by simp[e]
 have f:34∉33::done:=by simp[b]
 refine⟨λs d=>?_,λj n k o r=>?_,λq=>absurd (by simp) q,λ_ _=>⟨hb,d⟩,λq=>⟨p,m,by simp_all,λg=>absurd g f⟩,λq=>absurd q a,λ_=>by simp,λq=>absurd q a⟩
 . rw[lq (by omega)];exact h.base s d
 . rw[lq (by omega)]
   exact h.dM j ((abf.1 n).resolve_left k) k o r
theorem Im.summed(h:Im V zP σ6 c c13 K nums T X done env σ)(f:34∉done)(a:33∈done){p}(k:0<=p/\p<=3)(r:env 130=int p):Im V zP σ6 c c13 K nums T X (34::done) (env.upd 131 (int (T+p))) σ:=by
 have b:=h.QJ (i:=34) (by omega) f;have d:36∉34::done:=by simp[b]
 refine⟨λs l=>?_,λj m n e o=>?_,λq=>absurd (by simp[a]) q,λ_ _=>h.post a b,λq=>⟨p,k,by simp_all,λg=>by simp_all⟩,λq=>absurd q d,λ_=>by simp[a],λq=>absurd q d⟩
 . rw[lq (by omega)];exact h.base s l
 . rw[lq (by omega)]
   exact h.dM j ((abf.1 m).resolve_left e) n e o
end
theorem CE{σ0 σ σ' a c f kk j k es l m}(h:Tok σ0 σ a kk es)(n:Tok σ0 σ c j l)(hd:∀b,bt a=some b->bt c≠some b)(d:Tok (σ.off c) σ' f k m):Tok σ0 σ' a kk es/\∀b,bt a=some b->bt f≠some b:=by
 have key:∀b,bt a=some b->(σ.off c) b=σ b:=λb hb=>ab.dT (hd b hb)
 refine⟨tP h (ab.le_trans n.here.2 d.1) λb hb=>?_,λb hb q=>?_⟩
 . obtain⟨g,e,i⟩:=h.aZ hb
   exact⟨by rw[i];exact d.1 b _ (by simp_all),g⟩
 . obtain⟨g,e,i⟩:=h.aZ hb
   obtain⟨o,_,_⟩:=d.aZ q
   simp_all
section
variable{c k:Nat}{nums:adA}
theorem Kx{cnt}(hk:k+500<1000000)(hn:nums.length<1152921504606846976)(tm:1<=cnt/\cnt<=6)(hb:bo c nums k σ)(h:∀  f   ks  σ',GZ cnt f ks->pG c nums (k+500) σ σ'->KF (.val (.cA [bI f,ints ks])) σ'):az prog m 40 [.ref c 0,int cnt] σ KF:=by
 obtain⟨n0,s0,_,oK⟩:=id hb;refine fs XD Tryz.func40 rfl (by kernel_rfl) ?_
 simp[Tryz.f40];refine bS.intro λX h4=>?_
 have n4:c≠X:=λe=>by simp_all
 have hU:∀x,bo c nums k (σ.set X x):=λx=>⟨n0,s0,by assumption,by rw[ab.ah _ _ n4];exact oK⟩
 simp;refine cf Tryz.func83 rfl (Gy (cnt:=0) (by omega) hn ⟨by omega,by omega⟩ (hU _) λf0 a0 hX Z ei oL=>?_)
 obtain rfl:=oL.1 (acp.1 (by have:=Z.len;omega))
 have bw:X≠c:=zj n4;have oM:hX X=some (.cells gi):=by rw[ei.2 X bw,ab.ai]
 apply rn;simp;refine bS.intro λP h6=>?_
 have n6:P≠c:=λe=>by subst e;obtain⟨_,_,_,q⟩:=ei.1;simp_all
 have fl:P≠X:=λe=>by simp_all
 have oN:σ P=none:=by rw[ei.2 P n6,ab.ah _ _ fl]at h6;exact h6
 simp
 have h1:∀x,bo c nums (k+20) (hX.set P x):=λx=>by obtain⟨n,z,g1,g2⟩:=ei.1;exact⟨n,z,g1,by rw[ab.ah _ _ (zj n6)];exact g2⟩
 refine cf Tryz.func19 rfl (eV (by omega) hn ⟨by omega,by omega⟩ ⟨by omega,by omega⟩ (h1 _) λaY ea vy fp=>?_)
 have t6:ea P=some (.cells [.lit (.slice none 0 0),rows f0.roads,int f0.aT,int f0.eL,int f0.cB,int f0.aY]):=by rw[fp.2 P n6,ab.ai]
 have t4:ea X=some (.cells gi):=by rw[fp.2 X bw,ab.ah _ _ (zj fl)];exact oM
 apply rn;simp[t6,aM];obtain⟨mo,rfl⟩:∃mo:Nat,aY=(mo:Int):=⟨aY.toNat,by omega⟩
 have wm:1<=mo/\mo<=3:=by omega
 have h2:=Z.dW;obtain⟨A6,ej⟩:∃A6:AV->adF,A6=λa=>[a,rows f0.roads,int f0.aT,int f0.eL,int f0.cB,int mo]:=⟨_,rfl⟩
 have oS:∀a,(A6 a).length=6:=λa=>by grind
 have b4:σ.del c c=none:=by simp[ab.del]
 have hY:bo c nums (k+21) (ea.set P (.cells (A6 (.lit (.slice none 0 0))))):=by obtain⟨n,z,g1,g2⟩:=fp.1;exact⟨n,z,by omega,by rw[ab.ah _ _ (zj n6)];exact g2⟩
 have al:(σ.del c).Le (ea.set P (.cells (A6 (.lit (.slice none 0 0))))):=λy x hy=>by
  have Y:y≠c:=λe=>by simp_all
  have y0:σ y=some x:=by simpa[ab.del,Y]using hy
  have y6:y≠P:=λe=>by simp_all
  have y4:y≠X:=λe=>by simp_all
  rw[ab.ah _ _ y6,fp.2 y Y,ab.ah _ _ y6,ei.2 y Y,ab.ah _ _ y4];exact y0
 have p0:σ.del c P=none:=by simp[ab.del,oN]
 have wK:σ.del c X=none:=by simp[ab.del,h4]
 have hZ:(ea.set P (.cells (A6 (.lit (.slice none 0 0))))) X=some (.cells gi):=by rw[ab.ah _ _ (zj fl)];exact t4
 refine aa.loop mo (λi s=>∃env σ' la ha L H,s=⟨env,σ',[],.no⟩/\env 0=.ref c 0/\env 1=int cnt/\env 4=.ref X 0/\env 6=.ref P 0/\env 7=la/\env 8=ha/\env 9=int i/\bo c nums (k+21+12*i) σ'/\σ' X=some (.cells gi)/\σ' P=some (.cells (A6 (.lit (.slice none 0 0))))/\cd (σ.del c) σ' la 6 (L.map bc)/\Tok (σ.del c) σ' ha 1 (H.map int)/\eZ la≠some c/\eZ la≠some X/\eZ la≠some P/\L.length=i/\H.length=i/\(∀e∈L,yt f0.roads.length e)/\(∀x∈H,13<=x/\x<=16))
  ⟨_,ea.set P (.cells (A6 (.lit (.slice none 0 0)))),.lit (.slice none 0 0),.lit (.slice none 0 0),[],[],by rw[ej],by simp,by simp,by simp,by simp,by simp,by simp,by simp,hY,hZ,ab.ai _ _ _,⟨al,.inl ⟨rfl,.inl rfl⟩⟩,⟨al,.inl ⟨rfl,rfl⟩⟩,by simp[eZ],by simp[eZ],by simp[eZ],rfl,rfl,by simp⟩ ?_
 clear hY al hZ
 rintro c0 i _ hi ⟨env,σ',la,ha,L,H,rfl,D,e1,G,E,F,J,e9,ft,q4,q6,ep,et,ev,fu,fv,ic,p5,h3,ie⟩ ih
 have b5:=ep.cells;have d:=et.cells;have a7:σ' P=some (.cells [.lit (.slice none 0 0),rows f0.roads,int f0.aT,int f0.eL,int f0.cB,int mo]):=by rw[q6,ej]
 rcases aaX i mo with g1|g1
 . have ix:(i:Int)<mo:=by omega
   have f1:-9223372036854775808<=(i:Int)+1/\(i:Int)+1<=9223372036854775807:=by omega
   apply rn;simp[D,e1,G,E,F,J,e9,a7,b5.1,b5.2,d.1,d.2,g1];refine cf Tryz.func84 rfl (oU (by omega) hn ⟨by omega,by omega⟩ ft λe a8 he U=>?_)
   have k0:∃l,σ' c=some (.cells l):=by obtain⟨_,_,_,q⟩:=ft;exact⟨_,q⟩
   have ey:=Il ep b4 ev U.2;have k2:=qX et b4 k0 U.2;have ez:a8 X=some (.cells gi):=by rw[U.2 X bw];exact q4
   have eA:a8 P=some (.cells (A6 (.lit (.slice none 0 0)))):=by rw[U.2 P n6];exact q6
   apply rn;simp[D,e1,G,E,F,J,e9,a7,b5.1,b5.2,d.1,d.2];refine oo lay rfl rfl rfl nk rfl nk rfl zE (by decide) (by simp;omega) (σ0:=a8.BC la) (es:=L.map bc) (xs:=[bc e]) (by simpa using ey.here.1) (.inl (.inr ⟨_,by simp;rfl⟩)) (by simp) λfw aO av=>?_
   have k4:∀y l,eZ la≠some y->a8 y=some l->aO y=some l:=λy l hy hl=>av.1 _ _ (by rw[ab.qL hy];exact hl)
   have k3:=QH k2 ey av;have h5:=av.base ey.here.2
   have k5:bo c nums (k+21+12*i+11) aO:=by obtain⟨n,z,g1,g2⟩:=U.1;exact⟨n,z,g1,k4 _ _ ev g2⟩
   have gw:eZ fw≠some c:=λq=>by obtain⟨g,_⟩:=av.lP q;obtain⟨_,_,_,g2⟩:=U.1;rw[ab.qL ev,g2]at g;cases g
   have k7:eZ fw≠some X:=λq=>by obtain⟨g,_⟩:=av.lP q;rw[ab.qL fu,ez]at g;cases g
   have k8:eZ fw≠some P:=λq=>by obtain⟨g,_⟩:=av.lP q;rw[ab.qL fv,eA]at g;cases g
   have aL:=av.cells;apply rn;simp[D,J,aL.1,aL.2];refine cf Tryz.func19 rfl (eV (by omega) hn ⟨by omega,by omega⟩ ⟨by omega,by omega⟩ k5 λx eb p6 b1=>?_)
   have kt:∃l,aO c=some (.cells l):=by obtain⟨_,_,_,q⟩:=k5;exact⟨_,q⟩
   have c9:=qX k3 b4 kt b1.2;have kv:=Il h5 b4 gw b1.2;apply rn;simp[D,J,aL.1,aL.2,d.1,d.2];refine aP lay rfl rfl rfl dD rfl dD rfl rH (by decide) (by simp;omega) (σ0:=eb.off ha) (es:=H.map int) (xs:=[int x]) (by simpa using c9.here.1) (.inr ⟨_,by simp;rfl⟩) λp7 σ6 ca=>?_
   have kx:=QI kv c9 ca;have h7:=ca.base c9.here.2;have gx:=ca.cells;have k6:∀y l,eb y=some (.cells l)->σ6 y=some (.cells l):=λy l hy=>ca.1 _ _ (by rw[ab.dT (λe=>by obtain⟨_,_,q⟩:=c9.aZ e;rw[hy]at q;cases q)];exact hy)
   have p8:σ6 X=some (.cells gi):=k6 _ _ (by rw[b1.2 X bw];exact k4 _ _ fu ez)
   have pa:σ6 P=some (.cells (A6 (.lit (.slice none 0 0)))):=k6 _ _ (by rw[b1.2 P n6];exact k4 _ _ fv eA)
   have b2:bo c nums (k+21+12*(i+1)) σ6:=by obtain⟨n,z,g1,g2⟩:=b1.1;exact⟨n,z,by omega,k6 _ _ g2⟩
   apply rn;simp[D,e9,f1.1,f1.2,aL.1,aL.2,gx.1,gx.2];refine ih _ g1 ⟨_,σ6,fw,p7,L++[e],H++[x],rfl,by simp[D],by simp[e1],by simp[G],by simp[E],by simp,by simp,by simp,b2,p8,pa,by simpa using kx,by simpa using h7,gw,k7,k8,by simp[ic],by simp[p5],λy hy=>?_,λy hy=>?_⟩
   . rcases aaN.1 hy with hy|hy
     . exact h3 y hy
     . simp at hy;subst hy;exact he
   . rcases aaN.1 hy with hy|hy
     . exact ie y hy
     . simp at hy;omega
 . have pb:i=mo:=by omega
   subst pb;clear ih
   obtain⟨Q,cap,rest,rfl,r1,r2,r3,r4,r5⟩:∃Q cap rest,la=.gn Q 0 i cap/\σ.del c Q=none/\i<=cap/\(∀e∈L.map bc,e.cells.length=6)/\σ' Q=some (.cells (flatten (L.map bc)++rest))/\rest.length=(cap-i)*6:=by
    have eB:(L.map bc).length=i:=by simp_all
    rcases ep.2 with⟨e,_⟩|⟨b,cap,rest,g1,g2,g3,g4,g5,g6⟩
    . grind
    . rw[eB]at g1 g3 g6
      grind
   have ay:Q≠c:=λe=>ev (by rw[e];rfl)
   have pd:Q≠X:=λe=>fu (by rw[e];rfl)
   have h8:Q≠P:=λe=>fv (by rw[e];rfl)
   have tr:σ Q=none:=by simpa[ab.del,ay]using r1
   refine aa.KM 8 (a':=ints H) (by rw[J];simpa using et.W) ?_
   have b8:=et.1;clear ep et b5 d ev fu fv J;apply rn;simp[D,e1,G,E,F,e9,a7];refine cf Tryz.func19 rfl (eV (by omega) hn ⟨by omega,by omega⟩ ⟨by omega,by omega⟩ ft λq a8 hq U=>?_)
   have ez:a8 X=some (.cells gi):=by rw[U.2 X bw];exact q4
   have eA:a8 P=some (.cells (A6 (.lit (.slice none 0 0)))):=by rw[U.2 P n6];exact q6
   have ky:a8 Q=some (.cells (flatten (L.map bc)++rest)):=by rw[U.2 Q ay];exact r4
   have al:(σ.del c).Le a8:=λy x hy=>by
    have Y:y≠c:=λe=>by simp_all
    rw[U.2 y Y];exact b8 y x hy
   obtain⟨qn,rfl⟩:∃qn:Nat,q=(qn:Int):=⟨q.toNat,by omega⟩
   have wL:1<=qn/\qn<=6:=by omega
   have gA:bo c nums (k+60) a8:=U.1.mono (by omega)
   obtain⟨C,hC⟩:∃C,C=L.map (·.bX):=⟨_,rfl⟩;obtain⟨f1,eK⟩:∃f1:Fr,f1=⟨[],f0.roads,f0.aT,f0.eL,f0.cB,(i:Int)⟩:=⟨_,rfl⟩
   have cb:Seen f1 i C H [] [] L:=⟨rfl,by simp,by simp,λj hj=>by simp at hj,λj hj=>by simp at hj,λa b _ hb=>by simp at hb,λj hj=>by simp at hj,λj hj=>by simp_all,ic⟩
   have gB:∀e∈L,OM f0.roads.length e:=λe he=>by have:=h3 e he;exact⟨⟨this.hour.1,by have:=this.hour;omega⟩,this.place,this.bX,this.marks,⟨by have:=this.aX;omega,by have:=this.aX;omega⟩,this.gg⟩
   apply rn;simp[D,e1,G,E,F,e9,a7];have l1:=D;have l2:=G;have l3:=E;have l4:=F;clear D e1 G E F e9 a7 h3 r3
   refine aa.loop qn (λj s=>∃env σ' a hh M es ks,s=⟨env,σ',[],.no⟩/\env 0=.ref c 0/\env 4=.ref X 0/\env 6=.ref P 0/\env 7=.gn Q 0 i cap/\env 8=ints H/\env 10=hh/\env 11=int ((qn:Int)-j)/\bo c nums (k+60+16*j) σ'/\σ' X=some (.cells gi)/\σ' P=some (.cells (A6 a))/\σ' Q=some (.cells (flatten (M.map bc)++rest))/\Tok (σ.del c) σ' a 6 (es.map bc)/\Tok (σ.del c) σ' hh 1 (ks.map int)/\(∀b,bt a=some b->bt hh≠some b)/\Seen f1 i C H ks es M/\(∀e∈M,OM f0.roads.length e)/\(∀e∈es,e.marks.length<=3)/\es.length<=j)
    ⟨_,a8,.lit (.slice none 0 0),.lit (.slice none 0 0),L,[],[],rfl,by simp[l1],by simp[l2],by simp[l3],by simp[l4],by simp,by simp,by simp,gA,ez,eA,ky,⟨al,.inl ⟨rfl,rfl⟩⟩,⟨al,.inl ⟨rfl,rfl⟩⟩,λb hb=>by simp[bt]at hb,cb,gB,by simp⟩ ?_
   clear l1 l2 l3 l4 gA ez eA ky al b8 cb gB q4 q6 ft U r4
   rintro c1 j _ hj ⟨env,σ',a,hh,M,es,ks,rfl,D,G,E,F,J,cX,cq,h9,q4,q6,ql,b9,ec,gC,O,fx,ho,wN⟩ ih
   have o:=b9.cells;have d:=ec.cells;have a7:σ' P=some (.cells [a,rows f0.roads,int f0.aT,int f0.eL,int f0.cB,int i]):=by rw[q6,ej]
   rcases aaX j qn with g1|g1
   . have ix : (0 : Int)<(qn:Int)-j:=by omega
     have BT:(j:Int)<qn:=by omega
     have f2:-9223372036854775808<=(i:Int)-1/\(i:Int)-1<=9223372036854775807:=by omega
     have f3:-9223372036854775808<=(qn:Int)-j-1/\(qn:Int)-j-1<=9223372036854775807:=by omega
     apply rn;simp[D,G,E,F,J,cX,cq,o.1,o.2,d.1,d.2,ix,BT,g1,a7,f2.1,f2.2];refine cf Tryz.func18 rfl (eU (by omega) hn ⟨by omega,by omega⟩ h9 λkk a8 wS U=>?_)
     obtain⟨R,rfl⟩:∃R:Nat,kk=(R:Int):=⟨kk.toNat,by omega⟩
     have bA:R<i:=by omega
     have w6:a8 P=some (.cells [a,rows f0.roads,int f0.aT,int f0.eL,int f0.cB,int i]):=by rw[U.2 P n6];exact a7
     apply rn;simp[D,G,E,F,J,cX,cq,o.1,o.2,d.1,d.2,w6];refine cf Tryz.func84 rfl (oU (by omega) hn ⟨by omega,by omega⟩ U.1 λe aO he hv=>?_)
     have bB:∀y,y≠c->aO y=σ' y:=λy hy=>(hv.2 y hy).trans (U.2 y hy)
     have w6:aO P=some (.cells [a,rows f0.roads,int f0.aT,int f0.eL,int f0.cB,int i]):=by rw[bB P n6];exact a7
     have wl:aO Q=some (.cells (flatten (M.map bc)++rest)):=by rw[bB Q ay];exact ql
     have w4:aO X=some (.cells gi):=by rw[bB X bw];exact q4
     apply rn;simp[D,G,E,F,J,cX,cq,o.1,o.2,d.1,d.2,w6];refine bS.intro λc13 l5=>?_
     have m0:c13≠c:=λe=>by subst e;obtain⟨_,_,_,q⟩:=hv.1;simp_all
     have m4:c13≠X:=λe=>by subst e;simp_all
     have m6:c13≠P:=λe=>by subst e;simp_all
     have ml:c13≠Q:=λe=>by subst e;simp_all
     have fO:R<M.length:=by rw[O.SE];exact bA
     obtain⟨el,eB⟩:∃el,el=M[R]:=⟨_,rfl⟩;have bm:=fx el (by rw[eB];exact zs fO)
     obtain⟨CL,eN⟩:∃CL,CL=flatten (M.map bc)++rest:=⟨_,rfl⟩;rw[<-eN]at wl;have hz:∀x∈M.map bc,x.cells.length=6:=λx hx=>by obtain⟨y,_,rfl⟩:=aaU.1 hx;rfl
     have gD:(flatten (M.map bc)).length=M.length*6:=by rw[bM (kk:=6) hz,abi]
     have cg:∀t,t<6->CL[R*6+t]?=(bc el).cells[t]?:=λt ht=>by
      rw[eN,abx (by omega)]
      exact mH (kk:=6) hz (by rw[abk,zU fO,eB];rfl) t ht
     have l6:=cg 0 (by omega)
     have l7:=cg 1 (by omega)
     have lj:=cg 2 (by omega)
     have lp:=cg 3 (by omega)
     simp at l6 l7 lj lp;simp[D,G,E,F,J,cX,cq,o.1,o.2,d.1,d.2,wl,ab.ah,zj ml,bA,lj,aM]
     have pk:∀x,bo c nums (k+60+16*j+12) (aO.set c13 x):=λx=>by obtain⟨n,z,g1,g2⟩:=hv.1;exact⟨n,z,by omega,by rw[ab.ah _ _ (zj m0)];exact g2⟩
     refine cf Tryz.func18 rfl (eU (by omega) hn ⟨by omega,by omega⟩ (pk _) λsh eb p6 b1=>?_)
     have hA:eb c13=some (.cells [int e.hour,int e.place,int el.bX,ints e.marks,int e.aX,int e.gg]):=by rw[b1.2 c13 m0,ab.ai]
     have ed:R<H.length:=by omega
     obtain⟨h0,ee⟩:∃h0,h0=H[R]:=⟨_,rfl⟩;have ts:13<=h0/\h0<=16:=ie _ (by rw[ee];exact zs ed)
     have hB:(H.map int)[R]?=some (int h0):=by rw[abk,zU ed,ee];rfl
     have lA:sh=0\/sh=1\/sh=2:=by omega
     have gG:0<=sh/\sh<=2:=by omega
     have lB:f0.aT<=f0.eL:=Z.to.1;have x0:0<=f0.aT/\f0.eL<=2:=⟨Z.fr.1,Z.to.2⟩
     have hD:∀x,bo c nums (k+60+16*j+13) (eb.set c13 x):=λx=>by obtain⟨n,z,g1,g2⟩:=b1.1;exact⟨n,z,by omega,by rw[ab.ah _ _ (zj m0)];exact g2⟩
     have hE:∀y,y≠c->y≠c13->eb y=σ' y:=λy Y y2=>by rw[b1.2 y Y,ab.ah _ _ y2,bB y Y]
     have v3:ks.length<1000000:=by rw[O.len];omega
     apply yV (I:=λenv σ6=>∃b,env 0=.ref c 0/\env 4=.ref X 0/\env 6=.ref P 0/\env 7=.gn Q 0 i cap/\env 8=ints H/\env 10=hh/\env 11=int ((qn:Int)-j)/\env 12=int R/\env 13=.ref c13 0/\env 80=bool b/\bo c nums (k+60+16*j+14) σ6/\σ6 c13=some (.cells [int e.hour,int e.place,int el.bX,ints e.marks,int h0,int sh])/\(∀y,y≠c->y≠c13->σ6 y=σ' y)/\(b=true->sh≠0)/\(b=false->sh≠1))
     . intro T
       rcases lA with rfl|rfl|rfl
       . refine aa.runN lay [] 28 ?_
         simp[D,G,E,F,J,cX,cq,o.1,o.2,d.1,d.2,hA,hB,ed,aM,<-ee]
         refine T _ _ ⟨false,by simp[D,G,E,F,J,cX,cq,o.1,o.2,d.1,d.2],by simp[D,G,E,F,J,cX,cq,o.1,o.2,d.1,d.2],by simp[D,G,E,F,J,cX,cq,o.1,o.2,d.1,d.2],by simp[D,G,E,F,J,cX,cq,o.1,o.2,d.1,d.2],by simp[D,G,E,F,J,cX,cq,o.1,o.2,d.1,d.2],by simp[D,G,E,F,J,cX,cq,o.1,o.2,d.1,d.2],by simp[D,G,E,F,J,cX,cq,o.1,o.2,d.1,d.2],by simp[D,G,E,F,J,cX,cq,o.1,o.2,d.1,d.2],by simp[D,G,E,F,J,cX,cq,o.1,o.2,d.1,d.2],by simp[D,G,E,F,J,cX,cq,o.1,o.2,d.1,d.2],(hD _).mono (by omega),ab.ai _ _ _,λy Y y2=>by rw[ab.ah _ _ y2];exact hE y Y y2,by simp⟩
       . refine aa.runN lay [] 28 ?_
         simp[D,G,E,F,J,cX,cq,o.1,o.2,d.1,d.2,hA,hB,ed,aM,<-ee]
         refine T _ _ ⟨true,by simp[D,G,E,F,J,cX,cq,o.1,o.2,d.1,d.2],by simp[D,G,E,F,J,cX,cq,o.1,o.2,d.1,d.2],by simp[D,G,E,F,J,cX,cq,o.1,o.2,d.1,d.2],by simp[D,G,E,F,J,cX,cq,o.1,o.2,d.1,d.2],by simp[D,G,E,F,J,cX,cq,o.1,o.2,d.1,d.2],by simp[D,G,E,F,J,cX,cq,o.1,o.2,d.1,d.2],by simp[D,G,E,F,J,cX,cq,o.1,o.2,d.1,d.2],by simp[D,G,E,F,J,cX,cq,o.1,o.2,d.1,d.2],by simp[D,G,E,F,J,cX,cq,o.1,o.2,d.1,d.2],by simp[D,G,E,F,J,cX,cq,o.1,o.2,d.1,d.2],(hD _).mono (by omega),ab.ai _ _ _,λy Y y2=>by rw[ab.ah _ _ y2];exact hE y Y y2,by simp⟩
       . refine aa.runN lay [] 28 ?_
         simp[D,G,E,F,J,cX,cq,o.1,o.2,d.1,d.2,hA,hB,ed,aM,<-ee];refine cf Tryz.func20 rfl (wx (by omega) hn ⟨by omega,by omega⟩ (hD _) λb σ6 hF=>?_)
         refine aa.runN lay [] 3 ?_;simp[D,G,E,F,J,cX,cq,o.1,o.2,d.1,d.2]
         refine T _ _ ⟨b,by simp[D,G,E,F,J,cX,cq,o.1,o.2,d.1,d.2],by simp[D,G,E,F,J,cX,cq,o.1,o.2,d.1,d.2],by simp[D,G,E,F,J,cX,cq,o.1,o.2,d.1,d.2],by simp[D,G,E,F,J,cX,cq,o.1,o.2,d.1,d.2],by simp[D,G,E,F,J,cX,cq,o.1,o.2,d.1,d.2],by simp[D,G,E,F,J,cX,cq,o.1,o.2,d.1,d.2],by simp[D,G,E,F,J,cX,cq,o.1,o.2,d.1,d.2],by simp[D,G,E,F,J,cX,cq,o.1,o.2,d.1,d.2],by simp[D,G,E,F,J,cX,cq,o.1,o.2,d.1,d.2],by simp[D,G,E,F,J,cX,cq,o.1,o.2,d.1,d.2],hF.1,by rw[hF.2 c13 m0,ab.ai],λy Y y2=>by rw[hF.2 y Y,ab.ah _ _ y2];exact hE y Y y2,by simp⟩
     clear D G E F J cX cq
     rintro env σ6 ⟨b,D,G,E,F,J,cX,cq,fq,K,gd,b2,a9,aC,m1,m2⟩
     apply yV (I:=λenv σ6=>∃ht,env 0=.ref c 0/\env 4=.ref X 0/\env 6=.ref P 0/\env 7=.gn Q 0 i cap/\env 8=ints H/\env 10=hh/\env 11=int ((qn:Int)-j)/\env 12=int R/\env 13=.ref c13 0/\env 95=int (qf ks R)/\bo c nums (k+60+16*j+15) σ6/\σ6 c13=some (.cells [int e.hour,int e.place,int el.bX,ints e.marks,int ht,int sh])/\(∀y,y≠c->y≠c13->σ6 y=σ' y)/\((sh≠1/\ht=h0)\/(sh≠0/\∃y,f0.aT<=y/\y<=f0.eL/\ht=h0+y)))
     . intro T
       have hW:Wl [hh,int R] [ints ks,int R]:=.cons (by simpa using ec.W) (.cons (.refl _) .nil)
       cases b
       . apply rn
         simp[D,G,E,F,J,cX,cq,fq,K,gd];refine bK Tryz.func24 rfl rfl hW (qg (by omega) ?_)
         refine T _ _ ⟨h0,?_,?_,?_,?_,?_,?_,?_,?_,?_,?_,b2.mono (by omega),a9,aC,.inl ⟨m2 rfl,rfl⟩⟩<;>simp[D,G,E,F,J,cX,cq,fq,K,gd]
       . have v6 : σ6 P=some (.cells [a,rows f0.roads,int f0.aT,int f0.eL,int f0.cB,int i]):=by rw[aC P n6 (zj m6)];exact a7
         have x3:=Z.fr;have ep:=Z.to;apply rn;simp[D,G,E,F,J,cX,cq,fq,K,gd,a9,v6,aM]
         repeat' (first
                   |apply And.intro
                   | (refine cf Tryz.func19 rfl (eV (by omega) hn ⟨by omega,by omega⟩ ⟨by omega,by omega⟩ b2 λy S hy hG=>?_)
                      have ps:S c13=some (.cells [int e.hour,int e.place,int el.bX,ints e.marks,int h0,int sh]):=by rw[hG.2 c13 m0];exact a9
                      have f4:-9223372036854775808<=h0+y/\h0+y<=9223372036854775807:=by omega
                      apply pg;simp[D,G,E,F,J,cX,cq,fq,K,ps,f4.1,f4.2,aM];apply rn;simp[D,G,E,F,J,cX,cq,fq,K];refine bK Tryz.func24 rfl rfl hW (qg (by omega) ?_)
                      refine T _ _ ⟨h0+y,by simp[D],by simp[G],by simp[E],by simp[F],by simp[J],by simp[cX],by simp[cq],by simp[fq],by simp[K],by simp,?_,ab.ai _ _ _,λz Y y2=>by rw[ab.ah _ _ y2,hG.2 z Y];exact aC z Y y2,.inr ⟨m1 rfl,y,by omega,by omega,rfl⟩⟩
                      obtain⟨n,z,g1,g2⟩:=hG.1;exact⟨n,z,by omega,by rw[ab.ah _ _ (zj m0)];exact g2⟩))
     clear b2 a9 aC D G E F J cX cq fq K gd m1 m2
     rintro env σ6 ⟨ht,D,G,E,F,J,cX,cq,fq,K,ad,b2,a9,aC,m3⟩
     have hH:0<=ht/\ht<=30:=by rcases m3 with⟨_,q⟩|⟨_,y,q1,q2,q3⟩<;>omega
     have aE:=Fr.qh (Z.fits (by omega)) (Z.check (by omega))
     have x4:∀x∈M,x.marks.length<=3:=λx hx=>(lH (fx x hx).marks).2
     have pA:=(lH he.marks).2;have v5:=(lH bm.marks).2;have md:=he.place;have mf:=bm.place;have v9:=bm.hour;have mg:=Z.cB;apply yV (I:=λenv S=>∃hr,env 0=.ref c 0/\env 4=.ref X 0/\env 6=.ref P 0/\env 7=.gn Q 0 i cap/\env 8=ints H/\env 10=hh/\env 11=int ((qn:Int)-j)/\env 12=int R/\env 13=.ref c13 0/\bo c nums (k+60+16*j+16) S/\S c13=some (.cells [int hr,int e.place,int el.bX,ints e.marks,int ht,int sh])/\(∀y,y≠c->y≠c13->S y=σ' y)/\(0<=hr/\hr<=1000)/\((R:Int)∈ks->N8 f1 el {e with hour:=hr}))
     . intro T
       by_cases hK:(R:Int)∈ks
       . have q2:qf ks R>=0:=(kA ks R).2 hK
         obtain⟨rw,cm⟩:∃rw,rw=f0.roads[el.place.toNat]'(by omega):=⟨_,rfl⟩
         have gH:=aE.row (i:=el.place.toNat) (by omega)
         rw[<-cm]at gH;have cv:e.place.toNat<rw.length:=by omega
         obtain⟨r,gf⟩:∃r,r=rw[e.place.toNat]:=⟨_,rfl⟩;have x5:=gH.2 r (by rw[gf];exact zs cv)
         have b3:el.place.toNat<f0.roads.length:=by omega
         have pB:(f0.roads.map ints)[el.place.toNat]?=some (ints rw):=by rw[abk,zU b3,cm];rfl
         have hr:(rw.map int)[e.place.toNat]?=some (int r):=by rw[abk,zU cv,gf];rfl
         have mi:=cv;obtain⟨ch,hL⟩:∃ch,ch=Wf el.marks e.marks:=⟨_,rfl⟩
         have eR:0<=ch/\ch<=6:=by have q1:=n8 el.marks e.marks;have q2:=n8 e.marks el.marks;rw[hL];unfold Wf;omega
         have x6:0<=f0.cB*ch/\f0.cB*ch<=24:=⟨Int.mul_nonneg (by omega) eR.1,Int.le_trans (acI mg.2 eR.2 eR.1 (by omega)) (by omega)⟩
         have mj:-9223372036854775808<=el.hour+r/\el.hour+r<=9223372036854775807:=by omega
         have mm:-9223372036854775808<=f0.cB*ch/\f0.cB*ch<=9223372036854775807:=by omega
         have mw:-9223372036854775808<=el.hour+r+f0.cB*ch/\el.hour+r+f0.cB*ch<=9223372036854775807:=by omega
         have hO:σ6 Q=some (.cells CL):=by rw[aC Q ay (zj ml),<-bB Q ay];exact wl
         have gI:σ6 P=some (.cells [a,rows f0.roads,int f0.aT,int f0.eL,int f0.cB,int i]):=by rw[aC P n6 (zj m6)];exact a7
         refine aa.runN lay [] 3 ?_;simp[D,G,E,F,J,cX,cq,fq,K,ad,q2]
         obtain⟨V,hV⟩:∃V:Nat->AV,V=λj=>([.gn Q 0 i cap,int R,.ref Q (R*6),.ref Q (R*6),int el.hour,.ref P 1,rows f0.roads,.gn Q 0 i cap,int R,.ref Q (R*6),.ref Q (R*6+1),int el.place,.cp (ints rw) 0,ints rw,.ref c13 1,int e.place,.cp (int r) 0,int r,int (el.hour+r),.ref P 4,int f0.cB,.gn Q 0 i cap,int R,.ref Q (R*6),.ref Q (R*6+3),ints el.marks,.ref c13 3,ints e.marks,int ch,int (f0.cB*ch),int (el.hour+r+f0.cB*ch),.ref c 0,.sl 1 (([0,0,1,3]:adA).map int) .exact,int 0,int 0,.ref c13 0]:adF).getD j (int 0):=⟨_,rfl⟩
         have w:∀j,V j=_:=λj=>congrFun hV j
         refine aa.Qa (Im V (env.upd 96 (bool true)) σ6 c c13 (k+60+16*j+16) nums (el.hour+r+f0.cB*ch) (λz=>[int z,int e.place,int el.bX,ints e.marks,int ht,int sh])) lay.mixed (by rfl) ⟨λ_ _=>rfl,by simp,λ_=>rfl,by simp,by simp,by simp,by simp,by simp⟩ ?_ ?_
         . intro done i u S N B mx A
           have mx:i<37:=mx
           rcases(show i=0\/i=1\/i=2\/i=3\/i=4\/i=5\/i=6\/i=7\/i=8\/i=9\/i=10\/i=11\/i=12\/i=13\/i=14\/i=15\/i=16\/i=17\/i=18\/i=19\/i=20\/i=21\/i=22\/i=23\/i=24\/i=25\/i=26\/i=27\/i=28\/i=29\/i=30\/i=31\/i=32\/i=33\/i=34\/i=35\/i=36 by omega)with rfl|rfl|rfl|rfl|rfl|rfl|rfl|rfl|rfl|rfl|rfl|rfl|rfl|rfl|rfl|rfl|rfl|rfl|rfl|rfl|rfl|rfl|rfl|rfl|rfl|rfl|rfl|rfl|rfl|rfl|rfl|rfl|rfl|rfl|rfl|rfl|rfl
           . have b7:u 7=.gn Q 0 i cap:=(A.base 7 (by omega)).trans F
             refine bn lay (mu:=[]) ?_;simp[b7];exact A.next (i:=0) (by omega) B (by omega) (by omega) ((w 0).symm)
           . have eW:u 12=int R:=(A.base 12 (by omega)).trans fq
             refine bn lay (mu:=[]) ?_;simp[eW];exact A.next (i:=1) (by omega) B (by omega) (by omega) ((w 1).symm)
           . have d0:u 97=.gn Q 0 i cap:=(A.dM 0 (N 0 (by rfl)) (by omega) (by omega) (by omega)).trans (w 0)
             have d1:u 98=int R:=(A.dM 1 (N 1 (by rfl)) (by omega) (by omega) (by omega)).trans (w 1)
             refine bn lay (mu:=[]) ?_;simp[d0,d1,bA];exact A.next (i:=2) (by omega) B (by omega) (by omega) ((w 2).symm)
           . have d2:u 99=.ref Q (R*6):=(A.dM 2 (N 2 (by rfl)) (by omega) (by omega) (by omega)).trans (w 2)
             refine bn lay (mu:=[]) ?_;simp[d2];exact A.next (i:=3) (by omega) B (by omega) (by omega) ((w 3).symm)
           . have d3:u 100=.ref Q (R*6):=(A.dM 3 (N 3 (by rfl)) (by omega) (by omega) (by omega)).trans (w 3)
             have kl:=A.keep (by omega) B (y:=Q) ay;rw[hO]at kl
             refine bn lay (mu:=[]) ?_;simp[kl,l6,d3];exact A.next (i:=4) (by omega) B (by omega) (by omega) ((w 4).symm)
           . have b6:u 6=.ref P 0:=(A.base 6 (by omega)).trans E
             refine bn lay (mu:=[]) ?_;simp[b6];exact A.next (i:=5) (by omega) B (by omega) (by omega) ((w 5).symm)
           . have d5:u 102=.ref P 1:=(A.dM 5 (N 5 (by rfl)) (by omega) (by omega) (by omega)).trans (w 5)
             have k6:=A.keep (by omega) B (y:=P) n6;rw[gI]at k6
             refine bn lay (mu:=[]) ?_;simp[k6,d5];exact A.next (i:=6) (by omega) B (by omega) (by omega) ((w 6).symm)
           . have b7:u 7=.gn Q 0 i cap:=(A.base 7 (by omega)).trans F
             refine bn lay (mu:=[]) ?_;simp[b7];exact A.next (i:=7) (by omega) B (by omega) (by omega) ((w 7).symm)
           . have eW:u 12=int R:=(A.base 12 (by omega)).trans fq
             refine bn lay (mu:=[]) ?_;simp[eW];exact A.next (i:=8) (by omega) B (by omega) (by omega) ((w 8).symm)
           . have d7:u 104=.gn Q 0 i cap:=(A.dM 7 (N 7 (by rfl)) (by omega) (by omega) (by omega)).trans (w 7)
             have d8:u 105=int R:=(A.dM 8 (N 8 (by rfl)) (by omega) (by omega) (by omega)).trans (w 8)
             refine bn lay (mu:=[]) ?_;simp[d7,d8,bA];exact A.next (i:=9) (by omega) B (by omega) (by omega) ((w 9).symm)
           . have d9:u 106=.ref Q (R*6):=(A.dM 9 (N 9 (by rfl)) (by omega) (by omega) (by omega)).trans (w 9)
             refine bn lay (mu:=[]) ?_;simp[d9];exact A.next (i:=10) (by omega) B (by omega) (by omega) ((w 10).symm)
           . have pO:u 107=.ref Q (R*6+1):=(A.dM 10 (N 10 (by rfl)) (by omega) (by omega) (by omega)).trans (w 10)
             have kl:=A.keep (by omega) B (y:=Q) ay;rw[hO]at kl
             refine bn lay (mu:=[]) ?_;simp[kl,l7,pO];exact A.next (i:=11) (by omega) B (by omega) (by omega) ((w 11).symm)
           . have d6:u 103=rows f0.roads:=(A.dM 6 (N 6 (by rfl)) (by omega) (by omega) (by omega)).trans (w 6)
             have q0:u 108=int el.place:=(A.dM 11 (N 11 (by rfl)) (by omega) (by omega) (by omega)).trans (w 11)
             refine bn lay (mu:=[]) ?_;simp[d6,q0,pB,b3];refine⟨mf.1,?_⟩;rw[<-cm];exact A.next (i:=12) (by omega) B (by omega) (by omega) ((w 12).symm)
           . have q5:u 109=.cp (ints rw) 0:=(A.dM 12 (N 12 (by rfl)) (by omega) (by omega) (by omega)).trans (w 12)
             refine bn lay (mu:=[]) ?_;simp[q5];exact A.next (i:=13) (by omega) B (by omega) (by omega) ((w 13).symm)
           . have eX:u 13=.ref c13 0:=(A.base 13 (by omega)).trans K
             refine bn lay (mu:=[]) ?_;simp[eX];exact A.next (i:=14) (by omega) B (by omega) (by omega) ((w 14).symm)
           . have q7:u 111=.ref c13 1:=(A.dM 14 (N 14 (by rfl)) (by omega) (by omega) (by omega)).trans (w 14)
             have c5:=A.keep (by omega) B (y:=c13) m0;rw[a9]at c5
             refine bn lay (mu:=[]) ?_;simp[c5,q7];exact A.next (i:=15) (by omega) B (by omega) (by omega) ((w 15).symm)
           . have q9:u 110=ints rw:=(A.dM 13 (N 13 (by rfl)) (by omega) (by omega) (by omega)).trans (w 13)
             have qb:u 112=int e.place:=(A.dM 15 (N 15 (by rfl)) (by omega) (by omega) (by omega)).trans (w 15)
             refine bn lay (mu:=[]) ?_;simp[q9,qb,hr,mi];refine⟨md.1,?_⟩;rw[<-gf];exact A.next (i:=16) (by omega) B (by omega) (by omega) ((w 16).symm)
           . have qi:u 113=.cp (int r) 0:=(A.dM 16 (N 16 (by rfl)) (by omega) (by omega) (by omega)).trans (w 16)
             refine bn lay (mu:=[]) ?_;simp[qi];exact A.next (i:=17) (by omega) B (by omega) (by omega) ((w 17).symm)
           . have d4:u 101=int el.hour:=(A.dM 4 (N 4 (by rfl)) (by omega) (by omega) (by omega)).trans (w 4)
             have qj:u 114=int r:=(A.dM 17 (N 17 (by rfl)) (by omega) (by omega) (by omega)).trans (w 17)
             refine bn lay (mu:=[]) ?_;simp[d4,qj,mj.1,mj.2];exact A.next (i:=18) (by omega) B (by omega) (by omega) ((w 18).symm)
           . have b6:u 6=.ref P 0:=(A.base 6 (by omega)).trans E
             refine bn lay (mu:=[]) ?_;simp[b6];exact A.next (i:=19) (by omega) B (by omega) (by omega) ((w 19).symm)
           . have qq:u 116=.ref P 4:=(A.dM 19 (N 19 (by rfl)) (by omega) (by omega) (by omega)).trans (w 19)
             have k6:=A.keep (by omega) B (y:=P) n6;rw[gI]at k6
             refine bn lay (mu:=[]) ?_;simp[k6,qq];exact A.next (i:=20) (by omega) B (by omega) (by omega) ((w 20).symm)
           . have b7:u 7=.gn Q 0 i cap:=(A.base 7 (by omega)).trans F
             refine bn lay (mu:=[]) ?_;simp[b7];exact A.next (i:=21) (by omega) B (by omega) (by omega) ((w 21).symm)
           . have eW:u 12=int R:=(A.base 12 (by omega)).trans fq
             refine bn lay (mu:=[]) ?_;simp[eW];exact A.next (i:=22) (by omega) B (by omega) (by omega) ((w 22).symm)
           . have qs:u 118=.gn Q 0 i cap:=(A.dM 21 (N 21 (by rfl)) (by omega) (by omega) (by omega)).trans (w 21)
             have r6:u 119=int R:=(A.dM 22 (N 22 (by rfl)) (by omega) (by omega) (by omega)).trans (w 22)
             refine bn lay (mu:=[]) ?_;simp[qs,r6,bA];exact A.next (i:=23) (by omega) B (by omega) (by omega) ((w 23).symm)
           . have r9:u 120=.ref Q (R*6):=(A.dM 23 (N 23 (by rfl)) (by omega) (by omega) (by omega)).trans (w 23)
             refine bn lay (mu:=[]) ?_;simp[r9];exact A.next (i:=24) (by omega) B (by omega) (by omega) ((w 24).symm)
           . have ra:u 121=.ref Q (R*6+3):=(A.dM 24 (N 24 (by rfl)) (by omega) (by omega) (by omega)).trans (w 24)
             have kl:=A.keep (by omega) B (y:=Q) ay;rw[hO]at kl
             refine bn lay (mu:=[]) ?_;simp[kl,lp,ra];exact A.next (i:=25) (by omega) B (by omega) (by omega) ((w 25).symm)
           . have eX:u 13=.ref c13 0:=(A.base 13 (by omega)).trans K
             refine bn lay (mu:=[]) ?_;simp[eX];exact A.next (i:=26) (by omega) B (by omega) (by omega) ((w 26).symm)
           . have rb:u 123=.ref c13 3:=(A.dM 26 (N 26 (by rfl)) (by omega) (by omega) (by omega)).trans (w 26)
             have c5:=A.keep (by omega) B (y:=c13) m0;rw[a9]at c5
             refine bn lay (mu:=[]) ?_;simp[c5,rb];exact A.next (i:=27) (by omega) B (by omega) (by omega) ((w 27).symm)
           . have rh:u 122=ints el.marks:=(A.dM 25 (N 25 (by rfl)) (by omega) (by omega) (by omega)).trans (w 25)
             have ri:u 124=ints e.marks:=(A.dM 27 (N 27 (by rfl)) (by omega) (by omega) (by omega)).trans (w 27)
             refine bn lay (mu:=[]) ?_;simp[rh,ri];refine cf Tryz.func85 rfl (GY (by omega) (by omega) ?_)
             apply pg;simp;exact A.next (i:=28) (by omega) B (by omega) (by omega) (by rw[w,hL];rfl)
           . have rj:u 117=int f0.cB:=(A.dM 20 (N 20 (by rfl)) (by omega) (by omega) (by omega)).trans (w 20)
             have rm:u 125=int ch:=(A.dM 28 (N 28 (by rfl)) (by omega) (by omega) (by omega)).trans (w 28)
             refine bn lay (mu:=[]) ?_;simp[rj,rm,mm.1,mm.2];exact A.next (i:=29) (by omega) B (by omega) (by omega) ((w 29).symm)
           . have rr:u 115=int (el.hour+r):=(A.dM 18 (N 18 (by rfl)) (by omega) (by omega) (by omega)).trans (w 18)
             have rF:u 126=int (f0.cB*ch):=(A.dM 29 (N 29 (by rfl)) (by omega) (by omega) (by omega)).trans (w 29)
             refine bn lay (mu:=[]) ?_;simp[rr,rF,mw.1,mw.2];exact A.next (i:=30) (by omega) B (by omega) (by omega) ((w 30).symm)
           . have b0:u 0=.ref c 0:=(A.base 0 (by omega)).trans D
             refine bn lay (mu:=[]) ?_;simp[b0];exact A.next (i:=31) (by omega) B (by omega) (by omega) ((w 31).symm)
           . refine bn lay (mu:=[]) ?_
             simp;exact A.next (i:=32) (by omega) B (by omega) (by omega) ((w 32).symm)
           . have rG:u 128=.ref c 0:=(A.dM 31 (N 31 (by rfl)) (by omega) (by omega) (by omega)).trans (w 31)
             have rM:u 129=.sl 1 (([0,0,1,3]:adA).map int) .exact:=(A.dM 32 (N 32 (by rfl)) (by omega) (by omega) (by omega)).trans (w 32)
             refine bn lay (mu:=[]) ?_;simp[rG,rM];have rT:=A.pre B;subst rT;have s3:34∉done:=λq=>B (A.dep q)
             refine cf Tryz.func54 rfl (mW (l:=[0,0,1,3]) (by omega) hn ⟨by decide,by decide⟩ b2 λp x7 hp mA=>?_)
             apply pg;simp;exact A.SO B s3 (p:=p) (by simp at hp;omega) (mA.1.mono (by omega)) mA.2
           . have s4:u 127=int (el.hour+r+f0.cB*ch):=(A.dM 30 (N 30 (by rfl)) (by omega) (by omega) (by omega)).trans (w 30)
             have c7:=N 33 (by rfl)
             obtain⟨p,hp,FE,_⟩:=A.pick c7;have mB:-9223372036854775808<=el.hour+r+f0.cB*ch+p/\el.hour+r+f0.cB*ch+p<=9223372036854775807:=by omega
             refine bn lay (mu:=[]) ?_;simp[s4,FE,mB.1,mB.2];exact A.summed B c7 hp FE
           . have eX:u 13=.ref c13 0:=(A.base 13 (by omega)).trans K
             refine bn lay (mu:=[]) ?_;simp[eX];exact A.next (i:=35) (by omega) B (by omega) (by omega) ((w 35).symm)
           . have s5:u 132=.ref c13 0:=(A.dM 35 (N 35 (by rfl)) (by omega) (by omega) (by omega)).trans (w 35)
             have c7:=N 33 (by rfl)
             have s6:=N 34 (by rfl)
             obtain⟨p,hp,FE,FF⟩:=A.pick c7;have FF:=FF s6;obtain⟨s7,h2⟩:=A.post c7 B;have c5:=(h2 c13 m0).trans a9;refine bn lay (mu:=[]) ?_;simp[s5,FF,c5,aM]
             refine⟨A.base,λj hj g3 g4 g5=>A.dM j ((abf.1 hj).resolve_left (by omega)) g3 g4 g5,λq=>absurd (abP _ c7) q,λ_ q=>absurd (acJ ..) q,λ_=>⟨p,hp,FE,λ_=>FF⟩,λ_ j hj=>abP _ (N j ((by decide:∀j:Fin 36,jv _ j.val 36=true) ⟨j,hj⟩)),λ_=>abP _ c7,λ_=>⟨p,hp,?_,ab.ai _ _ _,λy Y y2=>by rw[ab.ah _ _ y2];exact h2 y Y⟩⟩
             obtain⟨n,z,g1,g2⟩:=s7;exact⟨n,z,g1,by rw[ab.ah _ _ (zj m0)];exact g2⟩
         . intro done vc S n2 A
           obtain⟨p,hp,g1,g2,g3⟩:=A.fin (n2 36 (by decide))
           have hb:=λ(t:Nat) (ht:t<96)=>(A.base t (by omega)).trans (lq (env:=env) (v:=bool true) (show t≠96 by omega))
           refine T _ _ ⟨el.hour+r+f0.cB*ch+p,(hb 0 (by omega)).trans D,(hb 4 (by omega)).trans G,(hb 6 (by omega)).trans E,(hb 7 (by omega)).trans F,(hb 8 (by omega)).trans J,(hb 10 (by omega)).trans cX,(hb 11 (by omega)).trans cq,(hb 12 (by omega)).trans fq,(hb 13 (by omega)).trans K,g1,g2,λy Y y2=>(g3 y Y y2).trans (aC y Y y2),by omega,λ_=>?_⟩
           have s9:rd f1.roads el.place.toNat e.place.toNat=r:=by rw[eK];unfold rd;rw[zD,zD,zU b3,abF,<-cm,zU cv,<-gf];rfl
           have sg:f1.cB=f0.cB:=by rw[eK]
           unfold N8;rw[s9,sg,<-E5 bm.marks he.marks,<-hL];show r+f0.cB*ch<=el.hour+r+f0.cB*ch+p-el.hour;omega
       . have q2:¬qf ks R>=0:=λq=>hK ((kA ks R).1 q)
         refine aa.runN lay [] 4 ?_;simp[D,G,E,F,J,cX,cq,fq,K,ad,q2];refine T _ _ ⟨e.hour,by simp[D,G,E,F,J,cX,cq,fq,K,ad],by simp[D,G,E,F,J,cX,cq,fq,K,ad],by simp[D,G,E,F,J,cX,cq,fq,K,ad],by simp[D,G,E,F,J,cX,cq,fq,K,ad],by simp[D,G,E,F,J,cX,cq,fq,K,ad],by simp[D,G,E,F,J,cX,cq,fq,K,ad],by simp[D,G,E,F,J,cX,cq,fq,K,ad],by simp[D,G,E,F,J,cX,cq,fq,K,ad],by simp[D,G,E,F,J,cX,cq,fq,K,ad],b2.mono (by omega),a9,aC,by have:=he.hour;omega,λq=>absurd q hK⟩
     clear b2 a9 aC D G E F J cX cq fq K ad
     rintro env S ⟨hr,D,G,E,F,J,cX,cq,fq,K,n3,a9,eg,si,n5⟩
     have sj:σ.del c c13=none:=by
      cases hx:σ.del c c13 with
      |none=>rfl
      |some x=>have:=b9.1 _ _ hx;rw[<-bB c13 m0,l5]at this;cases this
     have b8:(σ.del c).Le S:=λy x hy=>by
      have Y:y≠c:=λe=>by subst e;rw[b4]at hy;cases hy
      have y2:y≠c13:=λe=>by subst e;rw[sj]at hy;cases hy
      rw[eg y Y y2];exact b9.1 y x hy
     have hP:∀b x,σ' b=some x->(∀l,x≠.cells l)->S b=σ' b:=λb x hb hx=>by
      refine eg b (λe=>?_) λe=>?_
      . rw[e]at hb;obtain⟨_,_,_,q⟩:=h9;rw[q]at hb;cases hb;exact hx _ rfl
      . rw[e,<-bB c13 m0,l5]at hb;cases hb
     have dj:Tok (σ.del c) S a 6 (es.map bc):=tP b9 b8 λb hb=>by obtain⟨g1,l,g2⟩:=b9.aZ hb;exact⟨hP b _ g2 (by simp),g1⟩
     have dm:Tok (σ.del c) S hh 1 (ks.map int):=tP ec b8 λb hb=>by obtain⟨g1,l,g2⟩:=ec.aZ hb;exact⟨hP b _ g2 (by simp),g1⟩
     have t4:S X=some (.cells gi):=by rw[eg X bw (zj m4)];exact q4
     have t6:S P=some (.cells (A6 a)):=by rw[eg P n6 (zj m6)];exact q6
     have tl:S Q=some (.cells (flatten (M.map bc)++rest)):=by rw[eg Q ay (zj ml)];exact ql
     clear b9 ec q4 q6 ql a7 eg hP
     rcases Int.lt_or_le 72 hr with n7|n7
     . apply rn
       simp[D,G,E,F,J,cX,cq,fq,K,a9,n7,f3.1,f3.2];refine ih _ g1 ⟨_,S,a,hh,M,es,ks,rfl,by simp[D,G,E,F,J,cX,cq,fq,K],by simp[D,G,E,F,J,cX,cq,fq,K],by simp[D,G,E,F,J,cX,cq,fq,K],by simp[D,G,E,F,J,cX,cq,fq,K],by simp[D,G,E,F,J,cX,cq,fq,K],by simp[D,G,E,F,J,cX,cq,fq,K],by simp;omega,n3.mono (by omega),t4,t6,tl,dj,dm,gC,O,fx,ho,by omega⟩
     . have n9:¬hr>72:=by omega
       obtain⟨n1,nc⟩:∃n1:wu,n1=⟨hr,e.place,el.bX,e.marks,ht,sh⟩:=⟨_,rfl⟩;obtain⟨bq,gP⟩:∃bq,bq=flatten ((M.set R n1).map bc)++rest:=⟨_,rfl⟩;have nh:R*6+6<=CL.length:=by rw[eN,aaV,gD];omega
       have nq:aM CL (R*6) [int hr,int e.place,int el.bX,ints e.marks,int ht,int sh]=bq:=by
        have:=Bf (k:=6) (M.map bc) R (bc n1) (by rw[abi];exact fO) hz rfl
        rw[gP,acF,<-this,eN];unfold aM;rw[List.take_append_of_le_length (by omega),List.drop_append_of_le_length (by rw[gD];simp;omega),nc]
        simp
       rw[<-eN]at tl;have b5:=dj.cells;have vj:=dm.cells;have nt:S P=some (.cells [a,rows f0.roads,int f0.aT,int f0.eL,int f0.cB,int i]):=by rw[t6,ej]
       have x8:=zj ml;apply rn;simp[D,G,E,F,J,cX,cq,fq,K,a9,n9,tl,bA,nq,nh,ab.ah,h8.symm,ml,nt,b5.1,b5.2];subst nc;have so:bt a≠some Q:=λe=>by obtain⟨_,_,q⟩:=dj.aZ e;rw[tl]at q;cases q
       have ob:bt hh≠some Q:=λe=>by obtain⟨_,_,q⟩:=dm.aZ e;rw[tl]at q;cases q
       have dr:Tok (σ.del c) (S.set Q (.cells bq)) a 6 (es.map bc):=dj.beside r1 so;have oj:Tok (σ.del c) (S.set Q (.cells bq)) hh 1 (ks.map int):=dm.beside r1 ob;have vk:(es.map bc).length<=6:=by rw[abi];omega
       have vx:(ks.map int).length<=6:=by rw[abi,O.len];omega
       refine aP lay rfl rfl rfl nk rfl nk rfl zE (by decide) (by simp;omega) (σ0:=(S.set Q (.cells bq)).off a) (es:=es.map bc) (xs:=[bc ⟨hr,e.place,el.bX,e.marks,ht,sh⟩]) (by simpa using dr.here.1) (.inr ⟨_,by simp;rfl⟩) λa' hR hS=>?_
       obtain⟨dx,sr⟩:=CE oj dr (λb hb q=>gC b q hb) hS
       have gR:=hS.base dr.here.2;have k9:∀y l,(S.set Q (.cells bq)) y=some (.cells l)->hR y=some (.cells l):=λy l hy=>hS.1 _ _ (by rw[ab.dT (λe=>by obtain⟨_,_,q⟩:=dr.aZ e;rw[hy]at q;cases q)];exact hy)
       have dy:=gR.cells;apply rn;simp[D,G,E,F,J,cX,cq,fq,K,dy.1,dy.2];refine aP lay rfl rfl rfl dD rfl dD rfl rH (by decide) (by simp;omega) (σ0:=hR.off hh) (es:=ks.map int) (xs:=[int R]) (by simpa using dx.here.1) (.inr ⟨_,by simp;rfl⟩) λsy ax fc=>?_
       obtain⟨hT,ow⟩:=CE gR dx (λb hb q=>sr b q hb) fc
       have fg:=fc.base dx.here.2;have fi:=fg.cells;have gj:∀y l,hR y=some (.cells l)->ax y=some (.cells l):=λy l hy=>fc.1 _ _ (by rw[ab.dT (λe=>by obtain⟨_,_,q⟩:=dx.aZ e;rw[hy]at q;cases q)];exact hy)
       have z6:ax P=some (.cells [a,rows f0.roads,int f0.aT,int f0.eL,int f0.cB,int i]):=gj _ _ (k9 _ _ (by rw[ab.ah _ _ (zj h8)];exact nt))
       have z4:ax X=some (.cells gi):=gj _ _ (k9 _ _ (by rw[ab.ah _ _ (zj pd)];exact t4))
       have zl:ax Q=some (.cells bq):=gj _ _ (k9 _ _ (ab.ai _ _ _));apply rn;simp[D,G,E,F,J,cX,cq,fq,K,z6,aM,dy.1,dy.2,fi.1,fi.2,f3.1,f3.2];have ox:OM f0.roads.length ⟨hr,e.place,el.bX,e.marks,ht,sh⟩:=⟨⟨si.1,by omega⟩,he.place,bm.bX,he.marks,hH,gG⟩
       have oF:M.getD R se=el:=by rw[zD,zU fO,eB];rfl
       have oG:H.getD R 0=h0:=by rw[zD,zU ed,ee];rfl
       have gl:=O.push (k:=R) (n:=⟨hr,e.place,el.bX,e.marks,ht,sh⟩) bA (by rw[eK];exact ox.check) (by rw[oF]) (by rw[oG,eK];refine ON lB gG ?_;exact m3) (λq=>by rw[oF];exact n5 q)
       have gU:∀{x:AV}{kk:Nat}{l:adF},Tok (σ.del c) ax x kk l->Tok (σ.del c) (ax.set P (.cells (A6 a'))) x kk l:=λ{x kk l} hx=>hx.beside p0 (λe=>by obtain⟨_,_,q⟩:=hx.aZ e;rw[z6]at q;cases q)
       refine ih _ g1 ⟨_,ax.set P (.cells (A6 a')),a',sy,M.set R ⟨hr,e.place,el.bX,e.marks,ht,sh⟩,es++[⟨hr,e.place,el.bX,e.marks,ht,sh⟩],ks++[(R:Int)],by rw[ej],by simp[D,G,E,F,J,cX,cq,fq,K],by simp[D,G,E,F,J,cX,cq,fq,K],by simp[D,G,E,F,J,cX,cq,fq,K],by simp[D,G,E,F,J,cX,cq,fq,K],by simp[D,G,E,F,J,cX,cq,fq,K],by simp[D,G,E,F,J,cX,cq,fq,K],by simp;omega,?_,?_,ab.ai _ _ _,?_,by have:=gU hT;simpa using this,by have:=gU fg;simpa using this,λb hb=>ow b hb,gl,λx hx=>?_,λx hx=>?_,by simp;omega⟩
       . obtain⟨n,z,g1,g2⟩:=n3
         exact⟨n,z,by omega,by rw[ab.ah _ _ (zj n6)];exact gj _ _ (k9 _ _ (by rw[ab.ah _ _ (zj ay)];exact g2))⟩
       . rw[ab.ah _ _ (zj fl)];exact z4
       . rw[ab.ah _ _ h8,zl,gP]
       . rcases ace hx with hx|rfl
         . exact fx x hx
         . exact ox
       . rcases aaN.1 hx with hx|hx
         . exact ho x hx
         . simp at hx;subst hx;exact pA
   . have tc:j=qn:=by omega
     subst tc;have td:¬(j:Int)<j:=by omega
     apply rn;simp[D,G,E,F,J,cX,cq,o.1,o.2,d.1,d.2,td,q4,a7,aM];obtain⟨nb,zb,hU,h1⟩:=h9;obtain⟨f,hf⟩:∃f:Fr,f=⟨es,f0.roads,f0.aT,f0.eL,f0.cB,(i:Int)⟩:=⟨_,rfl⟩;have aE:=Fr.qh (Z.fits (by omega)) (Z.check (by omega))
     have tf:GZ cnt f ks:=by
      have gp:=Z.dW;subst eK;subst hf;refine⟨⟨⟨by grind,aE.fits.roads,aE.fits.row,λe he=>by grind⟩,aE.fr,aE.to,aE.le,aE.cB,by grind,by grind,λe he=>O.qV e he,aE.KN⟩,by grind,by grind,λr hr=>?_,ho,by grind,i,C,H,M,⟨O.len,O.SC,O.qV,O.bX,O.SD,O.fit,O.XJ,O.H8,O.SE⟩,rfl⟩
      obtain⟨t,ht,rfl⟩:=abm.1 hr;exact aaR (Nat.le_of_eq (aE.row (i:=t) ht).1) gp.2
     refine .om (a':=.cA [bI f,ints ks]) (NX rfl λi x y x1 x2=>?_) (.less (σ':=σ.set c (.cells [ints nums,int nb,.lit (.int .u64 zb)])) (λy x hy=>?_) (.done (h f ks _ tf ⟨⟨nb,zb,by omega,ab.ai _ _ _⟩,λy hy=>ab.ah _ _ hy⟩)))
     . match i with
       | 0=>
         simp at x1 x2;subst x1;subst x2;refine qm (by grind) λi x y x1 x2=>?_
         subst hf
         match i with
         |0=>simp at x1 x2;subst x1;subst x2;exact b9.W
         |1=>simp at x1 x2;subst x1;subst x2;exact .refl _
         |2=>simp at x1 x2;subst x1;subst x2;exact .refl _
         |3=>simp at x1 x2;subst x1;subst x2;exact .refl _
         |4=>simp at x1 x2;subst x1;subst x2;exact .refl _
         |5=>simp at x1 x2;subst x1;subst x2;exact .refl _
         |i+6=>simp at x1
       |1=>simp at x1 x2;subst x1;subst x2;exact ec.W
       |i+2=>simp at x1
     . by_cases Y:y=c
       . subst Y
         rw[ab.ai]at hy;rw[ab.ah _ _ n4,h1];exact hy
       . rw[ab.ah _ _ Y]at hy
         have y4:y≠X:=λe=>by grind
         rw[ab.ah _ _ y4];exact b9.1 y x (by simpa[ab.del,Y]using hy)
end
end
open Go.cz Go.Conc
theorem sk{α g}:∀{l:List α},(∀x∈l,g x=0)->fX g l=0
 |[],_=>rfl
 |a::l,h=>by rw[fX,aaK (h a (by simp))];exact sk λx q=>h x (by simp[q])
structure OP  cnt  (w:gO) (own lost:adA):Prop where
 valid:w.Valid
 Fb:nu w=0
 len:(w.fair.aA.length:Int)+w.aD.length<=cnt
 aaI:w.ways.length<=5
 lo:own.length=w.fair.aA.length
 ll:lost.length=w.aD.length
 ZL:∀e∈w.fair.aA,e.marks.length<=3
 ZM:∀c∈w.aD,c.lost.marks.length<=3
 rows:w.fair.roads.length<=3/\∀r∈w.fair.roads,r.length<=3
 ZN:∃v∈aH (ji w) [],∀i j ,i<w.fair.aA.length+w.aD.length->j<w.fair.aA.length+w.aD.length->iQ i j v=decide ((own++lost).getD i 0=(own++lost).getD j 0)
theorem QK{cnt f p}(t:GZ cnt f p)(N:cnt<=6){w}{E C:adA}(z:∀i∈E++C,0<=i/\i<f.aA.length)(hn:(E.length:Int)+C.length<=cnt)
 (W:w.fair.aA=E.map (aJ f)) (O:w.aD.map (·.lost)=C.map (aJ f)) (y:w.fair.roads=f.roads) (m:w.fair.aT=f.aT) (n:w.fair.eL=f.eL) (hd:w.fair.cB=f.cB) (X:f.aY<=w.fair.aY/\w.fair.aY<=6)
 (P:1<=w.bf/\w.bf<=4) (Y:∀x∈w.ways,qy w.bf x=0) (F:w.ways.length<=5) (Z:w.aD.length<=3) (G:∀c∈w.aD,(0<=c.town/\c.town<w.bf)/\(0<=c.hour/\c.hour<=72)/\c.lost.hour<=c.hour):
 OP cnt w (E.map λi=>p.getD i.toNat 0) (C.map λi=>p.getD i.toNat 0):=by
 have d:=t.qh;have l1:w.fair.aA.length=E.length:=by simp_all
 have l2:w.aD.length=C.length:=by rw[<-List.length_map (f:=(·.lost)),O,abi]
 have A:∀e∈w.fair.aA,e∈f.aA:=λe q=>by rw[W]at q;obtain⟨i,I,rfl⟩:=aaU.1 q;exact fI (z i (by simp[I]))
 have J:∀c∈w.aD,c.lost∈f.aA:=λc q=>by have:c.lost∈w.aD.map (·.lost):=aaU.2 ⟨c,q,rfl⟩;rw[O]at this;obtain⟨i,I,e⟩:=aaU.1 this;rw[<-e];exact fI (z i (by simp[I]))
 have gen:∀es:List wu,(∀e∈es,e∈f.aA)->es.length<=6->({w.fair with aA:=es}:Fr).Good:=λes q ql=>by
  have K:=d.aY;refine⟨⟨by grind,by show w.fair.roads.length<_;rw[y];exact d.fits.roads,by show ∀r∈w.fair.roads,_;rw[y];exact d.fits.row,λe D=>d.fits.marks e (q e D)⟩,by rw[m];exact d.fr,by rw[n];exact d.to,by rw[m,n];exact d.le,by rw[hd];exact d.cB,?_,ql,λe D=>?_,by show eT w.fair.roads=0;rw[y];exact d.KN⟩
  . grind
  . show bL w.fair.roads.length e=0
    rw[y];exact d.qV e (q e D)
 have Q:w.fair.Good:=gen w.fair.aA A (by omega)
 have R:∀c∈w.aD,(lone w.fair c.lost).Good:=λc q=>gen [c.lost] (λe D=>by simp_all) (by simp)
 have S:w.qz:=⟨Q.fits,Q.Fb,λc q=>⟨(R c q).fits,(R c q).Fb⟩,by omega,by omega⟩
 have h6:w.fair.aA.length+w.aD.length<=6:=by omega
 have T:=mq S h6
 have B:o6 f (ji w) (E++C):=⟨y,m,n,hd,X.1,z,by simp_all⟩
 obtain⟨mo,Cs,H,last,g,K⟩:=t.seen;obtain⟨v,s,h,hv⟩:=g.cY d (by omega)
 obtain⟨u,U,o⟩:=B.cY d T hv;have L:aH (ji w) []≠[]:=abW U
 have V:nu w=0:=by
  unfold nu;have a1:br w.bf 1 4=true:=by simp[br,P.1,P.2]
  have a2:fX (zL w) w.aD=0:=sk λc q=>by
   have:=G c q;have e1:br c.town 0 (w.bf-1)=true:=by simp only[br,za,aaG];omega
   have e2:br c.hour 0 72=true:=by simp only[br,za,aaG];omega
   unfold zL
   simp_all
  have a3:=(AN T).2 L;rw[a1,sk Y,a2,aaJ (by simp),aaJ (by omega),aaJ (by simp),aaJ (by omega),aaJ (by simp),aaJ (by omega),aaJ (by omega)]
 have a7:p.length=f.aA.length:=g.len;refine⟨gO.valid S V,V,by omega,F,by simp_all,by simp_all,λe q=>t.marks e (A e q),λc q=>t.marks _ (J c q),by rw[y];exact⟨t.dW,t.row⟩,u,U,λi j M hj=>?_⟩
 have hl:(E++C).length=w.fair.aA.length+w.aD.length:=by simp_all
 rw[o i j (by omega) (by omega),<-List.map_append]
 have k:∀i:Nat,i<(E++C).length->((E++C).map λi=>p.getD i.toNat 0).getD i 0=p.getD ((E++C).getD i 0).toNat 0:=λi M=>by rw[zD,abk,zU M,zD (l:=E++C),zU M];rfl
 rw[k i (by omega),k j (by omega)]
 have ri:=z _ (hQ (l:=E++C) (i:=i) (by omega))
 have rj:=z _ (hQ (l:=E++C) (i:=j) (by omega))
 generalize (E++C).getD i 0=a at *;generalize (E++C).getD j 0=b at *;have ea:a=(a.toNat:Int):=by omega
 have eb:b=(b.toNat:Int):=by omega
 rw[ach,aaG];constructor
 . intro q
   rw[ea,eb]at q;have:=yC h (by omega) (by omega) q
   omega
 . intro q
   have:=yB h (i:=a.toNat) (j:=b.toNat) (by omega) (by omega) q
   grind
