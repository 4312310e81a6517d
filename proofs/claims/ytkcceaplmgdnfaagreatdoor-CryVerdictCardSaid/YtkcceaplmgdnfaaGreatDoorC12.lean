import Derived.Test.YtkcceaplmgdnfaaGreatDoorC11
set_option linter.all false
namespace Go.cG
section
open Go.Conc
open Go.ConcN (sumTo upd sumTo_upd upd_ne upd_same)
section
variable{P:adS}{A:bH}{Fin:acP}{Z:Base}{s:MS P}{f:Nat->Node P}{q:adI}{kk:adN}{OO:adM}{J M:adC}{gs:acX}{gsz:Nat}{w:World}{t u:Trace}{j:Nat}{g:adF}{x:bn P}{xo:Own}{a:gn}
def de.give(Y:A.b+A.n+1<=Z.lk)(h:de P A Z s kk OO J M gsz w t)(hj:j<A.n)(k:(s.w j).work=true)(D:x.work=true)(O:∀l,l<A.n->(s.w l).owns=true->l=j)(R:x.owns=false)(S:bO A.n (s.aW j x s.sh))(T:kK (kk (A.b+j)) xo a)(E:A.GI a)(F:x.iF=(s.w j).iF)(U:A.dir=true->(kk (A.b+j)).cell A.fb (A.cell j)=some (A.val j))(V:∀op∈u,op.act.touch?=none/\∀a,op.act≠.mark (.release a)):
 de P A Z (s.aW j x s.sh) (oV kk Z.lk (A.b+j)) (fP OO Z.lk (A.b+j) A.mb A.fb xo) J M gsz w (t++u):=by
 have W:A.b+j≠Z.lk:=by omega
 have p:x.busy=(s.w j).busy:=by rw[(bC k).2.2.2.2.2.1,(bC D).2.2.2.2.2.1]
 have G:∀l,l≠Z.lk->oV kk Z.lk (A.b+j) l=kk l:=λl d=>az _ _ d
 have H:oV kk Z.lk (A.b+j) Z.lk=kk (A.b+j):=au _ _ _;have eO:∀l,l≠A.b+j->l≠Z.lk->fP OO Z.lk (A.b+j) A.mb A.fb xo l=OO l:=λl k D=>by unfold fP;rw[az _ _ D,az _ _ k]
 have z:fP OO Z.lk (A.b+j) A.mb A.fb xo (A.b+j)=((OO (A.b+j)).del A.mb).del A.fb:=by unfold fP;rw[az _ _ W,au]
 have f:fP OO Z.lk (A.b+j) A.mb A.fb xo Z.lk=ak.bot.set A.mb xo:=by unfold fP;rw[au]
 have B:bS P A s (A.b+j):=iQ h.I hj (bC k).2.2.2.2.1
 have C:∀l,l<A.n->((s.aW j x s.sh).w l).owns=false:=λl d=>by
  by_cases e:l=j
  . subst e;rw[aX];exact R
  . rw[cy e]
    grind
 refine⟨S,h.size,h.dd,h.off,λhd l d=>⟨λr=>?_,λQ=>?_⟩,h.Ao,h.mu,h.gr,h.vL,h.zB,λi=>?_,λi=>?_,λi y v=>?_,λl d K=>?_,λK=>?_,λc L=>?_,
  λi=>by rw[h.hJ i];exact(oT hj p i).symm,h.vN u,h.mR u,h.kr u (λop g a N=>by grind),h.oR u (λop g a N=>by grind),h.qk u,h.jE u (λop g=>(V op g).2),λi d hb=>?_,h.te,h.jZ,h.fq,h.la,by simp;exact aaG h.n0 (abu _ _)⟩
 . have r:(s.w l).iF=false:=by
    by_cases e:l=j
    . subst e;rw[aX,F]at r;exact r
    . rw[cy e]at r;exact r
   refine⟨λi=>?_,λm a X N q q'=>(dV N).elim (λk=>((h.zi hd l d).1 r).2 m a X k.1 q q') (λ⟨op,g,k⟩=>by grind)⟩
   have k:=((h.zi hd l d).1 r).1
   grind
 . rw[G _ (by omega)]
   by_cases e:l=j
   . grind
   . rw[cy e]at Q;exact(h.zi hd l d).2 Q
 . by_cases o:i=Z.lk
   . subst o;rw[f];simp only[ak.set,A.d3,A.d6,Rp];exact⟨λ_=>rfl,rfl⟩
   by_cases e:i=A.b+j
   . subst e;rw[z]
     have:=h.gL (A.b+j);simp only[ak.del,A.d1,A.d3,za A.d4,A.d6,Rp];exact this
   . rw[eO i e o];exact h.gL i
 . by_cases o:i=Z.lk
   . subst o;rw[H];exact h.eD _
   . rw[G i o];exact h.eD i
 . exfalso
   by_cases o:i=Z.lk
   . subst o;rw[f]at v
     simp only[ak.set,A.d5,Rp]at v;cases v
   by_cases e:i=A.b+j
   . subst e;rw[z]at v;simp[ak.del]at v
   . rw[eO i e o]at v
     obtain⟨l,_,d,h3,ho,_⟩:=h.tok i y v
     grind
 . grind
 . refine⟨xo,a,by rw[f];simp[ak.set],by grind,E⟩
 . rw[f]at L
   refine⟨?_,C⟩
   by_cases e:c=A.mb
   . exact e
   . simp only[ak.set,e,Rp]at L;exact absurd rfl L
 . have e:i≠A.b+j:=λe=>hb (e ▸ B)
   rw[G i d,eO i e d];exact h.Dp i d hb
variable(C:gF P A.nm)(X:gJ P A.nm)
include C X in
def PJ(z:A.b+A.n+1<=Z.lk)(S:bD (bX P A Fin Z z) Z s f q kk OO J M gs w t)(hj:j<A.n){Y:wA P}(o:s.w j=.un .ur Y)(hg:gs[A.b+j]?=some g)(W:HI P A j (.un .ur Y) (kk (A.b+j)) (OO (A.b+j)) g)(sl:acS):
 Goes P A Fin Z z s gs w t sl (A.b+j):=by
 have u:de P A Z s kk OO J M gs.size w t:=S.ex;have B:=bf (P:=P) (A:=A) (Fin:=Fin) (Z:=Z) z;have T:(s.w j).ku=true:=by rw[o];rfl
 have U:=iZ T;have a7:(s.w j).pc=.held:=by rw[o];rfl
 have hb:=A.hb;have d:A.b+j≠Z.lk:=by omega
 have a8:(A.b+j==0)=false:=by simp;omega
 have D:∀l,l<A.n->(s.w l).owns=true->l=j:=λl E e=>Dx u.I hj a7 E e
 obtain⟨kind,c,rest,hk,hM,hm,a9,aO⟩:=W;obtain⟨tf,xo,a,b0,CJ,ab,ad,al,hN⟩:=a9 (.inr rfl);obtain⟨g1,F,hr,g2,⟨k,G⟩,H⟩:=Hw (Wd:=ln A) (main:=false) (w:=w) C X hM;rw[<-u.la]at F;have av:oV kk Z.lk (A.b+j) (A.b+j)=kk (A.b+j):=az _ _ d;have ax:fP OO Z.lk (A.b+j) A.mb A.fb xo (A.b+j)=((OO (A.b+j)).del A.mb).del A.fb:=by unfold fP;rw[az _ _ d,au]
 have K:=runT_crowd_go (P:=P) (sl:=sl) (i:=A.b+j) hg (by rw[a8];exact F)
 have ay:=ja (P:=P) (A:=A) (s:=s) hj T
 have p:Deaf t (A.b+j)=0:=by obtain⟨_,_,p,_⟩:=S.walk _ ay;rw[p];show dN P A s (A.b+j)=0;rw[eM hj,o];rfl
 have L:∀op∈MemOp.ofEvents (A.b+j) g.frame.fn g.frame.place #[⟨.mark (.releaseMerge Z.la),false,true⟩],op.g=A.b+j:=λop v=>by obtain⟨e,_,rfl⟩:=zR v;rfl
 have aC:∀op∈MemOp.ofEvents (A.b+j) g.frame.fn g.frame.place #[⟨.mark (.releaseMerge Z.la),false,true⟩],op.act.touch?=none/\∀a,op.act≠.mark (.release a):=λop v=>by obtain⟨e,he,rfl⟩:=zR v;simp at he;subst he;exact⟨rfl,λa h=>by simp[MemAct.ofEvent]at h⟩
 have N:A.fb<w.heap.size:=by obtain⟨c,e,T⟩:=u.vL;exact(zs.1 T).1
 have Q:∀c,OO Z.lk c=none:=λc=>by
  cases e:OO Z.lk c with
  |none=>rfl
  | some y=>
    have:=(u.OZ c (by rw[e];simp)).2 j hj
    rw[o]at this;cases this
 have hP:=S.cN.U1 (fb:=A.fb) d CJ Q (by rw[u.la];exact N) p g.frame.fn g.frame.place
 obtain⟨x,m⟩:∃x:bn P,x=.un .ud Y:=⟨_,rfl⟩;have V:x.work=true:=by rw[m];rfl
 have r:((s.aW j x s.sh).w j).ku=true:=by rw[aX,m];rfl
 have hI:bO A.n (s.aW j x s.sh):=u.I.still hj U V (by rw[m];rfl) (by rw[m,o];rfl)
 have hL:MS.gq A.n (s.aW j x s.sh) s:=l9 hj U V (by rw[m,o];rfl) (by rw[m,o];rfl) (by rw[m,o];simp[bn.ex])
 have aE:=u.give z hj U V D (by rw[m];rfl) hI ab ad (by rw[m,o];rfl) al aC
 have aL:Beside (bX P A Fin Z z) s (s.aW j x s.sh) f f q (upd q (A.b+j) k) kk (oV kk Z.lk (A.b+j)) OO (fP OO Z.lk (A.b+j) A.mb A.fb xo) J J w (A.b+j) g g1:=mS z hj U V (λi R=>rfl) (λi R=>upd_ne q k R) (λi R ht=>az _ _ (show i≠Z.lk by omega)) (λi R ht=>by unfold fP;rw[az _ _ (show i≠Z.lk by omega),az _ _ R]) (λ_ h=>h) (.inl λh=>h) (λ{i k O y} H=>B.kU (s:=s) (i:=i) (k:=k) (O:=O) (g:=y) H)
 refine⟨_,_,K,s.aW j x s.sh,f,upd q (A.b+j) k,oV kk Z.lk (A.b+j),fP OO Z.lk (A.b+j) A.mb A.fb xo,J,M,_,_,_,rfl,hL,?_⟩;refine bD.step B S hg L hP aE (λl y E H=>B.th u E _ _ H) aL ⟨λE=>absurd E (mT hj r),λ_=>⟨mT hj r,?_,?_,g2,?_,?_⟩,λhh=>absurd hh (qo hj r),λ_ hn _=>absurd (ja hj r) hn⟩
 . show A.b+j<A.b+A.n+1;omega
 . rw[Deaf_own,p]
   show _=dN P A (s.aW j x s.sh) (A.b+j);rw[eM hj,aX,m];rfl
 . refine .inr (.inl ⟨j,hj,rfl,?_⟩)
   rw[aX,m,av,ax];exact⟨kind,c,rest,hk,H,hm,λh=>absurd h (by simp),λ_=>hN⟩
 . exact .inr (by rw[upd_same];exact G)
end
section
variable{P:adS}{A:bH}{Fin:acP}{Z:Base}{s:MS P}{f:Nat->Node P}{q:adI}{kk:adN}{OO:adM}{J M:adC}{gs:acX}{w w':World}{t:Trace}{j:Nat}{x:bn P}{sh:Mu.Sh}{g g1:adF}
def Dy(n:Nat):20<=BU n:=by unfold BU;omega
def qY{X:Node P}{h:Bool}(hj:j<A.n)(a:s.w j=.run h X){y:Node P}(b:x.nd=some y)(c:x.work=true)(hu:y=X\/Relation.TransGen pN y X)
 (hi:4*Mu.meas A.n (Mu.set (λi=>(s.w i).pc) j x.pc) sh+x.ex A.n<4*Mu.meas A.n (λi=>(s.w i).pc) s.sh+2*BU A.n):MS.gq A.n (s.aW j x sh) s:=by
 have d:(s.w j).work=true:=by rw[a];rfl
 rcases hu with rfl|hu
 . exact wQ hj d c (by rw[b,a];rfl) (by rw[a];exact hi)
 . exact BW hj d c ⟨y,X,b,by rw[a];rfl,hu⟩
variable(C:gF P A.nm)(X:gJ P A.nm)(F:mI P A.nm)
include C X F in
def IT(D:A.b+A.n+1<=Z.lk)(H:bD (bX P A Fin Z D) Z s f q kk OO J M gs w t)(hj:j<A.n){h:Bool}{X0:Node P}(a:s.w j=.run h X0){Y:wA P}(hf:f (A.b+j)=Y.node)(hl:Q4 P A j Y.k Y.O Y.g Y.N)(sl:acS):
 Goes P A Fin Z D s gs w t sl (A.b+j):=by
 have B:de P A Z s kk OO J M gs.size w t:=H.ex;obtain⟨_,d,l,r,u,_,E,_,y⟩:=H.live _ (kz hj a);rw[hf]at d l r u y;have d:gs[A.b+j]?=some Y.g:=d;have r:Y.k=kk (A.b+j):=r;have u:Y.O=OO (A.b+j):=u;have l:Y.m=iE P A j:=by have:Y.m=cq P A Fin s (A.b+j):=l;rw[this,nX hj a]
 obtain⟨kind,c,rest,e,hk,hg,K,z,G,L⟩:=hl;rw[r]at z L;rw[u]at K L
 have hh:h=false:=by
  cases h with
  |false=>rfl
  |true=>exact absurd K (B.zC j hj (by rw[a];rfl))
 subst hh;have Q:(s.w j).work=true:=by rw[a];rfl
 have v:(s.w j).pc=.out:=by rw[a];rfl
 have hu:=y j false X0 hj rfl a Y.node (.inl rfl) trivial;obtain⟨g2,⟨n,p⟩,R⟩:=rR (P:=P) (n:=A.nm) (b:=A.fb) (o:=A.fo) (kind:=kind) (cs:=c::rest) (Wd:=ln A) F;rw[<-hg]at p;have a9:=Dy A.n;cases n with
 | zero=>
   have e0:Y.g=g2:=p;rw[<-e0]at R;obtain⟨g1,S,hr,g3,⟨k,T⟩,U⟩:=BN (Wd:=ln A) (main:=false) (w:=w) C X R;refine Dt (x:=.lk .iC Y) (sh:=s.sh) D H hj Q E (j7 hj a) rfl (by rw[a];rfl) (λ_=>by rw[a];rfl) (B.I.Yn hj Q rfl rfl v rfl) (qY hj a rfl rfl hu ?_) d S (bg rfl) B.mu (λe he=>by simp at he;subst he;exact .inl (.inl rfl)) rfl ⟨k,g3,T,kind,c,rest,e,hk,U,l,K,z,G,L⟩ (.inl λV=>V) sl
   show 4*Mu.meas A.n (Mu.set (λi=>(s.w i).pc) j .iC) s.sh+0<_
   rw[Ds hj v];unfold BU;omega
 | succ n=>
   obtain⟨g1,⟨ab,W⟩,a7⟩:=p;have a8:ln A w:=(bf (P:=P) (A:=A) (Fin:=Fin) (Z:=Z) D).wd B;refine Dt (x:=.lk .ld Y) (sh:=s.sh) D H hj Q E (j7 hj a) rfl (by rw[a];rfl) (λ_=>by rw[a];rfl) (B.I.still hj Q rfl rfl (by rw[v];rfl)) (qY hj a rfl rfl hu ?_) d (W false w a8) (bg rfl) B.mu fN rfl ⟨n,g2,a7,kind,c,rest,e,hk,R,l,K,z,G,L⟩ (.inl λV=>V) sl
   have e1:Mu.set (λi=>(s.w i).pc) j (bn.lk .ld Y).pc=λi=>(s.w i).pc:=by
    have:=jF (λi=>(s.w i).pc) j
    rw[show(s.w j).pc=(bn.lk .ld Y).pc from v]at this
    exact this
   rw[e1];show _+BU A.n<_;omega
end
section
variable{P:adS}{A:bH}{Fin:acP}{Z:Base}{s:MS P}{f:Nat->Node P}{q:adI}{kk:adN}{OO:adM}{J M:adC}{gs:acX}{w w':World}{t:Trace}{j:Nat}{x:bn P}{sh:Mu.Sh}{g g1:adF}
variable(C:gF P A.nm)(X:gJ P A.nm)(F:mI P A.nm)
include C X F in
def Dz(H:A.b+A.n+1<=Z.lk)(R:bD (bX P A Fin Z H) Z s f q kk OO J M gs w t)(hj:j<A.n){h:Bool}{X0:Node P}(d:s.w j=.run h X0){Y:wA P}(hf:f (A.b+j)=Y.node)(hl:HG P A j Y.k Y.O Y.g (Ff P A Y.N))(sl:acS):
 Goes P A Fin Z H s gs w t sl (A.b+j):=by
 have D:de P A Z s kk OO J M gs.size w t:=R.ex;obtain⟨_,e,p,y,z,_,K,_,B⟩:=R.live _ (kz hj d);rw[hf]at e p y z B;have e:gs[A.b+j]?=some Y.g:=e;have y:Y.k=kk (A.b+j):=y;have z:Y.O=OO (A.b+j):=z;have p:Y.m=iE P A j:=by have:Y.m=cq P A Fin s (A.b+j):=p;rw[this,nX hj d]
 obtain⟨kind,c,rest,tf,xo,a,hk,hg,E,CJ,L,T,Q,U⟩:=hl;rw[y]at L Q U;rw[z]at E CJ U
 have hh:h=true:=by
  obtain⟨l,_,hl,h2,h3,_⟩:=D.tok _ _ E;obtain rfl:l=j:=by omega
  rw[d]at h3;exact h3
 subst hh;have S:(s.w j).work=true:=by rw[d];rfl
 have G:(s.w j).pc=.held:=by rw[d];rfl
 have hu:=B j true X0 hj rfl d Y.node (.inl rfl) trivial;obtain⟨g2,⟨n,r⟩,V⟩:=pG (P:=P) (n:=A.nm) (b:=A.fb) (o:=A.fo) (kind:=kind) (cs:=c::rest) (Wd:=ln A) F;rw[<-hg]at r;have al:=Dy A.n
 have e1:Mu.set (λi=>(s.w i).pc) j .held=λi=>(s.w i).pc:=by
  have:=jF (λi=>(s.w i).pc) j
  rw[show(s.w j).pc=.held from G]at this
  exact this
 have u:∃f x a,OO (A.b+j) A.fb=some (.part f)/\OO (A.b+j) A.mb=some x/\kK (kk (A.b+j)) x a/\A.GI a/\(A.dir=true->(kk (A.b+j)).cell A.fb (A.cell j)=some (A.val j))/\Ff P A Y.N (kk (A.b+j)) (((OO (A.b+j)).del A.mb).del A.fb) (ki kind c rest (.tuple #[])):=⟨tf,xo,a,E,CJ,L,T,Q,U⟩;cases n with
 | zero=>
   have e0:Y.g=g2:=r;rw[<-e0]at V;obtain⟨v,hv⟩:=((bf (P:=P) (A:=A) (Fin:=Fin) (Z:=Z) H).wd D).2.2;obtain⟨g1,W,hr,g3,⟨k,a7⟩,a8⟩:=xQ (Wd:=ln A) (main:=false) (w:=w) C X (λw h=>h.2.2) hv V
   refine Dt (x:=.un .ur Y) (sh:=s.sh) H R hj S K (j7 hj d) rfl (by rw[d];rfl) (λ_=>by rw[d];rfl) (D.I.still hj S rfl rfl (by rw[G];rfl)) (qY hj d rfl rfl hu ?_) e W (bg rfl) D.mu fN rfl ⟨k,g3,a7,kind,c,rest,hk,a8,p,λ_=>u,λh=>absurd (.inr rfl) h⟩ (.inl λh0=>h0) sl
   show 4*Mu.meas A.n (Mu.set (λi=>(s.w i).pc) j .held) s.sh+4<_
   rw[e1];omega
 | succ n=>
   obtain⟨g1,⟨av,a9⟩,ab⟩:=r;have ad:ln A w:=(bf (P:=P) (A:=A) (Fin:=Fin) (Z:=Z) H).wd D;refine Dt (x:=.un .Ht Y) (sh:=s.sh) H R hj S K (j7 hj d) rfl (by rw[d];rfl) (λ_=>by rw[d];rfl) (D.I.still hj S rfl rfl (by rw[G];rfl)) (qY hj d rfl rfl hu ?_) e (a9 false w ad) (bg rfl) D.mu fN rfl ⟨n,g2,ab,kind,c,rest,hk,V,p,λ_=>u,λh=>absurd (.inl rfl) h⟩ (.inl λh0=>h0) sl
   show 4*Mu.meas A.n (Mu.set (λi=>(s.w i).pc) j .held) s.sh+5<_
   rw[e1];omega
end
section
variable{P:adS}{A:bH}{Z:Base}{s:MS P}{kk:adN}{OO:adM}{J M:adC}{gsz:Nat}{w w':World}{t:Trace}
def de.U2(h:de P A Z s kk OO J M gsz w t)(a:MW A.gb 0 w w'):Calm Z w w':=by obtain⟨d,c,_⟩:=oU a h.zB;have:=h.fq.2.2;exact⟨a.1,λb hb=>c b (by omega)⟩
def de.U3(h:de P A Z s kk OO J M gsz w t)(d:MW A.gb 0 w w'):∀b,Kept kk OO w w' b:=λb=>by
 obtain⟨p,f,c,e,g,j,k,l,q⟩:=oU d h.zB;by_cases hb:b=A.gb
 . subst hb
   refine .inr (.inr ⟨c,g,e,j,k,l,λi x a=>(by rw[(h.gL i).2]at a;cases a),λn=>?_⟩);by_cases m:n=0
   . subst m;exact .inr λi=>(h.eD i).2.2.1
   . by_cases o:n=1
     . subst o;exact .inr λi=>(h.eD i).2.2.2
     simp_all
 . exact .inl (f b hb)
def de.Q8(h:de P A Z s kk OO J M gsz w t){n:Nat}(a:n=0\/n=1):La kk OO w.heap.size (.cell ⟨A.gb,n,none⟩):=by
 have b:A.gb<w.heap.size:=by obtain⟨c,e,d⟩:=h.zB;grind
 refine⟨b,λi=>⟨dY (h.gL i).2,?_⟩⟩
 rcases a with rfl|rfl
 . exact(h.eD i).2.2.1
 . exact(h.eD i).2.2.2
def de.L1(h:de P A Z s kk OO J M gsz w t){es:ads}(p:EvM A.gb 0 es){i:Nat}(hi:bS P A s i)(fn:FuncId)(pos:String):
 BX kk OO w.heap.size t i (MemOp.ofEvents i fn pos es)/\(∀op∈MemOp.ofEvents i fn pos es,op.act.low w.heap.size)/\(∀op∈MemOp.ofEvents i fn pos es,(∀a,op.act.touch?=some a->a.kind=.atomic/\zh A a.loc)/\∀a,op.act≠.mark (.release a))/\
 ∀op∈MemOp.ofEvents i fn pos es,∀a,op.act.touch?=some a->Z.Shun a.loc:=by
 have v:A.gb<w.heap.size:=by obtain⟨c,e,j⟩:=h.zB;grind
 refine⟨λop d a k=>?_,λop d=>?_,λop d=>?_,λop d a k=>?_⟩<;>obtain⟨e,l,rfl⟩:=zR d<;>obtain⟨o,q,x⟩:=nW (p e l)
 . obtain⟨j,n,f,g⟩:=o a k
   have f:n=0\/n=1:=by omega
   refine⟨j,λ_=>by rw[g];exact h.Q8 f,λm b hb r u=>h.quiet m b hb ?_ u i hi⟩
   rw[r,g];exact⟨rfl,.inr ⟨rfl,f⟩⟩
 . grind
 . refine⟨λa k=>?_,q⟩
   obtain⟨j,n,f,g⟩:=o a k;exact⟨j,by rw[g];exact⟨rfl,.inr ⟨rfl,by omega⟩⟩⟩
 . obtain⟨j,n,f,g⟩:=o a k
   have f:n=0\/n=1:=by omega
   rw[g];exact h.te _ ⟨rfl,.inr ⟨rfl,f⟩⟩ ⟨_,rfl,rfl⟩
def IU{Z:Base}{J M:adC}{t u:Trace}{i m:Nat}{op:MemOp}{a:Touch}(e:u[m]?=some op)(f:op.act.touch?=some a)(b:Z.Shun a.loc)(c:a.kind=.atomic)(d:¬(t++u).counts (t.size+m)):Told Z J M (t++u) (t.size+m) a:=.inr (.inr (.inr ⟨b,c,λh=>absurd h d⟩))
end
end
section
open Go.Conc
open Go.ConcN (sumTo upd sumTo_upd upd_ne upd_same)
variable{P:adS}
section
variable{s:MS P}{j n:Nat}{x:bn P}{sh:Mu.Sh}
def tz(hj:j<n)(h:x.cx<(s.w j).cx):MS.gq n (s.aW j x sh) s:=by
 have:=tx (s:=s) (x:=x) (sh:=sh) bn.cx hj;refine .inl ?_;show s.ms.cx+sumTo n (λi=>((s.aW j x sh).w i).cx)+s.c.cx s.gc<s.ms.cx+sumTo n (λi=>(s.w i).cx)+s.c.cx s.gc;omega
def bO.wT(I:bO n s)(hj:j<n)(a:(s.w j).BV=true)(b:x.BV=true)(c:x.iP=(s.w j).iP\/s.d=true)(e:x.ok=true)(f:x.pc=(s.w j).pc):bO n (s.aW j x s.sh):=I.same hj a b c e (by rw[f,jF (λi=>(s.w i).pc)];exact I.mu)
end
end
section
open Go.Conc
open Go.ConcN (sumTo upd sumTo_upd upd_ne upd_same)
section
variable{P:adS}{A:bH}{Fin:acP}{Z:Base}{s:MS P}{f f':Nat->Node P}{q q':adI}{kk kk':adN}{OO OO':adM}{J J' M:adC}{gs:acX}{w w':World}{t:Trace}{j:Nat}{x:bn P}{sh:Mu.Sh}{g g1:adF}
def mU(hj:j<A.n){p:wP}(e:s.w j=.dn p):gK P A s (A.b+j):=.inr (.inl ⟨j,hj,rfl,by simp_all⟩)
def kA(hj:j<A.n){p:wP}(e:s.w j=.dn p):¬dE P A s (A.b+j):=by
 have:=A.hb;rintro(⟨e,_⟩|⟨l,a,c,d⟩|⟨e,_⟩)
 . omega
 . simp_all
 . omega
def qp(hj:j<A.n){p:wP}(e:s.w j=.dn p):¬fD P A s (A.b+j):=by
 have:=A.hb;rintro(⟨e,_⟩|⟨l,a,c,d⟩)
 . omega
 simp_all
end
section
variable{P:adS}{A:bH}{Fin:acP}{Z:Base}{s:MS P}{f:Nat->Node P}{q:adI}{kk:adN}{OO:adM}{J M:adC}{gs:acX}{gsz:Nat}{w w':World}{t u:Trace}{j:Nat}{x:bn P}{sh:Mu.Sh}{g:adF}
variable(C:gT P A.ng)(X:iN P A.ng)
include C X in
def PL(z:A.b+A.n+1<=Z.lk)(L:bD (bX P A Fin Z z) Z s f q kk OO J M gs w t)(hj:j<A.n)(d:s.w j=.dn .d2)(hg:gs[A.b+j]?=some g)(N:HI P A j (.dn .d2) (kk (A.b+j)) (OO (A.b+j)) g)(sl:acS):
 Goes P A Fin Z z s gs w t sl (A.b+j):=by
 have r:de P A Z s kk OO J M gs.size w t:=L.ex;have B:=bf (P:=P) (A:=A) (Fin:=Fin) (Z:=Z) z;have hb:=A.hb;have Q:(A.b+j==0)=false:=by simp;omega
 obtain⟨fw,fn,tmps,todo,R,D,hM⟩:=N;obtain⟨g1,S,hr,g2,⟨k,E⟩,F⟩:=W6 (Wd:=ln A) (main:=false) (w:=w) C X hM;obtain⟨x,o⟩:∃x:bn P,x=.dn .d4:=⟨_,rfl⟩;have c:(s.aW j x s.sh).w j=.dn .d4:=by rw[aX,o]
 have T:=mU (P:=P) (A:=A) (s:=s) hj d
 have u:Deaf t (A.b+j)=0:=by obtain⟨_,_,u,_⟩:=L.walk _ T;rw[u];show dN P A s (A.b+j)=0;rw[eM hj,d];rfl
 have G:=runT_crowd_go (P:=P) (sl:=sl) (i:=A.b+j) hg (by rw[Q];exact S)
 have H:bS P A s (A.b+j):=iQ r.I hj (by rw[d];rfl)
 obtain⟨y1,y2,y3,y4⟩:=r.L1 (es:=#[⟨.mark .disable,false,true⟩]) (λe K=>by simp at K;subst K;exact .inl (.inl rfl)) H g.frame.fn g.frame.place
 have p:∀op∈MemOp.ofEvents (A.b+j) g.frame.fn g.frame.place #[⟨.mark .disable,false,true⟩],op.g=A.b+j:=λop v=>by obtain⟨e,_,rfl⟩:=zR v;rfl
 have U:∀op∈MemOp.ofEvents (A.b+j) g.frame.fn g.frame.place #[⟨.mark .disable,false,true⟩],op.act.touch?=none:=λop v=>by obtain⟨e,K,rfl⟩:=zR v;simp at K;subst K;rfl
 have hP:=L.cN.Q5 (i:=A.b+j) (w':=w) p rfl ⟨⟨.refl _,rfl⟩,λ_ _=>rfl⟩ (λb=>.inl rfl) y2 y1 (λm op a h1 h2 _=>by rw[U op (abd h1)]at h2;cases h2)
 have hI:bO A.n (s.aW j x s.sh):=r.I.wT hj (by rw[d];rfl) (by rw[o];rfl) (.inl (by rw[o,d];rfl)) (by rw[o];rfl) (by rw[o,d];rfl)
 have hL:MS.gq A.n (s.aW j x s.sh) s:=tz hj (by rw[o,d];simp[bn.cx])
 have V:=r.xY (x:=x) (sh:=s.sh) (w':=w) hj (by rw[o,d];rfl) (by rw[o,d];rfl) (λ_=>by rw[o,d];rfl) hI r.mu (λ_ _=>rfl) r.vL y3
 have W:Beside (bX P A Fin Z z) s (s.aW j x s.sh) f f q (upd q (A.b+j) k) kk kk OO OO J J w (A.b+j) g g1:=qm z hj (by rw[o,d];rfl) (λi hi=>rfl) (λi hi=>upd_ne q k hi) (λ_ _ _=>rfl) (λ_ _ _=>rfl) (λ_ _ h=>h) (.inl λh=>h) (λ{i k O y} F=>B.kU (s:=s) (i:=i) (k:=k) (O:=O) (g:=y) F)
 refine⟨_,_,G,s.aW j x s.sh,f,upd q (A.b+j) k,kk,OO,J,M,_,_,_,rfl,hL,?_⟩;refine bD.step B L hg p hP V (λl y Y F=>B.th r Y _ _ F) W ⟨λY=>absurd Y (kA hj c),λ_=>⟨kA hj c,?_,?_,g2,?_,?_⟩,λhh=>absurd hh (qp hj c),λ_ hn _=>absurd (mU hj c) hn⟩
 . show A.b+j<A.b+A.n+1;omega
 . rw[Deaf_own,u]
   show _=dN P A (s.aW j x s.sh) (A.b+j);rw[eM hj,c];rfl
 . refine .inr (.inl ⟨j,hj,rfl,?_⟩)
   rw[c];exact⟨fw,fn,tmps,todo,R,D,F⟩
 . exact .inr (by rw[upd_same];exact E)
end
section
variable{Z:Base}{kk:adN}{OO:adM}{J M:adC}{w:World}{t:Trace}
def cB.bU(h:cB Z kk OO J M w t){i:Nat}{ad:Addr}(o:ad.block<w.heap.size)(hd:Deaf t i=0)(fn:FuncId)(pos:String):
 cB Z kk OO (λl=>J l/\l≠i) (λp=>M p\/p=t.size) w (t++MemOp.ofEvents i fn pos #[⟨.mark (.releaseMerge ad),false,true⟩]):=by
 obtain⟨u,A⟩:∃u,u=MemOp.ofEvents i fn pos #[⟨.mark (.releaseMerge ad),false,true⟩]:=⟨_,rfl⟩;have d:u=#[⟨i,fn,pos,.mark (.releaseMerge ad)⟩]:=by rw[A,ofEvents_eq];simp[MemAct.ofEvent]
 rw[<-A];have B:∀op∈u,op.act.touch?=none:=λop c=>by rw[d]at c;simp at c;subst c;rfl
 have f:∀op∈u,op.g=i:=λop c=>by grind
 have q:u[0]?=some ⟨i,fn,pos,.mark (.releaseMerge ad)⟩:=by grind
 exact h.uH (λa b=>a=b) rfl ⟨⟨.refl _,rfl⟩,λ_ _=>rfl⟩ (λb=>.inl rfl) (λop c=>by rw[d]at c;simp at c;subst c;simpa[MemAct.low]using o) (λa b e n y _ _ _ C=>by subst e;exact C.app u)
  (λj b n v h=>⟨j,rfl,h⟩) (λj b s h=>⟨j,rfl,h⟩) (λj b x h=>⟨j,rfl,h,λ_ h=>h⟩) h.jA
  (λsaid=>noRace_append (h.clean said) f λn a r op c b hb _=>by simp_all) (λop c a r=>by simp_all) (λm op a c r=>by grind)
  (fun n a r D h=>h.elim (λ⟨j,z,k⟩=>by
    by_cases e:j=i
    . subst e;exact .inr (.inr (.inl ⟨t.size+0,.inr rfl,lU k q rfl⟩))
    . exact .inr (.inl ⟨j,⟨z,e⟩,k.app _⟩)) (λ⟨p,z,k⟩=>.inr (.inr (.inl ⟨p,.inl z,k.app _⟩))))
end
section
variable{P:adS}{A:bH}{Fin:acP}{Z:Base}{s:MS P}{f:Nat->Node P}{q:adI}{kk:adN}{OO:adM}{J M:adC}{gs:acX}{gsz:Nat}{w w':World}{t u:Trace}{j:Nat}{x:bn P}{sh:Mu.Sh}{g:adF}
def de.bU(h:de P A Z s kk OO J M gsz w t)(hj:j<A.n)(z:x.busy=false)(B:s.c=.none\/s.c=.eC\/∃q,s.c=.wt q)(hd:Deaf t (A.b+j)=0)(E:∃op,u[0]?=some op/\op.g=A.b+j/\op.act=.mark (.releaseMerge ⟨A.gb,0,none⟩))(C:kL u)(S:x.owns=(s.w j).owns)(F:x.iF=(s.w j).iF)(T:bO A.n (s.aW j x sh))(G:ShM A.fb A.fo w' sh)
 (d:∀b,b≠A.fb->w'.heap[b]?=w.heap[b]?) (H:∃c e,w'.heap[A.fb]?=some (.cells c e (0,0))) (O:∀op∈u,(∀a,op.act.touch?=some a->a.kind=.atomic/\zh A a.loc)/\∀a,op.act≠.mark (.release a)):
 de P A Z (s.aW j x sh) kk OO (λl=>J l/\l≠A.b+j) (λp=>M p\/p=t.size) gsz w' (t++u):=by
 have hb:=A.hb
 have D:∀l,((s.aW j x sh).w l).owns=(s.w l).owns:=λl=>by
  by_cases e:l=j
  . subst e;rw[aX,S]
  . rw[cy e]
 refine⟨T,h.size,h.dd,h.off,h.FT (λhd l _=>⟨?_,D l⟩) (λop k a I=>((O op k).1 a I).2),λhd=>by rw[d _ A.d1];exact h.Ao hd,G,h.gr.same (.of_heap (d _ (za A.d4))),H,by rw[d _ (za A.d4)];exact h.zB,h.gL,h.eD,λi y U=>?_,λl Q K=>h.zC l Q (by simp_all),λK=>h.OY λl Q=>by simp_all,λc L=>?_,
  λi=>?_,λp N=>?_,λL=>?_,h.kr u (λop k a I _ V=>?_),h.oR u (λop k a I _ V=>?_),h.qk u,h.jE u (λop k=>(O op k).2),h.Dp,h.te,h.jZ,h.fq,h.la,by simp;exact aaG h.n0 (abu _ _)⟩
 . by_cases e:l=j
   . subst e;rw[aX,F]
   . rw[cy e]
 . obtain⟨l,f,o,r,v,W⟩:=h.tok i y U
   exact⟨l,f,o,r,by simp_all,W⟩
 . obtain⟨o,r⟩:=h.OZ c L
   simp_all
 . rw [h.hJ i]
   constructor
   . rintro⟨⟨l,o,r,v⟩|⟨o,r⟩,X⟩
     . exact .inl ⟨l,o,r,by rw[cy (by omega)];exact v⟩
     . exact .inr ⟨o,r⟩
   . rintro (⟨l,o,r,v⟩|⟨o,r⟩)
     . by_cases e:l=j
       . subst e;rw[aX,z]at v;cases v
       . rw[cy e]at v;exact⟨.inl ⟨l,o,r,v⟩,by omega⟩
     . exact⟨.inr ⟨o,r⟩,by omega⟩
 . rcases N with N|rfl
   . exact h.vN u p N
   . obtain⟨op,R,Y,e3⟩:=E
     refine⟨heard_new (m:=0) C R (by simp_all),h.n0,.inl ⟨?_,B⟩⟩;have e4:=act?_of (dz (t:=t) (m:=0) R)
     simp_all
 . obtain⟨p,o,r,v⟩:=h.mR u L
   grind
 . grind
 grind
variable(C:gT P A.ng)(X:iN P A.ng)
include C X in
def PM(E:A.b+A.n+1<=Z.lk)(Q:bD (bX P A Fin Z E) Z s f q kk OO J M gs w t)(hj:j<A.n)(m:s.w j=.dn .d1)(hg:gs[A.b+j]?=some g)(R:HI P A j (.dn .d1) (kk (A.b+j)) (OO (A.b+j)) g)(sl:acS):
 Goes P A Fin Z E s gs w t sl (A.b+j):=by
 have v:de P A Z s kk OO J M gs.size w t:=Q.ex;have B:=bf (P:=P) (A:=A) (Fin:=Fin) (Z:=Z) E;have hb:=A.hb;have S:(A.b+j==0)=false:=by simp;omega
 obtain⟨fw,fn,tmps,todo,T,F,hM⟩:=R;obtain⟨g1,U,hr,g2,⟨k,G⟩,H⟩:=W2 (Wd:=ln A) (main:=false) (w:=w) C X hM;obtain⟨x,u⟩:∃x:bn P,x=.dn .d2:=⟨_,rfl⟩;have d:(s.aW j x s.sh).w j=.dn .d2:=by rw[aX,u]
 have V:=mU (P:=P) (A:=A) (s:=s) hj m
 have o:Deaf t (A.b+j)=0:=by obtain⟨_,_,o,_⟩:=Q.walk _ V;rw[o];show dN P A s (A.b+j)=0;rw[eM hj,m];rfl
 have K:=runT_crowd_go (P:=P) (sl:=sl) (i:=A.b+j) hg (by rw[S];exact U)
 have a7:bS P A s (A.b+j):=iQ v.I hj (by rw[m];rfl)
 have L:∀op∈MemOp.ofEvents (A.b+j) g.frame.fn g.frame.place #[⟨.mark (.releaseMerge ⟨A.gb,0,none⟩),false,true⟩],op.g=A.b+j:=λop r=>by obtain⟨e,_,rfl⟩:=zR r;rfl
 have y3:∀op∈MemOp.ofEvents (A.b+j) g.frame.fn g.frame.place #[⟨.mark (.releaseMerge ⟨A.gb,0,none⟩),false,true⟩],(∀a,op.act.touch?=some a->a.kind=.atomic/\zh A a.loc)/\∀a,op.act≠.mark (.release a):=λop r=>by obtain⟨e,N,rfl⟩:=zR r;simp at N;subst N;exact⟨λa ha=>by simp[MemAct.ofEvent,MemAct.touch?]at ha,λa h=>by simp[MemAct.ofEvent]at h⟩
 have z:kL (MemOp.ofEvents (A.b+j) g.frame.fn g.frame.place #[⟨.mark (.releaseMerge ⟨A.gb,0,none⟩),false,true⟩]):=λop r=>by obtain⟨e,N,rfl⟩:=zR r;simp at N;subst N;simp[MemAct.ofEvent]
 have hG:A.gb<w.heap.size:=by obtain⟨c,e,h1⟩:=v.zB;exact(zs.1 h1).1
 have hP:=Q.cN.bU (i:=A.b+j) (ad:=⟨A.gb,0,none⟩) hG o g.frame.fn g.frame.place
 have D:s.c=.none\/s.c=.eC\/∃q,s.c=.wt q:=by
  cases e:s.c with
  |none=>exact .inl rfl
  |eC=>exact .inr (.inl rfl)
  |wt p=>exact .inr (.inr ⟨p,rfl⟩)
  |jC=>have:=(v.I.g8 (by rw[e];rfl)).2.2.2 j hj;rw[m]at this;cases this
  |gone=>have:=(v.I.g8 (by rw[e];rfl)).2.2.2 j hj;rw[m]at this;cases this
 have hI:bO A.n (s.aW j x s.sh):=v.I.wT hj (by rw[m];rfl) (by rw[u];rfl) (.inl (by rw[u,m];rfl)) (by rw[u];rfl) (by rw[u,m];rfl)
 have hL:MS.gq A.n (s.aW j x s.sh) s:=tz hj (by rw[u,m];simp[bn.cx])
 have W:=v.bU (x:=x) (sh:=s.sh) (w':=w) hj (by rw[u];rfl) D o ⟨⟨A.b+j,g.frame.fn,g.frame.place,.mark (.releaseMerge ⟨A.gb,0,none⟩)⟩,by rw[ofEvents_eq];simp[MemAct.ofEvent],rfl,rfl⟩ z (by rw[u,m];rfl) (by rw[u,m];rfl) hI v.mu (λ_ _=>rfl) v.vL y3
 have Y:Beside (bX P A Fin Z E) s (s.aW j x s.sh) f f q (upd q (A.b+j) k) kk kk OO OO J (λl=>J l/\l≠A.b+j) w (A.b+j) g g1:=qm E hj (by rw[u,m];rfl) (λi hi=>rfl) (λi hi=>upd_ne q k hi) (λ_ _ _=>rfl) (λ_ _ _=>rfl) (λ_ hn h=>⟨h,hn⟩) (.inl λh=>h) (λ{i k O y} H=>B.kU (s:=s) (i:=i) (k:=k) (O:=O) (g:=y) H)
 refine⟨_,_,K,s.aW j x s.sh,f,upd q (A.b+j) k,kk,OO,(λl=>J l/\l≠A.b+j),(λp=>M p\/p=t.size),_,_,_,rfl,hL,?_⟩
 refine bD.step B Q hg L hP W (λl y hl H=>B.th v hl _ _ H) Y ⟨λhl=>absurd hl (kA hj d),λ_=>⟨kA hj d,?_,?_,g2,?_,?_⟩,λhh=>absurd hh (qp hj d),λ_ hn _=>absurd (mU hj d) hn⟩
 . show A.b+j<A.b+A.n+1;omega
 . rw[Deaf_own,o]
   show _=dN P A (s.aW j x s.sh) (A.b+j);rw[eM hj,d];rfl
 . refine .inr (.inl ⟨j,hj,rfl,?_⟩)
   rw[d];exact⟨fw,fn,tmps,todo,T,F,H⟩
 . exact .inr (by rw[upd_same];exact G)
end
section
variable{P:adS}{A:bH}{Fin:acP}{Z:Base}{s s':MS P}{f f':Nat->Node P}{q q':adI}{kk kk':adN}{OO OO':adM}{J J' M:adC}{gs:acX}{gsz:Nat}{w w':World}{t u:Trace}{i:Nat}{g g1:adF}
def sx{c:jB}:c.eG=true↔c=.gone:=by cases c<;>simp[jB.eG]
def oW{c:jB}:c.isNone=true↔c=.none:=by cases c<;>simp[jB.isNone]
def de.U4{M':adC}(h:de P A Z s kk OO J M gsz w t)(L:fy A s s' i)(G:∀l,l<A.n->(s'.w l).owns=(s.w l).owns)(O:∀l,l<A.n->(s'.w l).iF=(s.w l).iF)(H:wB P A s')(o:s'.c.eG=s.c.eG)(b:s'.c.isNone=s.c.isNone)
 (Q:∀p,M' p->M p) (al:s.c=.gone->∀p,M p->M' p) (R:(∃p,M' p)->(s.c=.none\/s.c=.eC\/∃q,s.c=.wt q)->(s'.c=.none\/s'.c=.eC\/∃q,s'.c=.wt q)) (S:∀i,dZ P A s' i↔dZ P A s i) (hI:bO A.n s') (T:s'.sh=s.sh) (U:rP A.gb w' s'.gc s'.gv s'.gm) (V:MW A.gb 0 w w')
 (W:∀op∈u,(∀a,op.act.touch?=some a->(a.kind=.atomic\/(a.kind=.said/\op.g=(if s.c.isNone then 0 else A.cl)))/\zh A a.loc)/\∀a,op.act≠.mark (.release a)):de P A Z s' kk OO J M' gsz w' (t++u):=by
 obtain⟨m1,X,c,e,c',m3,m4,_⟩:=oU V h.zB
 have z:∀i,bS P A s' i->bS P A s i:=λi C=>by
  rcases C with Y|⟨j,k,r⟩|⟨k,r⟩
  . exact .inl Y
  . exact .inr (.inl ⟨j,by rw[<-L.sp];exact k,r⟩)
  . refine .inr (.inr ⟨k,λe=>r ?_⟩)
    exact oW.1 (by rw[b];exact oW.2 e)
 have D:∀i,bS P A s i->bS P A s' i:=λi C=>by
  rcases C with Y|⟨j,k,r⟩|⟨k,r⟩
  . exact .inl Y
  . exact .inr (.inl ⟨j,by rw[L.sp];exact k,r⟩)
  . refine .inr (.inr ⟨k,λe=>r ?_⟩)
    exact oW.1 (by rw[<-b];exact oW.2 e)
 have a7:s'.c=.gone↔s.c=.gone:=by rw[<-sx,<-sx,o]
 refine⟨hI,by rw[L.sp,b];exact h.size,by rw[L.d];exact h.dd,H,h.FT (λ_ l E=>⟨O l E,G l E⟩) (λop v a F=>((W op v).1 a F).2),λhd=>by rw[X _ A.d2,o];exact h.Ao hd,by rw[T];exact h.mu.same (.of_heap (X _ A.d4)),U,by rw[X _ A.d4];exact h.vL,⟨c',e,m4⟩,h.gL,h.eD,λi y hy=>?_,λl E a8=>h.zC l E (by simp_all),λa8=>h.OY λl E=>by simp_all,λc hc=>?_,
  λi=>by rw[h.hJ i];simp_all,λp hp=>?_,λhc=>(by
   obtain⟨p,k,r,B⟩:=h.mR u (a7.1 hc)
   grind),λm a F hs N i C=>h.kr u (λop v a F _ N=>?_) m a F hs N i (z i C),λm a F hs N=>?_,λi C=>h.qk u i (z i C),h.jE u (λop v=>(W op v).2),λi a9 hn=>h.Dp i a9 (λhb=>hn (D i hb)),h.te,h.jZ,h.fq,h.la,by simp;exact aaG h.n0 (abu _ _)⟩
 . obtain⟨l,f,B,I,h5,h6⟩:=h.tok i y hy
   exact⟨l,f,B,I,by grind,h6⟩
 . obtain⟨B,I⟩:=h.OZ c hc
   simp_all
 . obtain⟨k,r,B⟩:=h.vN u p (Q p hp)
   refine⟨k,r,?_⟩;rcases B with⟨B,I⟩|⟨B,I⟩
   . exact .inl ⟨B,R ⟨p,hp⟩ I⟩
   simp_all
 . grind
 . rw[b]
   obtain⟨x,hx,K⟩:=touch_of F;rcases getElem?_append_cases hx with⟨E,ab⟩|⟨_,ad⟩
   . exact(h.said m a (by rw[touchAt_of ab];exact K) hs N).app u
   . rcases((W x ad).1 a K).1 with k|⟨_,k⟩
     . simp_all
     . rw[<-k];exact⟨m,x,hx,rfl,.inl rfl⟩
def de.PN(h:de P A Z s kk OO J M gsz w t)(v:fy A s s' i)(f:∀l,l<A.n->(s'.w l).owns=(s.w l).owns)(k:∀l,l<A.n->(s'.w l).iF=(s.w l).iF)(j:wB P A s')(b:s'.c.eG=s.c.eG)(d:s'.c.isNone=s.c.isNone)
 (m:(s.c=.none\/s.c=.eC\/∃q,s.c=.wt q)->(s'.c=.none\/s'.c=.eC\/∃q,s'.c=.wt q)) (e:∀i,dZ P A s' i↔dZ P A s i) (x:bO A.n s') (o:s'.sh=s.sh) (p:rP A.gb w' s'.gc s'.gv s'.gm) (r:MW A.gb 0 w w')
 (y:∀op∈u,(∀a,op.act.touch?=some a->(a.kind=.atomic\/(a.kind=.said/\op.g=(if s.c.isNone then 0 else A.cl)))/\zh A a.loc)/\∀a,op.act≠.mark (.release a)):de P A Z s' kk OO J M gsz w' (t++u):=
 h.U4 v f k j b d (λ_ h=>h) (λ_ _ h=>h) (λ_=>m) e x o p r y
def R7(b:Nat)(es:ads):Prop:=∀e∈es,((e.loc=.mark .disable\/e.loc=.mark .enable)\/∃i,(i=0\/i=0+1)/\e.loc=.cell ⟨b,i,none⟩/\e.sync=true)\/∃i,(i=0\/i=1)/\(e.loc=.mark (.read ⟨b,i,none⟩)\/e.loc=.mark (.write ⟨b,i,none⟩))
def R8{b:Nat}{es:ads}(h:EvM b 0 es):R7 b es:=λe a=>.inl (h e a)
def L2(kk:adN)(OO:adM)(B:Nat)(t:Trace)(i:Nat)(u:Trace):Prop:=∀op∈u,∀a,op.act.touch?=some a->(a.kind=.atomic\/a.kind=.said)/\(a.loc.isMemory=true->La kk OO B a.loc)/\∀n b,touchAt t n=some b->b.loc=a.loc->(b.kind=.plain\/(a.kind=.said/\b.kind=.said))->Knows t i n
def cB.L1(h:cB Z kk OO J M w t)(d:∀op∈u,op.g=i)(y:w'.heap.size=w.heap.size)(z:Calm Z w w')(hb:∀b,Kept kk OO w w' b)(A:∀op∈u,op.act.low w.heap.size)(q:L2 kk OO w.heap.size t i u)
 (l:∀m op a,u[m]?=some op->op.act.touch?=some a->a.loc.isMemory=true->Told Z J M (t++u) (t.size+m) a):cB Z kk OO J M w' (t++u):=
 h.uH (λa b=>a=b) y z hb A (λa b e n x _ _ _ B=>by subst e;exact B.app u) (λj b n v h=>⟨j,rfl,h⟩) (λj b s h=>⟨j,rfl,h⟩) (λj b x h=>⟨j,rfl,h,λ_ h=>h⟩) h.jA
  (fun said=>noRace_append (h.clean said) d λn a o op c b hb C=>by
    obtain⟨f,k,D⟩:=q op c b hb;obtain⟨E,_,_,F⟩:=C
    grind)
  (λop c a o r=>(q op c a o).2.1 r) l
  (λn a o r h=>h.elim (λ⟨j,f,k⟩=>.inr (.inl ⟨j,f,k.app _⟩)) (λ⟨p,f,k⟩=>.inr (.inr (.inl ⟨p,f,k.app _⟩))))
def lE{b:Nat}{e:Event}(he:((e.loc=.mark .disable\/e.loc=.mark .enable)\/∃i,(i=0\/i=0+1)/\e.loc=.cell ⟨b,i,none⟩/\e.sync=true)\/∃i,(i=0\/i=1)/\(e.loc=.mark (.read ⟨b,i,none⟩)\/e.loc=.mark (.write ⟨b,i,none⟩))):
 (∀a,(MemAct.ofEvent e).touch?=some a->(a.kind=.atomic\/a.kind=.said)/\∃i,(i=0\/i=1)/\a.loc=.cell ⟨b,i,none⟩)/\(∀a,MemAct.ofEvent e≠.mark (.release a))/\∀B,b<B->(MemAct.ofEvent e).low B:=by
 rcases he with he|⟨i,d,he⟩
 . obtain⟨g,h,j⟩:=nW he
   simp_all
 . obtain⟨loc,wr,k⟩:=e
   rcases he with he|he<;>simp only at he<;>subst he
   all_goals
    refine⟨λa c=>?_,by simp[MemAct.ofEvent],λB f=>by simpa[MemAct.ofEvent,MemAct.low]using f⟩;simp only[MemAct.ofEvent,MemAct.touch?,kn]at c;subst c;exact⟨.inr rfl,i,d,rfl⟩
def B0(K:A.b+A.n+1<=Z.lk)(Y:bD (bX P A Fin Z K) Z s f q kk OO J M gs w t)(Q:bS P A s i)(a7:¬fD P A s i)(hg:gs[i]?=some g){es:ads}(a8:stepG P (i==0) g w=.go g1 w' es)
 (hS:fy A s s' i) (R:∀l,l<A.n->(s'.w l).owns=(s.w l).owns) (a9:∀l,l<A.n->(s'.w l).iF=(s.w l).iF) (S:wB P A s') (F:s'.c.eG=s.c.eG) (G:s'.c.isNone=s.c.isNone) (ab:(s.c=.none\/s.c=.eC\/∃q,s.c=.wt q)->(s'.c=.none\/s'.c=.eC\/∃q,s'.c=.wt q)) (H:∀i,dZ P A s' i↔dZ P A s i)
 (hI:bO A.n s') (ad:s'.sh=s.sh) (al:rP A.gb w' s'.gc s'.gv s'.gm) (C:MW A.gb 0 w w') (u:EvM A.gb 0 es\/(R7 A.gb es/\i=(if s.c.isNone then 0 else A.cl))) (hL:MS.gq A.n s' s)
 (hT:(i=0\/J i)\/(EvM A.gb 0 es/\∀(m:Nat) (op:MemOp) (a:Touch),(MemOp.ofEvents i g.frame.fn g.frame.place es)[m]?=some op->op.act.touch?=some a->Z.Shun a.loc->a.kind=.atomic->Told Z J M (t++MemOp.ofEvents i g.frame.fn g.frame.place es) (t.size+m) a))
 (T:(s.gm=0->s'.gm=0)\/(mayWake P g=true/\(g1.status=.running\/g1.status=.finished))) (hf:∀j,j≠i->f' j=f j) (hq:∀j,j≠i->q' j=q j)
 (hs:Self P (bX P A Fin Z K) s' f' q' kk OO J (t++MemOp.ofEvents i g.frame.fn g.frame.place es) i g1) (sl:acS):Goes P A Fin Z K s gs w t sl i:=by
 have D:de P A Z s kk OO J M gs.size w t:=Y.ex;have B:=bf (P:=P) (A:=A) (Fin:=Fin) (Z:=Z) K;have U:=runT_crowd_go (P:=P) (sl:=sl) (i:=i) hg a8;have hG:A.gb<w.heap.size:=by obtain⟨c,e,E⟩:=D.zB;grind
 have o:R7 A.gb es:=u.elim R8 (·.1);have p:∀op∈MemOp.ofEvents i g.frame.fn g.frame.place es,op.g=i:=λop d=>by obtain⟨e,_,rfl⟩:=zR d;rfl
 have v:∀op∈MemOp.ofEvents i g.frame.fn g.frame.place es,∀a,op.act.touch?=some a->a.kind=.atomic\/(a.kind=.said/\op.g=(if s.c.isNone then 0 else A.cl)):=λop d a x=>by
  obtain⟨e,r,rfl⟩:=zR d
  rcases u with u|⟨_,hi⟩
  . exact .inl ((nW (u e r)).1 a x).1
  . rcases((lE (o e r)).1 a x).1 with h|h
    . exact .inl h
    simp_all
 have y1:L2 kk OO w.heap.size t i (MemOp.ofEvents i g.frame.fn g.frame.place es):=λop d a x=>by
  have ax:=v op d a x;have ay:=p op d;obtain⟨e,r,rfl⟩:=zR d;obtain⟨E,n,L,z⟩:=(lE (o e r)).1 a x;have aC:zh A a.loc:=by rw[z];exact⟨rfl,.inr ⟨rfl,L⟩⟩
  refine⟨E,λ_=>by rw[z];exact D.Q8 L,λm b hb X N=>?_⟩
  rcases N with N|⟨aE,av⟩
  . exact D.quiet m b hb (by simp_all) N i Q
  . have h5:=D.said m b hb (by simp_all) av
    simp_all
 have y2:∀op∈MemOp.ofEvents i g.frame.fn g.frame.place es,op.act.low w.heap.size:=λop d=>by obtain⟨e,r,rfl⟩:=zR d;exact(lE (o e r)).2.2 _ hG
 have y3:∀op∈MemOp.ofEvents i g.frame.fn g.frame.place es,(∀a,op.act.touch?=some a->(a.kind=.atomic\/(a.kind=.said/\op.g=(if s.c.isNone then 0 else A.cl)))/\zh A a.loc)/\∀a,op.act≠.mark (.release a):=λop d=>⟨λa x=>⟨v op d a x,by
  obtain⟨e,r,rfl⟩:=zR d;obtain⟨_,n,L,z⟩:=(lE (o e r)).1 a x;rw[z];exact⟨rfl,.inr ⟨rfl,L⟩⟩⟩,by
  obtain⟨e,r,rfl⟩:=zR d;exact(lE (o e r)).2.1⟩
 have y4:∀op∈MemOp.ofEvents i g.frame.fn g.frame.place es,∀a,op.act.touch?=some a->Z.Shun a.loc:=λop d a x=>by obtain⟨e,r,rfl⟩:=zR d;obtain⟨E,n,L,z⟩:=(lE (o e r)).1 a x;rw[z];exact D.te _ ⟨rfl,.inr ⟨rfl,L⟩⟩ ⟨_,rfl,rfl⟩
 obtain⟨m1,m2,c,e,c',m3,m4,_⟩:=oU C D.zB
 have hP:=Y.cN.L1 (i:=i) p m1 (D.U2 C) (D.U3 C) y2 y1 (λm op a E z _=>by
  rcases hT with hJ|⟨u,hT⟩
  . have N:Knows (t++MemOp.ofEvents i g.frame.fn g.frame.place es) i (t.size+m):=knows_own E (p op (abd E))
    rcases hJ with rfl|hJ
    . exact .inl N
    . exact .inr (.inl ⟨i,hJ,N⟩)
  . refine hT m op a E z (y4 op (abd E) a z) ?_
    obtain⟨e,r,rfl⟩:=zR (abd E);exact((nW (u e r)).1 a z).1)
 have V:de P A Z s' kk OO J M gs.size w' (t++MemOp.ofEvents i g.frame.fn g.frame.place es):=D.PN hS R a9 S F G ab H hI ad al C y3
 have I:Beside (bX P A Fin Z K) s s' f f' q q' kk kk OO OO J J w' i g g1:=ma K hS hf hq (λ_ _ _=>rfl) (λ_ _ _=>rfl) (λ_ _ h=>h) (T.imp (λh=>⟨λh0=>by grind,h⟩) id) (λ{i k O y} hA=>B.kU (s:=s) (i:=i) (k:=k) (O:=O) (g:=y) hA)
 refine⟨_,_,U,s',f',q',kk,OO,J,M,_,_,_,rfl,hL,?_⟩;refine bD.step B Y hg p hP V (λl y X hA=>?_) I hs
 have W:l≠i:=λe=>a7 (e ▸ X)
 exact B.th V ((I.held l W).2 X) _ _ (I.TD l _ _ _ W X hA)
def HL{g:Nat}:∀m,m<=u.size->(∀l op,l<m->u[l]?=some op->op.act≠.mark .enable)->Deaf t g<=(t++u).deaf g (t.size+m)
 |0,_,_=>by show Deaf t g<=(t++u).deaf g t.size;rw[deaf_old (aaE _)];exact aaE _
 | m+1,h,a=>by
   have b:m<u.size:=by omega
   have c:(t++u)[t.size+m]?=some u[m]:=by simp_all
   have d:=HL (g:=g) m (by omega) (λl op e=>a l op (by omega));rw[<-Nat.add_assoc,deaf_succ c];have:=a m u[m] (by omega) (by simp[b]);unfold deafStep
   grind
def FW{es:ads}{fn:FuncId}{pos:String}(hd:1<=Deaf t i)(o:∀(m:Nat) (op:MemOp) (a:Touch),(MemOp.ofEvents i fn pos es)[m]?=some op->op.act.touch?=some a->∀(l:Nat) (b:MemOp),l<m->(MemOp.ofEvents i fn pos es)[l]?=some b->b.act≠.mark .enable):∀(m:Nat) (op:MemOp) (a:Touch),(MemOp.ofEvents i fn pos es)[m]?=some op->op.act.touch?=some a->Z.Shun a.loc->a.kind=.atomic->Told Z J M (t++MemOp.ofEvents i fn pos es) (t.size+m) a:=λm op a d h p n=>by
 refine IU (i:=i) d h p n λq=>?_
 obtain⟨x,f,_,c⟩:=q;rw[act?_of (dz d)]at f;have f:op.act.touch?=some x:=f;rw[h]at f;obtain rfl:=aaS f;rcases c with c|⟨j,r,s⟩
 . exact c n
 . have v:op.g=i:=by obtain⟨e,_,rfl⟩:=zR (abd d);rfl
   have:j=i:=by
    have w:(t++MemOp.ofEvents i fn pos es).g? (t.size+m)=some op.g:=by simp[Trace.g?,dz d]
    simp_all
   subst this;have z:=(zs.1 d).1;have:=HL (t:=t) (u:=MemOp.ofEvents j fn pos es) (g:=j) m (by omega) (λl b y k=>o m op _ d h l b y k);omega
end
end
section
open Go.Conc
open Go.ConcN (sumTo upd sumTo_upd upd_ne upd_same)
variable{P:adS}
def MS.iH(s:MS P)(j:Nat)(x:bn P)(gc gv gm:Nat):MS P:={s with w:=λi=>if i=j then x else s.w i,gc:=gc,gv:=gv,gm:=gm}
section
variable{s:MS P}{j n:Nat}{x:bn P}{gc gv gm:Nat}
def bL:(s.iH j x gc gv gm).w j=x:=by simp[MS.iH]
def dA{i:Nat}(h:i≠j):(s.iH j x gc gv gm).w i=s.w i:=by simp[MS.iH,h]
def PO:(λi=>((s.iH j x gc gv gm).w i).pc)=Mu.set (λi=>(s.w i).pc) j x.pc:=by
 funext i;by_cases h:i=j
 . subst h;rw[bL,Mu.an]
 . rw[dA h,Mu.ai _ _ h]
def DC(F:bn P->Nat)(hj:j<n):sumTo n (λi=>F ((s.iH j x gc gv gm).w i))+F (s.w j)=sumTo n (λi=>F (s.w i))+F x:=by
 have e:(λi=>F ((s.iH j x gc gv gm).w i))=upd (λi=>F (s.w i)) j (F x):=by
  funext i;by_cases h:i=j
  . subst h;rw[bL,upd_same]
  . rw[dA h,upd_ne _ _ h]
 rw[e];have:=sumTo_upd (λi=>F (s.w i)) (F x) id hj
 simp_all
def bO.U5(I:bO n s)(hj:j<n){p:wP}(d:s.w j=.dn p)(b:x.ok=true)(f:x.jD=false)(g:x≠.wait)(k:x.pc=.out)
 (D:gc+(s.w j).cnt=s.gc+x.cnt) (r:gv<=1) (m:gv=1->s.c.waits=true/\gm=0)
 (t:∀i,i<n->((s.iH j x gc gv gm).w i=.dn .d5\/(s.iH j x gc gv gm).w i=.dn .d6)->gv=1/\gc=0)
 (o:∀i l,i<n->l<n->((s.iH j x gc gv gm).w i).last=true->((s.iH j x gc gv gm).w l).last=true->i=l)
 (u:∀i,i<n->(s.iH j x gc gv gm).w i=.dn .d7->gv=0/\gc=0/\gm=0/\s.c.waits=true)
 (v:gm<=1/\(gm=1->s.c.waits=true/\gv=0/\gc=0/\∀i,i<n->((s.iH j x gc gv gm).w i).last=false))
 (y:s.c.waits=true->gv=0->gm=0->∃i,i<n/\(s.iH j x gc gv gm).w i=.dn .d7)
 (z:gv=1->gc=0->∃i,i<n/\((s.iH j x gc gv gm).w i=.dn .d5\/(s.iH j x gc gv gm).w i=.dn .d6)):bO n (s.iH j x gc gv gm):=by
 refine⟨?_,r,m,t,o,u,v,y,z,λh=>?_,I.g9,λi a=>?_,I.TB,I.sp,λi a=>?_,?_,λhd h i a=>?_,?_⟩
 . have q:=DC (s:=s) (x:=x) (gc:=gc) (gv:=gv) (gm:=gm) bn.cnt hj
   have:=I.g1;show gc=sumTo n (λi=>((s.iH j x gc gv gm).w i).cnt)+s.ms.pend;omega
 . have:=(I.g8 h).2.2.2 j hj
   simp_all
 . by_cases e:i=j
   . subst e;rw[bL];exact b
   . rw[dA e];exact I.ok i a
 . by_cases e:i=j
   . subst e
     rw[bL,f];have:=I.idle i a;rw[d]at this;exact this
   . rw[dA e];exact I.idle i a
 . have:=I.ms
   show match s.ms with
   |.add l=>s.sp+l=n/\s.c=.none
   |.bz l p=>s.sp+l=n/\s.c=.none/\1<=l/\(p=.a0\/p=.a2\/p=.a4\/p=.ae)
   |.spawn l=>s.sp+l+1=n/\s.c=.none
   |.recv=>s.sp=n/\s.c≠.none
   |.parked=>s.sp=n/\s.c≠.none/\s.c≠.gone/\∀i,i<n->(s.iH j x gc gv gm).w i≠.wait
   |.off=>s.sp=n/\s.c≠.none
   cases e:s.ms with
   | parked=>
     rw[e]at this;obtain⟨A,B,C,E⟩:=this;refine⟨A,B,C,λi a=>?_⟩;by_cases e:i=j
     . subst e;rw[bL];exact g
     . rw[dA e];grind
   |_=>rw[e]at this;exact this
 . have:=I.early hd h j hj
   rw[d]at this;cases this
 . rw[PO,k]
   have e:=jF (λi=>(s.w i).pc) j;rw[show(s.w j).pc=.out by rw[d];rfl]at e;rw[e];exact I.mu
inductive B1(s:MS P):wP->bn P->Nat->Nat->adC
 |Xk:s.gc=1->s.gv=1->B1 s .d4 (.dn .d5) 0 1 s.gm
 |d4 (k:Nat):s.gc=k+1 -> ¬(k=0/\s.gv=1)->B1 s .d4 .gone k s.gv s.gm
 |d5:B1 s .d5 (.dn .d6) s.gc s.gv s.gm
 |d6:B1 s .d6 (.dn .d7) s.gc 0 s.gm
 |d7:B1 s .d7 .gone s.gc s.gv (s.gm+1)
def bO.done(I:bO n s)(hj:j<n){p:wP}(b:s.w j=.dn p)(h:B1 s p x gc gv gm):bO n (s.iH j x gc gv gm):=by
 have L3:∀{i:Nat},(s.w i).last=true->s.w i=.dn .d5\/s.w i=.dn .d6\/s.w i=.dn .d7:=λ{i} h=>by
  cases e:s.w i with
  |dn p=>cases p<;>simp_all [bn.last]
  |_=>rw[e]at h;simp[bn.last]at h
 have t:∀{i:Nat},i<n->(s.w i).last=true->s.gc=0:=λ{i} a h=>by
  rcases L3 h with h|h|h
  . exact(I.g3 i a (.inl h)).2
  . exact(I.g3 i a (.inr h)).2
  . exact(I.g4 i a h).2.1
 cases h with
 | Xk u v=>
   refine I.U5 hj b rfl rfl (by simp) rfl (by rw[b,u];rfl) (by omega) (λ_=>I.FO v) (λi a h=>⟨rfl,rfl⟩) (λi l a g h d=>?_) (λi a h=>?_) ⟨I.g5.1,λh=>?_⟩ (λ_ h=>by omega) (λ_ _=>⟨j,hj,.inl bL⟩)
   . by_cases e:i=j
     . by_cases q:l=j
       . rw[e,q]
       . rw[dA q]at d;simp_all
     . rw[dA e]at h;simp_all
   . by_cases e:i=j
     . subst e;rw[bL]at h;cases h
     . rw[dA e]at h;have:=(I.g4 i a h).2.1;omega
   . have:=(I.g5.2 h).2.1;omega
 | d4 k u v=>
   refine I.U5 hj b rfl rfl (by simp) rfl (by rw[b,u];rfl) I.g2 I.FO (λi a h=>?_) (λi l a g h d=>?_) (λi a h=>?_) ⟨I.g5.1,λh=>?_⟩ (λh d y=>?_) (λh d=>absurd ⟨d,h⟩ v)
   . by_cases e:i=j
     . subst e;rw[bL]at h;simp_all
     . rw[dA e]at h;have:=(I.g3 i a h).2;omega
   . by_cases e:i=j
     . subst e;rw[bL]at h;cases h
     . rw[dA e]at h;simp_all
   . by_cases e:i=j
     . subst e;rw[bL]at h;cases h
     . rw[dA e]at h;have:=(I.g4 i a h).2.1;omega
   . have:=(I.g5.2 h).2.2.1;omega
   . obtain⟨i,a,A⟩:=I.g6 h d y
     have:=(I.g4 i a A).2.1;omega
 | d5=>
   obtain⟨r,o⟩:=I.g3 j hj (.inl b);obtain⟨m,m0⟩:=I.FO r
   have c:∀{i:Nat},((s.iH j (.dn .d6) s.gc s.gv s.gm).w i).last=(s.w i).last:=λ{i}=>by
    by_cases e:i=j
    . subst e;rw[bL,b];rfl
    . rw[dA e]
   refine I.U5 hj b rfl rfl (by simp) rfl (by rw[b];rfl) I.g2 I.FO (λi a h=>⟨r,o⟩) (λi l a g h d=>?_) (λi a h=>?_) ⟨I.g5.1,λh=>?_⟩ (λh d=>by omega) (λ_ _=>⟨j,hj,.inr bL⟩)
   . rw[c]at h d;exact I.HH i l a g h d
   . by_cases e:i=j
     . subst e;rw[bL]at h;cases h
     . rw[dA e]at h;exact I.g4 i a h
   . omega
 | d6=>
   obtain⟨r,o⟩:=I.g3 j hj (.inr b);obtain⟨m,m0⟩:=I.FO r;have g:(s.w j).last=true:=by rw[b];rfl
   have c:∀{i:Nat},((s.iH j (.dn .d7) s.gc 0 s.gm).w i).last=(s.w i).last:=λ{i}=>by
    by_cases e:i=j
    . subst e;rw[bL,b];rfl
    . rw[dA e]
   refine I.U5 hj b rfl rfl (by simp) rfl (by rw[b];rfl) (by omega) (λh=>by omega) (λi a h=>?_) (λi l a g h d=>?_) (λi a h=>⟨rfl,o,m0,m⟩) ⟨I.g5.1,λh=>by omega⟩ (λ_ _ _=>⟨j,hj,bL⟩) (λh=>by omega)
   . by_cases e:i=j
     . subst e;rw[bL]at h;simp_all
     . rw[dA e]at h
       have z:(s.w i).last=true:=by rcases h with h|h<;>rw[h]<;>rfl
       exact absurd (I.HH i j a hj z g) e
   . rw[c]at h d;exact I.HH i l a g h d
 | d7=>
   obtain⟨B,o,m0,m⟩:=I.g4 j hj b;have g:(s.w j).last=true:=by rw[b];rfl
   have f:∀{i:Nat},i<n->((s.iH j .gone s.gc s.gv (s.gm+1)).w i).last=false:=λ{i} a=>by
    by_cases e:i=j
    . subst e;rw[bL];rfl
    . rw[dA e]
      cases q:(s.w i).last with
      |false=>rfl
      |true=>exact absurd (I.HH i j a hj q g) e
   refine I.U5 hj b rfl rfl (by simp) rfl (by rw[b];rfl) I.g2 (λh=>by omega) (λi a h=>?_) (λi l a g h d=>?_) (λi a h=>?_) ⟨by omega,λh=>⟨m,B,o,λi a=>f a⟩⟩ (λ_ _ h=>by omega) (λh=>by omega)
   . have:=f a
     rcases h with h|h<;>rw[h]at this<;>cases this
   . simp_all
   grind
def jB.R9(c:jB)(a b:Nat):c.cx a<=c.cx b+2:=by
 cases c with
 | wt p=>
   cases p with
   |w2 k=>simp only[jB.cx];grind
   |_=>simp[jB.cx]
 |_=>simp[jB.cx]
def IV(hj:j<n){p:wP}(d:s.w j=.dn p)(h:B1 s p x gc gv gm):MS.gq n (s.iH j x gc gv gm) s:=by
 have e:=DC (s:=s) (x:=x) (gc:=gc) (gv:=gv) (gm:=gm) bn.cx hj;refine .inl ?_;show s.ms.cx+sumTo n (λi=>((s.iH j x gc gv gm).w i).cx)+s.c.cx gc<s.ms.cx+sumTo n (λi=>(s.w i).cx)+s.c.cx s.gc;rw[d]at e;have:=jB.R9 s.c gc s.gc;cases h with
 |Xk f g=>have a:(bn.dn (P:=P) .d4).cx=10:=rfl;have b:(bn.dn (P:=P) .d5).cx=4:=rfl;omega
 |d4 k f g=>have a:(bn.dn (P:=P) .d4).cx=10:=rfl;have b:(bn.gone (P:=P)).cx=0:=rfl;omega
 |d5=>have a:(bn.dn (P:=P) .d5).cx=4:=rfl;have b:(bn.dn (P:=P) .d6).cx=3:=rfl;omega
 |d6=>have a:(bn.dn (P:=P) .d6).cx=3:=rfl;have b:(bn.dn (P:=P) .d7).cx=2:=rfl;omega
 |d7=>have a:(bn.dn (P:=P) .d7).cx=2:=rfl;have b:(bn.gone (P:=P)).cx=0:=rfl;omega
end
end
section
open Go.Conc
open Go.ConcN (sumTo upd sumTo_upd upd_ne upd_same)
def yb{e:Event}(h:MemAct.ofEvent e=.mark .enable):e.loc=.mark .enable:=by
 obtain⟨loc,wr,a⟩:=e;cases loc with
 |mark m=>cases m<;>simp_all [MemAct.ofEvent]
 |cell b=>simp[MemAct.ofEvent]at h
 |obj r=>cases wr<;>cases a<;>simp[MemAct.ofEvent]at h
 |_=>simp[MemAct.ofEvent]at h
def mV{i:Nat}{fn:FuncId}{pos:String}{es:ads}(h:∀e∈es,e.loc≠.mark .enable):∀(m:Nat) (op:MemOp) (a:Touch),(MemOp.ofEvents i fn pos es)[m]?=some op->op.act.touch?=some a->∀(l:Nat) (b:MemOp),l<m->(MemOp.ofEvents i fn pos es)[l]?=some b->b.act≠.mark .enable:=λm op a _ _ l b _ c d=>by obtain⟨e,f,rfl⟩:=zR (abd c);exact h e f (yb d)
def IW{i:Nat}{fn:FuncId}{pos:String}{ad:Addr}:∀(m:Nat) (op:MemOp) (a:Touch),(MemOp.ofEvents i fn pos (semEvents ad))[m]?=some op->op.act.touch?=some a->∀(l:Nat) (c:MemOp),l<m->(MemOp.ofEvents i fn pos (semEvents ad))[l]?=some c->c.act≠.mark .enable:=λm op a d f l c e b=>by
 rw[ofEvents_eq]at d b;simp only[semEvents]at d b
 match m,l,e with
 |0,l,e=>omega
 |1,0,_=>simp at b;subst b;simp[MemAct.ofEvent]
 |2,0,_=>simp at b;subst b;simp[MemAct.ofEvent]
 |2,1,_=>simp at b;subst b;simp[MemAct.ofEvent]
 |3,l,_=>simp at d;subst d;simp[MemAct.ofEvent,MemAct.touch?]at f
 |m+4,l,_=>simp at d
def oX:∀(n:Nat){F:adI},(∀l,l<n->F l<=1)->sumTo n F<=n
 |0,_,_=>aaE _
 | n+1,F,h=>by
   have a:=oX n (F:=F) (λl b=>h l (by omega));have c:=h n (by omega);simp only[sumTo];omega
section
variable{P:adS}{A:bH}{Fin:acP}{Z:Base}{s:MS P}{f:Nat->Node P}{q:adI}{kk:adN}{OO:adM}{J M:adC}{gs:acX}{w w':World}{t u:Trace}{j:Nat}{x:bn P}{gc gv gm:Nat}{g g1:adF}
def FX{p:wP}(h:B1 s p x gc gv gm):x.iP=true/\x.owns=false/\x.busy=false/\(bn.dn (P:=P) p).busy=false/\(bn.dn (P:=P) p).deaf=1/\(x=.gone\/∃a,x=.dn a/\x.deaf=1)/\x.iF=true:=by cases h<;>simp[bn.iP,bn.owns,bn.busy,bn.deaf,bn.iF]
def tA(r:A.b+A.n+1<=Z.lk)(E:bD (bX P A Fin Z r) Z s f q kk OO J M gs w t)(hj:j<A.n){p:wP}(d:s.w j=.dn p)(W:gs[A.b+j]?=some g){es:ads}(X:stepG P false g w=.go g1 w' es)(F:B1 s p x gc gv gm)
 (G:rP A.gb w' gc gv gm) (H:MW A.gb 0 w w') (u:EvM A.gb 0 es) (K:deafBehind 1 es=1)
 (Y:∀(m:Nat) (op:MemOp) (a:Touch),(MemOp.ofEvents (A.b+j) g.frame.fn g.frame.place es)[m]?=some op->op.act.touch?=some a->∀(l:Nat) (v:MemOp),l<m->(MemOp.ofEvents (A.b+j) g.frame.fn g.frame.place es)[l]?=some v->v.act≠.mark .enable)
 (y:(s.gm=0->gm=0)\/(mayWake P g=true/\(g1.status=.running\/g1.status=.finished)))
 (hs:(∃C,x=.dn C/\∃n D,jr P (ln A) n g1 D/\HI P A j (.dn C) (kk (A.b+j)) (OO (A.b+j)) D)\/(x=.gone/\∃m,QuitsD P m 1 g1)) (sl:acS):Goes P A Fin Z r s gs w t sl (A.b+j):=by
 have L:de P A Z s kk OO J M gs.size w t:=E.ex;have hb:=A.hb;have a7:(A.b+j==0)=false:=by simp;omega
 obtain⟨f1,f2,f3,f4,f5,f6,f7⟩:=FX F;have N:=mU (P:=P) (A:=A) (s:=s) hj d
 have O:Deaf t (A.b+j)=1:=by obtain⟨_,_,Q,_⟩:=E.walk _ N;rw[Q];show dN P A s (A.b+j)=1;rw[eM hj,d];exact f5
 have c:(s.iH j x gc gv gm).w j=x:=bL
 have k:∀l,((s.iH j x gc gv gm).w l).busy=(s.w l).busy:=λl=>by
  by_cases e:l=j
  . simp_all
  . rw[dA e]
 have hS:fy A s (s.iH j x gc gv gm) (A.b+j):=⟨λl _ S=>dA (by omega),λ_=>rfl,λ_=>rfl,rfl,rfl,.inl λl _=>by
  by_cases e:l=j
  . subst e;rw[bL,d,f1];rfl
  . rw[dA e]⟩
 have hI:=L.I.done hj d F;have hL:=IV hj d F;have z:∀fn pos,Deaf (t++MemOp.ofEvents (A.b+j) fn pos es) (A.b+j)=1:=λfn pos=>by rw[Deaf_own,O];exact K
 have go:∀(R:Nat),Self P (bX P A Fin Z r) (s.iH j x gc gv gm) f (upd q (A.b+j) R) kk OO J (t++MemOp.ofEvents (A.b+j) g.frame.fn g.frame.place es) (A.b+j) g1->Goes P A Fin Z r s gs w t sl (A.b+j):=λR o=>
  B0 r E (iQ L.I hj (by rw[d];rfl)) (qp hj d) W (by grind) hS (λl _=>by
   by_cases e:l=j
   . subst e;rw[bL,d,f2];rfl
   . rw[dA e]) (λl _=>by
   by_cases e:l=j
   . subst e;rw[bL,d,f7];rfl
   . rw[dA e]) L.off rfl rfl id (λi=>by unfold dZ;simp only[k];rfl) hI rfl G H (.inl u) hL (.inr ⟨u,FW (by omega) Y⟩) y (λ_ _=>rfl) (λi hi=>upd_ne q R hi) o sl
 rcases hs with⟨C,rfl,n,D,B,a8⟩|⟨rfl,m,hq⟩
 . refine go n ⟨λS=>absurd S (kA hj c),λ_=>⟨kA hj c,?_,?_,D,?_,?_⟩,λhh=>absurd hh (qp hj c),λ_ hn _=>absurd (mU hj c) hn⟩
   . show A.b+j<A.b+A.n+1;omega
   . rw[z]
     show 1=dN P A (s.iH j (.dn C) gc gv gm) (A.b+j);rw[eM hj,c]
     simp_all
   . exact .inr (.inl ⟨j,hj,rfl,by simp_all⟩)
   . exact .inr (by rw[upd_same];exact B)
 . have nl:¬dE P A (s.iH j .gone gc gv gm) (A.b+j):=by
    rintro(⟨e,_⟩|⟨l,T,U,V⟩|⟨e,_⟩)
    . omega
    . simp_all
    . omega
   have nw:¬gK P A (s.iH j .gone gc gv gm) (A.b+j):=by
    rintro(⟨e,_⟩|⟨l,T,U,V⟩|⟨e,_⟩)
    . omega
    . simp_all
    . omega
   have nh:¬fD P A (s.iH j .gone gc gv gm) (A.b+j):=by
    rintro(⟨e,_⟩|⟨l,T,U,V⟩)
    . omega
    simp_all
   exact go m ⟨λh=>absurd h nl,λh=>absurd h nw,λh=>absurd h nh,λ_ _ _=>⟨by omega,by rw[upd_same,z];exact hq⟩⟩
variable(C:gT P A.ng)(X:iN P A.ng)
def PQ{n:IL}{b:Nat}{kind:adK}{cs:adt}{g:adF}(C:gT P n)(X:iN P n)(h:rQ P n b kind .d7 cs g):mayWake P g=true:=by
 obtain⟨c,y,fr,f,⟨rfl,l⟩,m,i,j,rfl⟩:=h;have d:=FL (y:=y) (a:=true) (by simp_all);obtain⟨e,k⟩:=C.d9 b (Fl.of y);rw[d]at e k;exact BY i e X.oO
include C X in
def PR(y:A.b+A.n+1<=Z.lk)(B:bD (bX P A Fin Z y) Z s f q kk OO J M gs w t)(hj:j<A.n){p:wP}(r:s.w j=.dn p)(E:gs[A.b+j]?=some g)(L:HI P A j (.dn p) (kk (A.b+j)) (OO (A.b+j)) g)(sl:acS):Goes P A Fin Z y s gs w t sl (A.b+j):=by
 have z:de P A Z s kk OO J M gs.size w t:=B.ex;have N:=z.I.ok j hj;rw[r]at N;have D:=L;obtain⟨fw,fn,tmps,todo,F,u,O⟩:=L;have v:=z.gr;have hn:=A.hn;have nx:∀{p' g1},iO P A.ng A.gb .deferred (ln A) p' [kP P fw tmps todo,cE P] g1->∃n g2,jr P (ln A) n g1 g2/\HI P A j (.dn p') (kk (A.b+j)) (OO (A.b+j)) g2:=λ⟨_,g2,⟨n,hs⟩,hA⟩=>⟨n,g2,hs,fw,fn,tmps,todo,F,u,hA⟩
 have cell:∀(i:Nat),(i=0\/i=1)->∀wr,EvM A.gb 0 #[⟨.cell ⟨A.gb,i,none⟩,wr,true⟩]:=λi hi wr e d=>by simp at d;subst d;exact .inr ⟨i,by simpa using hi,rfl,rfl⟩
 have x:EvM A.gb 0 #[⟨.cell ⟨A.gb,0,none⟩,false,true⟩,⟨.cell ⟨A.gb,0,none⟩,true,true⟩]:=λe d=>by simp at d;rcases d with rfl|rfl<;>exact .inr ⟨0,.inl rfl,rfl,rfl⟩
 have Q:EvM A.gb 0 (semEvents ⟨A.gb,1,none⟩):=λe d=>by
  simp[semEvents]at d
  rcases d with rfl|rfl|rfl|rfl
  . exact .inl (.inl rfl)
  . exact .inr ⟨1,.inr rfl,rfl,rfl⟩
  . exact .inr ⟨1,.inr rfl,rfl,rfl⟩
  . exact .inl (.inr rfl)
 have R:∀l,l<A.n->(s.w l).cnt<=1:=λl _=>by
  cases e:s.w l with
  |dn p=>cases p<;>simp[bn.cnt]
  |_=>simp[bn.cnt]
 cases p<;>simp only[bn.ok,LK]at N
 case d1=>exact PM C X y B hj r E D sl
 case d2=>exact PL C X y B hj r E D sl
 case d4=>
  have a7:1<=s.gc:=by
   have h1:=z.I.g1;have:(s.w j).cnt<=sumTo A.n (λj=>(s.w j).cnt):=Go.ConcN.le_sumTo (f:=λj=>(s.w j).cnt) hj
   rw[r]at this;have e:(bn.dn (P:=P) .d4).cnt=1:=rfl;omega
  have a8:s.gc<=A.n+1:=by
   have h1:=z.I.g1;have h2:sumTo A.n (λj=>(s.w j).cnt)<=A.n:=oX A.n R
   have h3:s.ms.pend<=1:=by cases s.ms<;>simp[oQ.pend];split<;>omega
   omega
  obtain⟨k,U⟩:∃k,s.gc=k+1:=⟨s.gc-1,by omega⟩
  have a:=v;rw[U]at a;obtain⟨g1,w',o,rfl,c,G⟩:=W7 (Wd:=ln A) (main:=false) C X F u a (by omega) z.I.g2 O
  have H:MW A.gb 0 w (w.setCell ⟨A.gb,0,none⟩ (.int .u64 (eF k s.gv))):=⟨⟨.refl _,rfl⟩,.inr ⟨0,_,.inl rfl,rfl,rfl⟩⟩
  rcases G with⟨V,hv,S⟩|⟨W,Y⟩
  . subst V
    rw[hv]at c o H;exact tA y B hj r E o (.Xk U hv) c H x rfl (mV (λe d=>by simp at d;rcases d with rfl|rfl<;>simp)) (.inl id) (.inl ⟨_,rfl,nx S⟩) sl
  . exact tA y B hj r E o (.d4 k U W) c H x rfl (mV (λe d=>by simp at d;rcases d with rfl|rfl<;>simp)) (.inl id) (.inr ⟨rfl,Y⟩) sl
 case d5=>obtain⟨v1,K⟩:=z.I.g3 j hj (.inl r);have a:=v;rw[v1,K]at a;obtain⟨g1,o,S⟩:=W8 (Wd:=ln A) (main:=false) C X a O;exact tA y B hj r E o .d5 v (bg rfl) (cell 0 (.inl rfl) false) rfl (mV (λe d=>by simp at d;subst d;simp)) (.inl id) (.inl ⟨_,rfl,nx S⟩) sl
 case d6=>obtain⟨v1,K⟩:=z.I.g3 j hj (.inr r);have a:=v;rw[v1,K]at a;obtain⟨g1,w',o,rfl,c,S⟩:=W9 (Wd:=ln A) (main:=false) C X a O;exact tA y B hj r E o .d6 (by rw[K];exact c) (⟨⟨.refl _,rfl⟩,.inr ⟨0,_,.inl rfl,rfl,rfl⟩⟩) (cell 0 (.inl rfl) true) rfl (mV (λe d=>by simp at d;subst d;simp)) (.inl id) (.inl ⟨_,rfl,nx S⟩) sl
 case d7=>
  obtain⟨v0,K,m0,a9⟩:=z.I.g4 j hj r;have a:=v;rw[v0,K]at a;have ab:=z.I.g5.1;obtain⟨g1,w',o,rfl,c,Y⟩:=Xa (Wd:=ln A) (main:=false) C X F u a (by omega) O
  obtain⟨m,hq⟩:=Y;have T:g1.status=.running\/g1.status=.finished:=by rcases hq.status with h|h<;>simp[h]
  exact tA y B hj r E o .d7 (by rw[K,v0];exact c) (⟨⟨.refl _,rfl⟩,.inr ⟨1,_,.inr rfl,rfl,rfl⟩⟩) Q rfl IW (.inr ⟨PQ C X O,T⟩) (.inr ⟨rfl,m,hq⟩) sl
end
end
section
open Go.Conc
open Go.ConcN (sumTo upd sumTo_upd upd_ne upd_same)
variable{P:adS}
def MS.mc(s:MS P)(c:jB)(gv gm:Nat):MS P:={s with c:=c,gv:=gv,gm:=gm}
section
variable{s:MS P}{n:Nat}{c:jB}{gv gm:Nat}
def L3{x:bn P}(h:x.last=true):x=.dn .d5\/x=.dn .d6\/x=.dn .d7:=by
 cases x with
 |dn p=>cases p<;>simp_all [bn.last]
 |_=>simp[bn.last]at h
def bO.calm(I:bO n s)(h:s.c.waits=false):s.gv=0/\s.gm=0/\∀j,j<n->(s.w j).last=false:=by
 have b:s.gv=0:=by
  have:=I.g2;by_cases e:s.gv=1
  . have:=(I.FO e).1;simp_all
  . omega
 refine⟨b,?_,λj a=>?_⟩
 . have:=I.g5.1
   by_cases e:s.gm=1
   . have:=(I.g5.2 e).1;simp_all
   . omega
 . cases e:(s.w j).last with
   |false=>rfl
   | true=>
     rcases L3 e with e|e|e
     . have:=(I.g3 j a (.inl e)).1;omega
     . have:=(I.g3 j a (.inr e)).1;omega
     . have:=(I.g4 j a e).2.2.2;simp_all
def bO.U6(I:bO n s)(h:s.c≠.none):s.sp=n:=by
 have:=I.ms
 grind
def bO.DD(I:bO n s)(h:s.c≠.none)(l:s.gc=0)(g:∀j,j<n->(s.w j).last=false):∀j,j<n->s.w j=.gone:=λj a=>by
 have m:=I.g1;have o:(s.w j).cnt<=sumTo n (λj=>(s.w j).cnt):=Go.ConcN.le_sumTo (f:=λj=>(s.w j).cnt) a;have b:=I.idle j a;rw[I.U6 h]at b;have i:=g j a;have k:=I.ok j a;have d:(s.w j).cnt=0:=by omega
 cases e:s.w j with
 |idle=>rw[e]at b;have:=b.1 rfl;omega
 |dn p=>rw[e]at i k d;cases p<;>simp_all [bn.last,bn.ok,bn.cnt]
 |gone=>rfl
 |_=>rw[e]at d;simp[bn.cnt]at d
inductive sz(s:MS P):jB->jB->Nat->adC
 |call:sz s .eC (.wt .w0) s.gv s.gm
 |w0:sz s (.wt .w0) (.wt .w1) s.gv s.gm
 |Yo:s.gc=0->sz s (.wt .w1) (.wt .we) s.gv s.gm
 |w1:s.gc≠0->sz s (.wt .w1) (.wt (.w2 s.gc)) s.gv s.gm
 |Yp:sz s (.wt (.w2 s.gc)) (.wt .w3) 1 s.gm
 |Xl (k:Nat):s.gc≠k->sz s (.wt (.w2 k)) (.wt .w1) s.gv s.gm
 |w3:sz s (.wt .w3) (.wt .w4) s.gv s.gm
 |w4:s.gm≠0->sz s (.wt .w4) (.wt .w5) s.gv (s.gm-1)
 |w5:sz s (.wt .w5) (.wt .we) s.gv s.gm
 |we:sz s (.wt .we) (.wt .wa) s.gv s.gm
 |wa:sz s (.wt .wa) .jC s.gv s.gm
def bO.PS(I:bO n s)(v:s.c≠.none)(a:c≠.none)(e:c≠.gone)(b:c.ok=true)(f:gv<=1)(d:gv=1->c.waits=true/\gm=0)
 (g:∀j,j<n->(s.w j=.dn .d5\/s.w j=.dn .d6)->gv=1/\s.gc=0) (m:∀j,j<n->s.w j=.dn .d7->gv=0/\s.gc=0/\gm=0/\c.waits=true)
 (o:gm<=1/\(gm=1->c.waits=true/\gv=0/\s.gc=0/\∀j,j<n->(s.w j).last=false)) (q:c.waits=true->gv=0->gm=0->∃j,j<n/\s.w j=.dn .d7)
 (r:gv=1->s.gc=0->∃j,j<n/\(s.w j=.dn .d5\/s.w j=.dn .d6)) (t:c.LU=true->s.gc=0/\gv=0/\gm=0/\∀j,j<n->s.w j=.gone) (u:∀k,c=.wt (.w2 k)->k≠0):bO n (s.mc c gv gm):=by
 refine⟨I.g1,f,d,g,I.HH,m,o,q,r,t,u,I.ok,b,I.sp,I.idle,?_,λ_ h=>absurd h a,I.mu⟩;have:=I.ms
 show match s.ms with
  |.add l=>s.sp+l=n/\c=.none
  |.bz l p=>s.sp+l=n/\c=.none/\1<=l/\(p=.a0\/p=.a2\/p=.a4\/p=.ae)
  |.spawn l=>s.sp+l+1=n/\c=.none
  |.recv=>s.sp=n/\c≠.none
  |.parked=>s.sp=n/\c≠.none/\c≠.gone/\∀i,i<n->s.w i≠.wait
  |.off=>s.sp=n/\c≠.none
 grind
def bO.Yq(I:bO n s){d:jB}(l:s.c=d)(h:sz s d c gv gm):bO n (s.mc c gv gm):=by
 have calm:d.waits=false->c.waits=false->d≠.none->c≠.none->c≠.gone->c.ok=true->gv=s.gv->gm=s.gm->(c.LU=true->s.gc=0)->(∀k,c=.wt (.w2 k)->k≠0)->bO n (s.mc c gv gm):=by
  intro z A B q r t u v p m;subst u v;obtain⟨g,m0,b⟩:=I.calm (by simp_all)
  have e:s.c≠.none:=by simp_all
  refine I.PS e q r t I.g2 (λh=>by omega) I.g3 (λj a h=>?_) ⟨by omega,λh=>by omega⟩ (λh=>by simp_all) I.g7 (λh=>⟨p h,g,m0,I.DD e (p h) b⟩) m
  have:=b j a;rw[h]at this;cases this
 have g8:d.LU=true->s.gc=0:=λh=>(I.g8 (by simp_all)).1
 cases h with
 |call=>exact calm rfl rfl (by simp) (by simp) (by simp) rfl rfl rfl (λh=>by cases h) (λk h=>by cases h)
 |w0=>exact calm rfl rfl (by simp) (by simp) (by simp) rfl rfl rfl (λh=>by cases h) (λk h=>by cases h)
 |Yo i=>exact calm rfl rfl (by simp) (by simp) (by simp) rfl rfl rfl (λ_=>i) (λk h=>by cases h)
 |w1 i=>exact calm rfl rfl (by simp) (by simp) (by simp) rfl rfl rfl (λh=>by cases h) (λk h=>by simp_all)
 |Xl k i=>exact calm rfl rfl (by simp) (by simp) (by simp) rfl rfl rfl (λh=>by cases h) (λk h=>by cases h)
 |w5=>exact calm rfl rfl (by simp) (by simp) (by simp) rfl rfl rfl (λ_=>g8 rfl) (λk h=>by cases h)
 |we=>exact calm rfl rfl (by simp) (by simp) (by simp) rfl rfl rfl (λ_=>g8 rfl) (λk h=>by cases h)
 |wa=>exact calm rfl rfl (by simp) (by simp) (by simp) rfl rfl rfl (λ_=>g8 rfl) (λk h=>by cases h)
 | Yp=>
   obtain⟨g,m0,b⟩:=I.calm (by rw[l];rfl)
   have w:=I.g9 s.gc l;refine I.PS (by grind) (by simp) (by simp) rfl (by omega) (λ_=>⟨rfl,m0⟩) (λj a h=>?_) (λj a h=>?_) ⟨by omega,λh=>by omega⟩ (λ_ h=>by omega) (λ_ h=>absurd h w) (λh=>by cases h) (λk h=>by cases h)
   . have:=(I.g3 j a h).1;omega
   . have:=b j a;rw[h]at this;cases this
 | w3=>
   have x:s.c.waits=true:=by rw[l];rfl
   refine I.PS (by grind) (by simp) (by simp) rfl I.g2 (λh=>⟨rfl,(I.FO h).2⟩) I.g3 (λj a h=>?_) ⟨I.g5.1,λh=>⟨rfl,(I.g5.2 h).2⟩⟩ (λ_=>I.g6 x) I.g7 (λh=>by cases h) (λk h=>by cases h)
   have:=I.g4 j a h;exact⟨this.1,this.2.1,this.2.2.1,rfl⟩
 | w4 i=>
   have o:s.gm=1:=by have:=I.g5.1;omega
   obtain⟨y,g,f,b⟩:=I.g5.2 o;have e:s.c≠.none:=by grind
   refine I.PS e (by simp) (by simp) rfl I.g2 (λh=>by omega) I.g3 (λj a h=>?_) ⟨by omega,λh=>by omega⟩ (λh=>by cases h) I.g7 (λ_=>⟨f,g,by omega,I.DD e f b⟩) (λk h=>by cases h)
   have:=b j a;rw[h]at this;cases this
def DF{a:jB}(b:s.c=a)(h:sz s a c gv gm):MS.gq n (s.mc c gv gm) s:=by
 refine .inl ?_;show s.ms.cx+sumTo n (λi=>(s.w i).cx)+c.cx s.gc<s.ms.cx+sumTo n (λi=>(s.w i).cx)+s.c.cx s.gc;rw[b]
 have:c.cx s.gc<a.cx s.gc:=by
  cases h with
  |Xl k d=>simp only[jB.cx];simp_all
  |_=>simp[jB.cx]
 omega
end
end
open Go.Conc
open Go.ConcN (sumTo upd sumTo_upd upd_ne upd_same)
section
variable{P:adS}{A:bH}{Fin:acP}{Z:Base}{s:MS P}{f:Nat->Node P}{q:adI}{kk:adN}{OO:adM}{J M:adC}{gs:acX}{w w':World}{t u:Trace}{c:jB}{p:wP}{gv gm:Nat}{g g1:adF}
def uU(e:s.c=.wt p):gK P A s A.cl:=.inr (.inr ⟨rfl,by simp_all⟩)
def B2{A:bH}(h:A.cl=0):A.dir=true:=by simp[bH.dir,h]
def B3(hd:A.dir=false)(h:s.ms≠.off):wB P A s:=⟨λe=>by simp_all,λe=>by simp_all,λ_=>h⟩
def B4(b:wB P A s)(e:s.c=.wt p):¬dE P A s A.cl:=by
 have:=A.hb;rintro(⟨h,a⟩|⟨l,d,f,a⟩|⟨_,a⟩)
 . rw[b.1 (B2 h) (by rw[e];simp)]at a;exact a
 . omega
 simp_all
def qZ(b:wB P A s):¬fD P A s A.cl:=by
 have:=A.hb;rintro(⟨h,a⟩|⟨l,c,d,a⟩)
 . exact(b.2.1 (B2 h)).2.1 a
 . omega
def tB(a:wB P A s)(e:s.c=.wt p):dN P A s A.cl=tw p:=by
 have:=A.hb;unfold dN;by_cases h:A.cl=0
 . rw[aaB h,a.1 (B2 h) (by rw[e];simp),e]
 simp_all
def HM(h:s.c≠.none):bS P A s A.cl:=.inr (.inr ⟨rfl,h⟩)
def IX{a:jB}(h:sz s a c gv gm):a.eG=false/\c.eG=false/\a.isNone=false/\c.isNone=false/\a.busy=true/\c.busy=true:=by cases h<;>simp[jB.eG,jB.isNone,jB.busy]
def L4:fy A s (s.mc c gv gm) A.cl:=⟨λ_ _ _=>rfl,λh=>absurd rfl h,λ_=>rfl,rfl,rfl,.inl λ_ _=>rfl⟩
def nz(u:A.b+A.n+1<=Z.lk)(F:bD (bX P A Fin Z u) Z s f q kk OO J M gs w t){G:jB}(v:s.c=G)(x:sz s G (.wt p) gv gm){d:Nat}(hd:Deaf t A.cl=d)(H:gs[A.cl]?=some g){es:ads}(y:stepG P A.dir g w=.go g1 w' es)
 (z:rP A.gb w' s.gc gv gm) (B:MW A.gb 0 w w') (C:R7 A.gb es) (D:deafBehind d es=tw p) (j:s.gm=0->gm=0)
 (K:∃n r,jr P (ln A) n g1 r/\TC P A Fin (.wt p) (kk A.cl) (OO A.cl) r) (sl:acS):Goes P A Fin Z u s gs w t sl A.cl:=by
 have h:de P A Z s kk OO J M gs.size w t:=F.ex;have hb:=A.hb;obtain⟨f1,R,S,T,L,U⟩:=IX x;have k:s.c.isNone=false:=by simp_all
 have l:s.c≠.none:=λe=>by rw[e]at k;cases k
 obtain⟨n,r,m,E⟩:=K;have a:(s.mc (.wt p) gv gm).c=.wt p:=rfl;have o:wB P A (s.mc (.wt p) gv gm):=⟨λhd _=>h.off.1 hd l,λhd=>⟨(h.off.2.1 hd).1,(h.off.2.1 hd).2.1,by simp_all,by simp_all,by simp_all⟩,h.off.2.2⟩
 have hJ:J A.cl:=(h.hJ _).2 (.inr ⟨rfl,by simp_all⟩)
 refine B0 (s':=s.mc (.wt p) gv gm) (f':=f) (q':=upd q A.cl n) u F (HM l) (qZ h.off) H y L4 (λ_ _=>rfl) (λ_ _=>rfl) o (by simp_all) (by simp_all) (λ_=>.inr (.inr ⟨p,rfl⟩)) (λi=>?_) (h.I.Yq v x) rfl z B (.inr ⟨C,by rw[k];rfl⟩) (DF v x) (.inl (.inr hJ)) (.inl j) (λ_ _=>rfl) (λi N=>upd_ne q n N) ?_ sl
 . unfold dZ
   rw[v,L];rfl
 . refine⟨λO=>absurd O (B4 o a),λ_=>⟨B4 o a,?_,?_,r,?_,?_⟩,λQ=>absurd Q (qZ o),λ_ k _=>absurd (uU a) k⟩
   . show A.cl<A.b+A.n+1;omega
   . rw[Deaf_own,hd,D]
     show _=dN P A (s.mc (.wt p) gv gm) A.cl;rw[tB o a]
   . exact .inr (.inr ⟨rfl,E⟩)
   . exact .inr (by rw[upd_same];exact m)
variable(C:gT P A.ng)(X:iN P A.ng)
include C X in
def PT(x:A.b+A.n+1<=Z.lk)(y:bD (bX P A Fin Z x) Z s f q kk OO J M gs w t)(v:s.c=.wt p)(R:p≠.wa)(D:gs[A.cl]?=some g)(S:TC P A Fin (.wt p) (kk A.cl) (OO A.cl) g)(sl:acS):
 Goes P A Fin Z x s gs w t sl A.cl\/FV P A s gs w sl A.cl g:=by
 have G:de P A Z s kk OO J M gs.size w t:=y.ex;have H:=G.I.TB;rw[v]at H;obtain⟨Y,rest,E,hT⟩:=S;have m:=G.gr;have hn:=A.hn;have hb:=A.hb;have O:CallKind.normal≠CallKind.early:=by decide
 have nx:∀{p' g1},iO P A.ng A.gb .normal (ln A) p' (Y::rest) g1->∃n Q,jr P (ln A) n g1 Q/\TC P A Fin (.wt p') (kk A.cl) (OO A.cl) Q:=λ⟨_,Q,⟨n,hs⟩,hA⟩=>⟨n,Q,hs,Y,rest,hA,hT⟩
 have cell:∀wr,R7 A.gb #[⟨.cell ⟨A.gb,0,none⟩,wr,true⟩]:=λwr e u=>by simp at u;subst u;exact .inl (.inr ⟨0,.inl rfl,rfl,rfl⟩)
 have hd:Deaf t A.cl=tw p:=by obtain⟨_,_,T,_⟩:=y.walk _ (uU v);rw[T];show dN P A s A.cl=_;rw[tB G.off v]
 have z:s.c.waits=false->s.gv=0:=λh=>(G.I.calm h).1
 have K:∀l,l<A.n->(s.w l).cnt<=1:=λl _=>by
  cases e:s.w l with
  |dn p=>cases p<;>simp[bn.cnt]
  |_=>simp[bn.cnt]
 have a7:s.gc<=A.n+1:=by
  have h1:=G.I.g1;have h2:sumTo A.n (λj=>(s.w j).cnt)<=A.n:=oX A.n K
  have h3:s.ms.pend<=1:=by cases s.ms<;>simp[oQ.pend];split<;>omega
  omega
 cases p<;>simp only[jB.ok,LK]at H
 case w0=>obtain⟨g1,a,r⟩:=Xb (Wd:=ln A) (main:=A.dir) (w:=w) C X E O;exact .inl (nz x y v .w0 hd D a m (bg rfl) (λe u=>by simp at u;subst u;exact .inl (.inl (.inl rfl))) rfl id (nx r) sl)
 case w1=>
  have L:=z (by rw[v];rfl)
  have d:=m;rw[L]at d;obtain⟨g1,a,r⟩:=Xc (Wd:=ln A) (main:=A.dir) C X d (by omega) E
  rcases r with⟨U,r⟩|⟨U,r⟩
  . exact .inl (nz x y v (.Yo U) hd D a m (bg rfl) (cell false) rfl id (nx r) sl)
  . exact .inl (nz x y v (.w1 U) hd D a m (bg rfl) (cell false) rfl id (nx r) sl)
 case we=>
  obtain⟨g1,a,r⟩:=Xd (Wd:=ln A) (main:=A.dir) (w:=w) C X (λw h=>h.1) E O
  exact .inl (nz x y v .we hd D a m (bg rfl) (λe u=>by simp at u;subst u;exact .inl (.inl (.inr rfl))) rfl id (nx r) sl)
 case wa=>exact absurd rfl R
 case w2 k=>
  have L:=z (by rw[v];rfl)
  have d:=m;rw[L]at d
  rcases Xe (Wd:=ln A) (main:=A.dir) C X (λw h=>h.2.1) d E with⟨F,g1,w',a,rfl,B,r⟩|⟨F,g1,a,r⟩
  . subst F
    exact .inl (nz x y v .Yp hd D a B (⟨⟨.refl _,rfl⟩,.inr ⟨0,_,.inl rfl,rfl,rfl⟩⟩) (λe u=>by simp at u;rcases u with rfl|rfl<;>exact .inl (.inr ⟨0,.inl rfl,rfl,rfl⟩)) rfl id (nx r) sl)
  . exact .inl (nz x y v (.Xl k F) hd D a m (bg rfl) (cell false) rfl id (nx r) sl)
 case w3=>obtain⟨g1,a,r⟩:=Xf (Wd:=ln A) (main:=A.dir) (w:=w) C X E O;exact .inl (nz x y v .w3 hd D a m (bg rfl) (λe u=>by simp at u;subst u;exact .inr ⟨1,.inr rfl,.inr rfl⟩) rfl id (nx r) sl)
 case w4=>
  by_cases N:s.gm=0
  . right
    have d:=m;rw[N]at d;have a:=UN (main:=A.dir) C X d E;refine⟨.inr ⟨rfl,v,N⟩,?_⟩;have h:=runT_crowd_go (P:=P) (sl:=sl) (i:=A.cl) D a
    have V:woken P g {g with status:=.blocked} w=id:=funext λo=>by unfold Go.Conc.woken;simp
    rw[V,Array.map_id]at h;exact h
  . left
    obtain⟨g1,w',a,rfl,B,r⟩:=Xg (Wd:=ln A) (main:=A.dir) C X m N E O
    exact nz x y v (.w4 N) hd D a B (⟨⟨.refl _,rfl⟩,.inr ⟨1,_,.inr rfl,rfl,rfl⟩⟩) (λe u=>by
     simp[semEvents]at u
     rcases u with rfl|rfl|rfl|rfl
     . exact .inl (.inl (.inl rfl))
     . exact .inl (.inr ⟨1,.inr rfl,rfl,rfl⟩)
     . exact .inl (.inr ⟨1,.inr rfl,rfl,rfl⟩)
     . exact .inl (.inl (.inr rfl))) rfl (λh=>absurd h N) (nx r) sl
 case w5=>
  obtain⟨W,L,m0,_⟩:=G.I.g8 (by rw[v];rfl)
  have d:=m;rw[W,L]at d;obtain⟨g1,a,r⟩:=Xh (Wd:=ln A) (main:=A.dir) C X d E;exact .inl (nz x y v .w5 hd D a m (bg rfl) (cell false) rfl id (nx r) sl)
end
section
variable{Z:Base}{kk:adN}{OO:adM}{J M:adC}{w:World}{t:Trace}
def cB.U7(h:cB Z kk OO J M w t){i:Nat}{ad:Addr}(E:J i)(r:ad.block<w.heap.size)(hd:Deaf t i=0)(F:∀p,M p->t.heard p/\Z.N0<=p/\t.act? p=some (.mark (.releaseMerge ad)))
 (G:∀m a,Z.N0<=m->t.act? m≠some (.mark (.release a))) (fn:FuncId) (pos:String):
 cB Z kk OO J (λ_=>False) w (t++MemOp.ofEvents i fn pos #[⟨.mark (.acquire ad),false,true⟩]):=by
 obtain⟨u,D⟩:∃u,u=MemOp.ofEvents i fn pos #[⟨.mark (.acquire ad),false,true⟩]:=⟨_,rfl⟩;have f:u=#[⟨i,fn,pos,.mark (.acquire ad)⟩]:=by rw[D,ofEvents_eq];simp[MemAct.ofEvent]
 rw[<-D];have H:∀op∈u,op.act.touch?=none:=λop c=>by rw[f]at c;simp at c;subst c;rfl
 have l:∀op∈u,op.g=i:=λop c=>by grind
 have z:u[0]?=some ⟨i,fn,pos,.mark (.acquire ad)⟩:=by grind
 have d:kL u:=λop c=>by grind
 have o:∀k,Z.N0<=k->∀a,(t++u).act? k≠some (.mark (.release a)):=λk A a e=>by
  rcases qX e with⟨q,_⟩|⟨op,c,q⟩
  . simp_all
  grind
 exact h.uH (λa b=>a=b) rfl ⟨⟨.refl _,rfl⟩,λ_ _=>rfl⟩ (λb=>.inl rfl) (λop c=>by rw[f]at c;simp at c;subst c;simpa[MemAct.low]using r) (λa b e n y _ _ _ A=>by subst e;exact A.app u)
  (λj b n v h=>⟨j,rfl,h⟩) (λj b s h=>⟨j,rfl,h⟩) (λj b x h=>⟨j,rfl,h,λ_ h=>h⟩) h.jA
  (λsaid=>noRace_append (h.clean said) l λn a B op c b hb _=>by simp_all) (λop c a B=>by simp_all) (λm op a c B=>by grind)
  (λn a B L h=>h.elim (λ⟨j,q,C⟩=>.inr (.inl ⟨j,q,C.app _⟩)) (λ⟨p,q,C⟩=>by obtain⟨I,N,K⟩:=F p q;exact .inr (.inl ⟨i,E,nu (y:=⟨i,fn,pos,.mark (.acquire ad)⟩) d z rfl hd K I (λk A=>o k (by omega) ad) C⟩)))
end
section
variable{P:adS}{A:bH}{Fin:acP}{Z:Base}{s:MS P}{f:Nat->Node P}{q:adI}{kk:adN}{OO:adM}{J M:adC}{gs:acX}{w w':World}{t u:Trace}{c:jB}{p:wP}{gv gm:Nat}{g g1:adF}
def uV(e:s.c=.jC\/s.c=.eC):dE P A s A.cl:=.inr (.inr ⟨rfl,by grind⟩)
def HN(hd:A.dir=false)(e:s.c=.jC\/s.c=.eC):¬gK P A s A.cl:=by
 have:=A.hb;have:=vK hd;rintro(⟨e,_⟩|⟨l,b,d,a⟩|⟨_,a⟩)
 . omega
 . omega
 grind
def HO(hd:A.dir=false)(e:s.c≠.eC):cq P A Fin s A.cl=su P A:=by
 have:=A.hb;have:=vK hd;unfold cq
 grind
def HP(hd:A.dir=false)(e:s.c=.eC):cq P A Fin s A.cl=xV P A:=by
 have:=A.hb;have:=vK hd;unfold cq
 grind
def Q9{x:Node P}:PA P A s A.cl x:=λj h X a b _=>by have:=A.hb;omega
variable(C:gT P A.ng)(X:iN P A.ng)
include C X in
def PU(v:A.b+A.n+1<=Z.lk)(F:bD (bX P A Fin Z v) Z s f q kk OO J M gs w t)(o:s.c=.wt .wa)(V:gs[A.cl]?=some g)(G:TC P A Fin (.wt .wa) (kk A.cl) (OO A.cl) g)(d:A.dir=false)(sl:acS):
 Goes P A Fin Z v s gs w t sl A.cl:=by
 have j:de P A Z s kk OO J M gs.size w t:=F.ex;have B:=bf (P:=P) (A:=A) (Fin:=Fin) (Z:=Z) v;obtain⟨c0,rest,hM,W⟩:=G;rw[aay (by rw[d];simp)]at W
 have a7:=vK d;have hb:=A.hb;have H:(A.cl==0)=false:=by simp;omega
 obtain⟨g1,K,hr,⟨k,x⟩⟩:=UM (Wd:=λ_=>True) (main:=false) (w:=w) C X hM (by decide)
 obtain⟨tr⟩:=T.tree (P:=P) (m:=su P A) rfl (W _ (aj.Le.refl _));obtain⟨T,_⟩:=TT.pre x tr;have z:=runT_crowd_go (P:=P) (sl:=sl) (i:=A.cl) V (by rw[H];exact K)
 have L:=uU (P:=P) (A:=A) o
 have hd:Deaf t A.cl=0:=by obtain⟨_,_,N,_⟩:=F.walk _ L;rw[N];show dN P A s A.cl=_;rw[tB j.off o];rfl
 have hJ:J A.cl:=(j.hJ _).2 (.inr ⟨rfl,by rw[o];rfl⟩)
 have hG:A.gb<w.heap.size:=by obtain⟨c,e,Q⟩:=j.zB;exact(zs.1 Q).1
 have hP:=F.cN.U7 (i:=A.cl) (ad:=⟨A.gb,0,none⟩) hJ hG hd (λp D=>by
  obtain⟨Q,h2,u⟩:=j.hM p D
  rcases u with⟨u,_⟩|⟨u,_⟩
  . exact⟨Q,h2,u⟩
  . rw[o]at u;cases u) j.norel g.frame.fn g.frame.place
 have E:∀op∈MemOp.ofEvents A.cl g.frame.fn g.frame.place #[⟨.mark (.acquire ⟨A.gb,0,none⟩),false,true⟩],op.g=A.cl:=λop r=>by obtain⟨e,_,rfl⟩:=zR r;rfl
 have R:de P A Z (s.mc .jC s.gv s.gm) kk OO J (λ_=>False) gs.size w (t++MemOp.ofEvents A.cl g.frame.fn g.frame.place #[⟨.mark (.acquire ⟨A.gb,0,none⟩),false,true⟩]):=
  j.U4 (L4 (s:=s) (c:=.jC)) (λ_ _=>rfl) (λ_ _=>rfl) (B3 d (j.off.2.2 d)) (by rw[o];rfl) (by rw[o];rfl) (λp D=>D.elim) (λe=>by rw[o]at e;cases e) (λ⟨p,D⟩=>D.elim) (λi=>by unfold dZ;rw[o];rfl) (j.I.Yq o .wa) rfl j.gr (bg rfl) (λop r=>by obtain⟨e,Y,rfl⟩:=zR r;simp at Y;subst Y;exact⟨λa ha=>by simp[MemAct.ofEvent,MemAct.touch?]at ha,λa h=>by simp[MemAct.ofEvent]at h⟩)
 have S:Beside (bX P A Fin Z v) s (s.mc .jC s.gv s.gm) f (bR f A.cl ⟨su P A,kk A.cl,OO A.cl,g1,T⟩) q q kk kk OO OO J J w A.cl g g1:=ma v L4 (λi hi=>az _ _ hi) (λ_ _=>rfl) (λ_ _ _=>rfl) (λ_ _ _=>rfl) (λ_ _ h=>h) (.inl ⟨id,id⟩) (λ{i k O y} U=>B.kU (s:=s) (i:=i) (k:=k) (O:=O) (g:=y) U)
 refine⟨_,_,z,s.mc .jC s.gv s.gm,bR f A.cl ⟨su P A,kk A.cl,OO A.cl,g1,T⟩,q,kk,OO,J,(λ_=>False),_,_,_,rfl,DF o .wa,?_⟩
 refine bD.step B F V E hP R (λl y hl U=>B.th j hl _ _ U) S ⟨λ_=>?_,λh=>absurd h (HN d (.inl rfl)),λh=>absurd h (qZ (B3 d (j.off.2.2 d))),λh=>absurd (uV (.inl rfl)) h⟩
 rw[au];refine⟨by show A.cl<A.b+A.n+1;omega,rfl,?_,rfl,rfl,hr,?_,.inr hJ,Q9⟩
 . show su P A=cq P A Fin (s.mc .jC s.gv s.gm) A.cl
   rw[HO d (by simp[MS.mc])]
 . rw[Deaf_own,hd];rfl
end
def uW {P:adS} {y:Sy} {s:jT} {fr:Frame} {x:FuncId × List SV} {f:FuncId} {dL:adq} {kind:adK} (a:FR y s fr) (h:bb s=some x):fr≠Frame.enter P f dL kind:=fun e=>by
 obtain⟨ops,i,rest,kk,o,as,b,d,g,j,k,c,l⟩:=dv (f:=x.1) (svs:=x.2) a h;have:fr.todo = .inRegion ops (i :: rest) :: kk:=by rw[c];rfl
 rw[e] at this;simp[Frame.enter] at this
def B5{fr a:Frame}{cs b:adt}(h:G fr cs=G a b):fr=a:=by have:=congrArg Goroutine.frame h;exact this
section
variable{P:adS}{A:bH}{Fin:acP}{Z:Base}{s:MS P}{f:Nat->Node P}{q:adI}{kk:adN}{OO:adM}{J M:adC}{gs:acX}{w w':World}{t u:Trace}{j:Nat}{c:jB}{p:wP}{gv gm:Nat}{g g1:adF}
variable(C:gT P A.ng)(X:iN P A.ng)
include C in
def DG{b:Nat}{kind a:adK}{cs:adt}{f:FuncId}{dL:adq}{n:Nat}{Wd:adr}{d:adF}(h:jr P Wd n (G (Frame.enter P f dL a) cs) d)(g:rQ P A.ng b kind .w0 cs d):n≠0:=λe=>by subst e;obtain⟨c,y,fr,i,rfl,l,j,k,rfl⟩:=g;exact uW j (C.w0 b kind).1 (B5 h).symm
include C in
def L5{b:Nat}{kind a:adK}{cs:adt}{f:FuncId}{dL:adq}{n:Nat}{Wd:adr}{d:adF}(h:jr P Wd n (G (Frame.enter P f dL a) cs) d)(g:rQ P A.ng b kind .a0 cs d):n≠0:=λe=>by subst e;obtain⟨c,y,fr,i,rfl,l,j,k,rfl⟩:=g;exact uW j (C.a0 b kind).1 (B5 h).symm
include C in
def L6{b:Nat}{kind a:adK}{cs:adt}{f:FuncId}{dL:adq}{n:Nat}{Wd:adr}{d:adF}(h:jr P Wd n (G (Frame.enter P f dL a) cs) d)(g:rQ P A.ng b kind .d1 cs d):n≠0:=λe=>by subst e;obtain⟨c,y,fr,i,rfl,l,j,k,rfl⟩:=g;exact uW j (C.d1 b).1 (B5 h).symm
include C X in
def IY(h:A.b+A.n+1<=Z.lk)(i:bD (bX P A Fin Z h) Z s f q kk OO J M gs w t)(u:s.c=.eC){k:aj}{O:ak}{N:acP}(j:k=kk A.cl)(l:O=OO A.cl)(z:gs[A.cl]?=some g)(B:(xV P A).dh k O g N)(a:A.dir=false)(sl:acS):
 Goes P A Fin Z h s gs w t sl A.cl:=by
 have v:de P A Z s kk OO J M gs.size w t:=i.ex;obtain⟨_,_,_,_,_,_,m,_⟩:=i.live _ (uV (.inr u));obtain⟨rfl,x,rest,rfl,D⟩:=B;subst j l;obtain⟨E,⟨n,d⟩,y⟩:=qh (P:=P) (n:=A.ng) (b:=A.gb) (kind:=.normal) (cs:=x::rest) (Wd:=ln A) X C;cases n with
 |zero=>exact absurd rfl (DG C d y)
 |succ n=>obtain⟨g1,⟨F,o⟩,p⟩:=d;have r:ln A w:=(bf (P:=P) (A:=A) (Fin:=Fin) (Z:=Z) h).wd v;exact nz h i u .call m z (by rw[a];exact o false w r) v.gr (bg rfl) (λe G=>by simp at G) rfl id ⟨n,E,p,x,rest,y,by rw[aay (by rw[a];simp)];exact D⟩ sl
def tC(hj:j<A.n)(e:s.w j=.zg):dE P A s (A.b+j):=.inr (.inl ⟨j,hj,rfl,by simp_all⟩)
def uX(hj:j<A.n)(e:s.w j=.zg):¬fD P A s (A.b+j):=by
 have:=A.hb;rintro(⟨e,_⟩|⟨l,a,c,d⟩)
 . omega
 simp_all
include C X in
def IZ(r:A.b+A.n+1<=Z.lk)(u:bD (bX P A Fin Z r) Z s f q kk OO J M gs w t)(hj:j<A.n)(c:s.w j=.zg){k:aj}{O:ak}{N:acP}(H:gs[A.b+j]?=some g)(K:(lh P A).dh k O g N)(sl:acS):
 Goes P A Fin Z r s gs w t sl (A.b+j):=by
 have o:de P A Z s kk OO J M gs.size w t:=u.ex;have hb:=A.hb;obtain⟨_,_,_,_,_,_,v,_⟩:=u.live _ (tC hj c);obtain⟨rfl,F,fn,tmps,todo,y,p,rfl⟩:=K;have z:(A.b+j==0)=false:=by simp;omega
 obtain⟨L,⟨n,m⟩,G⟩:=xT (P:=P) (n:=A.ng) (b:=A.gb) (kind:=.deferred) (cs:=[kP P F tmps todo,cE P]) (Wd:=ln A) X (λw h=>h.1) C
 cases n with
 |zero=>exact absurd rfl (L6 C m G)
 | succ n=>
   obtain⟨g1,⟨Q,B⟩,D⟩:=m;have E:ln A w:=(bf (P:=P) (A:=A) (Fin:=Fin) (Z:=Z) r).wd o;obtain⟨x,d⟩:∃x:bn P,x=.dn .d1:=⟨_,rfl⟩;have a:(s.aW j x s.sh).w j=.dn .d1:=by rw[aX,d]
   have R:bO A.n (s.aW j x s.sh):=o.I.wT hj (by rw[c];rfl) (by rw[d];rfl) (.inl (by rw[d,c];rfl)) (by rw[d];rfl) (by rw[d,c];rfl)
   have S:MS.gq A.n (s.aW j x s.sh) s:=tz hj (by rw[d,c];simp[bn.cx])
   have hJ:J (A.b+j):=(o.hJ _).2 (.inl ⟨j,hj,rfl,by rw[c];rfl⟩)
   refine B0 (s':=s.aW j x s.sh) (f':=f) (q':=upd q (A.b+j) n) (es:=#[]) r u (iQ o.I hj (by rw[c];rfl)) (uX hj c) H (by rw[z];exact B false w E) (xY hj (.inl (by rw[d,c];rfl))) (λl _=>?_) (λl _=>?_) o.off rfl rfl id (oT hj (by rw[d,c];rfl)) R rfl o.gr (bg rfl) (.inl fN) S (.inl (.inr hJ)) (.inl id) (λ_ _=>rfl) (λi T=>upd_ne q n T) ?_ sl
   . by_cases e:l=j
     . subst e;rw[aX,d,c];rfl
     . rw[cy e]
   . by_cases e:l=j
     . subst e;rw[aX,d,c];rfl
     . rw[cy e]
   . refine⟨λU=>absurd U (kA hj a),λ_=>⟨kA hj a,?_,?_,L,?_,?_⟩,λV=>absurd V (qp hj a),λ_ W _=>absurd (mU hj a) W⟩
     . show A.b+j<A.b+A.n+1;omega
     . rw[Deaf_own,v]
       show _=dN P A (s.aW j x s.sh) (A.b+j);rw[eM hj,a];rfl
     . refine .inr (.inl ⟨j,hj,rfl,?_⟩)
       rw[a];exact⟨F,fn,tmps,todo,y,p,G⟩
     . exact .inr (by rw[upd_same];exact D)
end
section
variable{P:adS}
def MS.nA(s:MS P)(ms:oQ)(gc:Nat):MS P:={s with ms:=ms,gc:=gc}
inductive DH(s:MS P):oQ->oQ->adC
 |call (j:Nat):1<=j->DH s (.add j) (.bz j .a0) s.gc
 |a0 (j:Nat):DH s (.bz j .a0) (.bz j .a2) s.gc
 |a2 (j:Nat) (p:wP):p=.a4\/p=.ae->DH s (.bz j .a2) (.bz j p) (s.gc+1)
 |a4 (j:Nat):DH s (.bz j .a4) (.bz j .ae) s.gc
 |ae (j:Nat):DH s (.bz j .ae) (.spawn (j-1)) s.gc
def bO.ZP{n:Nat}{s:MS P}(I:bO n s){m0 m1:oQ}{gc:Nat}(f:s.ms=m0)(h:DH s m0 m1 gc):bO n (s.nA m1 gc)/\s.c=.none:=by
 have a:=I.ms;rw[f]at a;have d:s.c=.none:=by cases h<;>first|exact a.2|exact a.2.1
 obtain⟨k,i,g⟩:=I.calm (by rw[d];rfl);refine⟨⟨?_,I.g2,I.FO,λj b h=>?_,I.HH,λj b h=>?_,⟨I.g5.1,λh=>(by have h:s.gm=1:=h;omega)⟩,I.g6,λh=>(by have h:s.gv=1:=h;omega),λh=>?_,I.g9,I.ok,I.TB,I.sp,I.idle,?_,I.early,I.mu⟩,d⟩
 . have:=I.g1
   rw[f]at this;show gc=sumTo n (λj=>(s.w j).cnt)+m1.pend;cases h with
   |a2 j p e=>rcases e with rfl|rfl<;>simp_all [oQ.pend]
   |_=>simp_all [oQ.pend]
 . have h:s.w j=.dn .d5\/s.w j=.dn .d6:=h
   have:=g j b;rcases h with h|h<;>rw[h]at this<;>cases this
 . have h:s.w j=.dn .d7:=h
   have:=g j b;rw[h]at this;cases this
 . have h:s.c.LU=true:=h
   rw[d]at h;cases h
 . cases h with
   |call j b=>exact⟨a.1,a.2,b,.inl rfl⟩
   |a0 j=>exact⟨a.1,a.2.1,a.2.2.1,.inr (.inl rfl)⟩
   |a2 j p e=>exact⟨a.1,a.2.1,a.2.2.1,.inr (.inr e)⟩
   |a4 j=>exact⟨a.1,a.2.1,a.2.2.1,.inr (.inr (.inr rfl))⟩
   |ae j=>exact⟨by have l:=a.1;have m:=a.2.2.1;show s.sp+(j-1)+1=n;omega,a.2.1⟩
def L7{n:Nat}{s:MS P}{m0 m1:oQ}{gc:Nat}(a:s.c=.none)(hj:∀j p,m0=.bz j p->1<=j)(b:s.ms=m0)(h:DH s m0 m1 gc):MS.gq n (s.nA m1 gc) s:=by
 refine .inl ?_;show m1.cx+sumTo n (λi=>(s.w i).cx)+s.c.cx gc<s.ms.cx+sumTo n (λi=>(s.w i).cx)+s.c.cx s.gc;rw[b,a];have e:∀x,jB.cx x .none=0:=λ_=>rfl
 rw[e,e]
 have:m1.cx<m0.cx:=by
  cases h with
  |a2 j p d=>rcases d with rfl|rfl<;>simp[oQ.cx]
  |ae j=>have:=hj j .ae rfl;simp only[oQ.cx];omega
  |_=>simp[oQ.cx]
 omega
end
section
variable{P:adS}{A:bH}{Fin:acP}{Z:Base}{s:MS P}{f f':Nat->Node P}{q q':adI}{kk:adN}{OO:adM}{J M:adC}{gs:acX}{w w':World}{t u:Trace}{j:Nat}{c:jB}{p:wP}{gc:Nat}{g g1:adF}{m0 m1:oQ}
def FY(e:s.ms=.bz j p):gK P A s 0:=.inl ⟨rfl,by simp_all⟩
def HQ(b:s.c=.none)(e:s.ms=.bz j p):¬dE P A s 0:=by
 have:=A.hb;rintro(⟨_,a⟩|⟨l,d,f,a⟩|⟨_,a⟩)
 . simp_all
 . omega
 simp_all
def mW(e:s.ms≠.parked):¬fD P A s 0:=by
 have:=A.hb;rintro(⟨_,a⟩|⟨l,b,c,a⟩)
 . exact e a
 . omega
def HR(e:s.ms=.bz j p):dN P A s 0=tw p:=by
 unfold dN
 simp_all
def U8:fy A s (s.nA m1 gc) 0:=⟨λ_ _ _=>rfl,λ_=>rfl,λh=>absurd rfl h,rfl,rfl,.inl λ_ _=>rfl⟩
def uY(r:A.b+A.n+1<=Z.lk)(Q:bD (bX P A Fin Z r) Z s f q kk OO J M gs w t)(z:s.ms=m0)(o:DH s m0 m1 gc){d:Nat}(hd:Deaf t 0=d)(T:gs[0]?=some g){es:ads}(B:stepG P true g w=.go g1 w' es)
 (C:rP A.gb w' gc s.gv s.gm) (D:MW A.gb 0 w w') (E:R7 A.gb es)
 (U:(∃j p n y,m1=.bz j p/\deafBehind d es=tw p/\jr P (ln A) n g1 y/\Wi P A Fin (.bz j p) (kk 0) (OO 0) y)\/
   (∃j,m1=.spawn j/\deafBehind d es=0/\g1.status=.running/\∃R:TT P (FN P A Fin j) (kk 0) (OO 0) g1,True)) (sl:acS):Goes P A Fin Z r s gs w t sl 0:=by
 have S:de P A Z s kk OO J M gs.size w t:=Q.ex;have hb:=A.hb;have V:((0:Nat)==0)=true:=rfl;obtain⟨W,k⟩:=S.I.ZP z o;have F:s.c.isNone=true:=by rw[k];rfl
 have Y:MS.gq A.n (s.nA m1 gc) s:=L7 k (λj p e=>by have:=S.I.ms;simp_all) z o
 have ho:wB P A (s.nA m1 gc):=⟨λ_ h=>absurd k h,λ_=>⟨by cases o<;>simp[MS.nA],by cases o<;>simp[MS.nA],by rw[show(s.nA m1 gc).c=.none from k];simp⟩,λ_=>by cases o<;>simp[MS.nA]⟩
 have G:s.ms≠.parked:=by rw[z];cases o<;>simp
 have H:∀fn pos,Deaf (t++MemOp.ofEvents 0 fn pos es) 0=deafBehind d es:=λfn pos=>by rw[Deaf_own,hd]
 have go:∀(f':Nat->Node P) (q':adI),(∀i,i≠0->f' i=f i)->(∀i,i≠0->q' i=q i)->Self P (bX P A Fin Z r) (s.nA m1 gc) f' q' kk OO J (t++MemOp.ofEvents 0 g.frame.fn g.frame.place es) 0 g1->Goes P A Fin Z r s gs w t sl 0:=λf' q' hf hq m=>B0 (s':=s.nA m1 gc) r Q (.inl rfl) (mW G) T B U8 (λ_ _=>rfl) (λ_ _=>rfl) ho rfl rfl id (λi=>aaR) W rfl C D (.inr ⟨E,by rw[F];rfl⟩) Y (.inl (.inl rfl)) (.inl id) hf hq m sl
 rcases U with⟨j,p,n,y,rfl,u,v,K⟩|⟨j,rfl,u,hr,R,_⟩
 . have a:(s.nA (.bz j p) gc).ms=.bz j p:=rfl
   refine go f (upd q 0 n) (λ_ _=>rfl) (λi L=>upd_ne q n L) ⟨λhl=>absurd hl (HQ (s:=s.nA (.bz j p) gc) k a),λ_=>⟨HQ (s:=s.nA (.bz j p) gc) k a,?_,?_,y,?_,?_⟩,λhh=>absurd hh (mW (by simp_all)),λ_ F _=>absurd (FY a) F⟩
   . show 0<A.b+A.n+1;omega
   . rw[H,u]
     show _=dN P A (s.nA (.bz j p) gc) 0;rw[HR a]
   . exact .inl ⟨rfl,K⟩
   . exact .inr (by rw[upd_same];exact v)
 . have N:dE P A (s.nA (.spawn j) gc) 0:=.inl ⟨rfl,trivial⟩
   have O:¬gK P A (s.nA (.spawn j) gc) 0:=by
    rintro(⟨_,x⟩|⟨l,h1,h2,x⟩|⟨_,x⟩)
    . exact x
    . omega
    . rw[show(s.nA (.spawn j) gc).c=.none from k]at x;exact x
   refine go (bR f 0 ⟨FN P A Fin j,kk 0,OO 0,g1,R⟩) q (λi L=>az _ _ L) (λ_ _=>rfl) ⟨λ_=>?_,λh=>absurd h O,λh=>absurd h (mW (by simp[MS.nA])),λh=>absurd N h⟩
   rw[au];refine⟨by show 0<A.b+A.n+1;omega,rfl,?_,rfl,rfl,hr,by grind,.inl rfl,λl h X h1 h2 _=>by omega⟩
   show FN P A Fin j=cq P A Fin (s.nA (.spawn j) gc) 0;unfold cq;rw[aaB rfl];rfl
variable(C:gT P A.ng)(X:iN P A.ng)
include C X in
def DI(z:A.b+A.n+1<=Z.lk)(B:bD (bX P A Fin Z z) Z s f q kk OO J M gs w t)(o:s.ms=.bz j p)(D:gs[0]?=some g)(N:Wi P A Fin (.bz j p) (kk 0) (OO 0) g)(sl:acS):Goes P A Fin Z z s gs w t sl 0:=by
 have K:de P A Z s kk OO J M gs.size w t:=B.ex;have E:=K.I.ms;rw[o]at E;obtain⟨_,W,Y,hp⟩:=E;obtain⟨O,a7,hl⟩:=K.I.calm (by rw[W];rfl)
 obtain⟨S,rest,L,U⟩:=N;have i:=K.gr;have hn:=A.hn;have Q:CallKind.normal≠CallKind.early:=by decide
 have nx:∀{V g1},iO P A.ng A.gb .normal (ln A) V (S::rest) g1->∃n c,jr P (ln A) n g1 c/\Wi P A Fin (.bz j V) (kk 0) (OO 0) c:=λ⟨_,c,⟨n,hs⟩,hA⟩=>⟨n,c,hs,S,rest,hA,U⟩
 have hd:Deaf t 0=tw p:=by obtain⟨_,_,R,_⟩:=B.walk _ (FY o);rw[R];show dN P A s 0=_;rw[HR o]
 have F:∀l,l<A.n->(s.w l).cnt<=1:=λl _=>by
  cases e:s.w l with
  |dn p=>cases p<;>simp[bn.cnt]
  |_=>simp[bn.cnt]
 have a8:s.gc<=A.n+1:=by
  have r:=K.I.g1;have u:sumTo A.n (λj=>(s.w j).cnt)<=A.n:=oX A.n F
  have h3:s.ms.pend<=1:=by cases s.ms<;>simp[oQ.pend];split<;>omega
  omega
 rcases hp with rfl|rfl|rfl|rfl
 . obtain⟨g1,a,hN⟩:=WV (Wd:=ln A) (main:=true) (w:=w) C X L Q
   obtain⟨n,c,r,u⟩:=nx hN;exact uY z B o (.a0 j) hd D a i (bg rfl) (λe d=>by simp at d;subst d;exact .inl (.inl (.inl rfl))) (.inl ⟨j,_,n,c,rfl,rfl,r,u⟩) sl
 . have x:=i
   rw[O]at x;obtain⟨g1,w',a,rfl,y,hN⟩:=WW (Wd:=ln A) (main:=true) (v:=0) C X (λw h=>h.2.1) x (by omega) L
   have G:R7 A.gb #[⟨.cell ⟨A.gb,0,none⟩,false,true⟩,⟨.cell ⟨A.gb,0,none⟩,true,true⟩]:=λe d=>by simp at d;rcases d with rfl|rfl<;>exact .inl (.inr ⟨0,.inl rfl,rfl,rfl⟩)
   rcases hN with hN|hN
   . obtain⟨n,c,r,u⟩:=nx hN
     exact uY z B o (.a2 j _ (.inl rfl)) hd D a (by rw[O];exact y) (⟨⟨.refl _,rfl⟩,.inr ⟨0,_,.inl rfl,rfl,rfl⟩⟩) G (.inl ⟨j,_,n,c,rfl,rfl,r,u⟩) sl
   . obtain⟨n,c,r,u⟩:=nx hN
     exact uY z B o (.a2 j _ (.inr rfl)) hd D a (by rw[O];exact y) (⟨⟨.refl _,rfl⟩,.inr ⟨0,_,.inl rfl,rfl,rfl⟩⟩) G (.inl ⟨j,_,n,c,rfl,rfl,r,u⟩) sl
 . obtain⟨g1,a,hN⟩:=WX (Wd:=ln A) (main:=true) (w:=w) C X L Q
   obtain⟨n,c,r,u⟩:=nx hN;exact uY z B o (.a4 j) hd D a i (bg rfl) (λe d=>by simp at d;subst d;exact .inr ⟨1,.inr rfl,.inl rfl⟩) (.inl ⟨j,_,n,c,rfl,rfl,r,u⟩) sl
 . obtain⟨g1,a,hr,⟨k,H⟩⟩:=WZ (Wd:=λ_=>True) (main:=true) (w:=w) C X L Q
   obtain⟨tr⟩:=T.tree (P:=P) (m:=FN P A Fin (j-1)) rfl U;obtain⟨T,_⟩:=TT.pre H tr;exact uY z B o (.ae j) hd D a i (bg rfl) (λe d=>by simp at d;subst d;exact .inl (.inl (.inr rfl))) (.inr ⟨j-1,rfl,rfl,hr,T,trivial⟩) sl
include C X in
def L8(c:A.b+A.n+1<=Z.lk)(d:bD (bX P A Fin Z c) Z s f q kk OO J M gs w t)(r:s.ms=.add (j+1)){k:aj}{O:ak}{N:acP}(h:k=kk 0)(i:O=OO 0)(y:gs[0]?=some g)(z:(pH P A Fin (j+1)).dh k O g N)(sl:acS):
 Goes P A Fin Z c s gs w t sl 0:=by
 have u:de P A Z s kk OO J M gs.size w t:=d.ex;obtain⟨_,_,_,_,_,_,l,_⟩:=d.live 0 (.inl ⟨rfl,by rw[r];trivial⟩);obtain⟨rfl,v,rest,rfl,B⟩:=z;subst h i;obtain⟨D,⟨n,a⟩,x⟩:=zy (P:=P) (n:=A.ng) (b:=A.gb) (kind:=.normal) (cs:=v::rest) (Wd:=ln A) X;cases n with
 |zero=>exact absurd rfl (L5 C a x)
 |succ n=>obtain⟨g1,⟨E,m⟩,o⟩:=a;have p:ln A w:=(bf (P:=P) (A:=A) (Fin:=Fin) (Z:=Z) c).wd u;exact uY c d r (.call (j+1) (by omega)) l y (m true w p) u.gr (bg rfl) (λe F=>by simp at F) (.inl ⟨j+1,.a0,n,D,rfl,rfl,o,v,rest,x,B⟩) sl
end
