import Derived.Test.YtebcbkhnlnkolaaGreatDoorC10
set_option linter.all false
namespace Go.bU
section
open Go.Conc
open Go.ConcN (sumTo upd sumTo_upd upd_ne upd_same)
section
variable{P:adY}{A:bY}{Fin:adr}{Z:Base}{s:MS P}{f:Nat->Node P}{q:adS}{kk:adX}{OO:adW}{J M:adM}{gs:adv}{gsz:Nat}{w:World}{t u:Trace}{j:Nat}{g:adP}{x:bD P}{xo:Own}{a:qF}
def dq.give(Y:A.b+A.n+1<=Z.lk)(h:dq P A Z s kk OO J M gsz w t)(hj:j<A.n)(k:(s.w j).work=true)(D:x.work=true)(O:∀l,l<A.n->(s.w l).owns=true->l=j)(R:x.owns=false)(S:cj A.n (s.bc j x s.sh))(T:lz (kk (A.b+j)) xo a)(E:A.GI a)(F:x.iY=(s.w j).iY)(U:A.dir=true->(kk (A.b+j)).cell A.fb (A.cell j)=some (A.val j))(V:∀op∈u,op.act.touch?=none/\∀a,op.act≠.mark (.release a)):
 dq P A Z (s.bc j x s.sh) (pQ kk Z.lk (A.b+j)) (gz OO Z.lk (A.b+j) A.mb A.fb xo) J M gsz w (t++u):=by
 have W:A.b+j≠Z.lk:=by omega
 have p:x.busy=(s.w j).busy:=by rw[(bN k).2.2.2.2.2.1,(bN D).2.2.2.2.2.1]
 have G:∀l,l≠Z.lk->pQ kk Z.lk (A.b+j) l=kk l:=λl d=>az _ _ d
 have H:pQ kk Z.lk (A.b+j) Z.lk=kk (A.b+j):=ao _ _ _;have eO:∀l,l≠A.b+j->l≠Z.lk->gz OO Z.lk (A.b+j) A.mb A.fb xo l=OO l:=λl k D=>by unfold gz;rw[az _ _ D,az _ _ k]
 have z:gz OO Z.lk (A.b+j) A.mb A.fb xo (A.b+j)=((OO (A.b+j)).del A.mb).del A.fb:=by unfold gz;rw[az _ _ W,ao]
 have f:gz OO Z.lk (A.b+j) A.mb A.fb xo Z.lk=ak.bot.set A.mb xo:=by unfold gz;rw[ao]
 have B:cr P A s (A.b+j):=jj h.I hj (bN k).2.2.2.2.1
 have C:∀l,l<A.n->((s.bc j x s.sh).w l).owns=false:=λl d=>by
  by_cases e:l=j
  . subst e;rw[bd];exact R
  . rw[cN e]
    grind
 refine⟨S,h.size,h.dd,h.off,λhd l d=>⟨λr=>?_,λQ=>?_⟩,h.Bp,h.mu,h.gr,h.wC,h.AA,λi=>?_,λi=>?_,λi y v=>?_,λl d K=>?_,λK=>?_,λc L=>?_,
  λi=>by rw[h.hJ i];exact(pN hj p i).symm,h.wE u,h.nB u,h.kY u (λop g a N=>by grind),h.pM u (λop g a N=>by grind),h.qT u,h.kg u (λop g=>(V op g).2),λi d hb=>?_,h.tW,h.kL,h.fQ,h.la,by simp;exact aaE h.n0 (abU _ _)⟩
 . have r:(s.w l).iY=false:=by
    by_cases e:l=j
    . subst e;rw[bd,F]at r;exact r
    . rw[cN e]at r;exact r
   refine⟨λi=>?_,λm a X N q q'=>(eG N).elim (λk=>((h.Al hd l d).1 r).2 m a X k.1 q q') (λ⟨op,g,k⟩=>by grind)⟩
   have k:=((h.Al hd l d).1 r).1
   grind
 . rw[G _ (by omega)]
   by_cases e:l=j
   . grind
   . rw[cN e]at Q;exact(h.Al hd l d).2 Q
 . by_cases o:i=Z.lk
   . subst o;rw[f];simp only[ak.set,A.d3,A.d6,aat];exact⟨λ_=>rfl,rfl⟩
   by_cases e:i=A.b+j
   . subst e;rw[z]
     have:=h.im (A.b+j);simp only[ak.del,A.d1,A.d3,zs A.d4,A.d6,aat];exact this
   . rw[eO i e o];exact h.im i
 . by_cases o:i=Z.lk
   . subst o;rw[H];exact h.fa _
   . rw[G i o];exact h.fa i
 . exfalso
   by_cases o:i=Z.lk
   . subst o;rw[f]at v
     simp only[ak.set,A.d5,aat]at v;cases v
   by_cases e:i=A.b+j
   . subst e;rw[z]at v;simp[ak.del]at v
   . rw[eO i e o]at v
     obtain⟨l,_,d,h3,ho,_⟩:=h.tok i y v
     grind
 . grind
 . refine⟨xo,a,by rw[f];simp[ak.set],by grind,E⟩
 . rw[f]at L
   refine⟨?_,C⟩
   by_cases e:c=A.mb
   . exact e
   . simp only[ak.set,e,aat]at L;exact absurd rfl L
 . have e:i≠A.b+j:=λe=>hb (e ▸ B)
   rw[G i d,eO i e d];exact h.EK i d hb
variable(C:ij P A.nm)(X:ik P A.nm)
include C X in
def QF  z  (S:bP (cE P A Fin Z z) Z s f q kk OO J M gs w t) (hj:j<A.n){Y}(o:s.w j=.un .ur Y) (hg:gs[A.b+j]?=some g) (W:ID P A j (.un .ur Y) (kk (A.b+j)) (OO (A.b+j)) g)  sl :
 Goes P A Fin Z z s gs w t sl (A.b+j):=by
 have u:dq P A Z s kk OO J M gs.size w t:=S.ex;have B:=bs (P:=P) (A:=A) (Fin:=Fin) (Z:=Z) z;have T:(s.w j).kZ=true:=by rw[o];rfl
 have U:=jA T;have a7:(s.w j).pc=.held:=by rw[o];rfl
 have hb:=A.hb;have d:A.b+j≠Z.lk:=by omega
 have a8:(A.b+j==0)=false:=by simp;omega
 have D:∀l,l<A.n->(s.w l).owns=true->l=j:=λl E e=>ET u.I hj a7 E e
 obtain⟨kind,c,rest,hk,hM,hm,a9,b0⟩:=W;obtain⟨tf,xo,a,b1,DK,ad,al,av,hN⟩:=a9 (.inr rfl);obtain⟨g1,F,hr,g2,⟨k,G⟩,H⟩:=Iq (Wd:=lU A) (main:=false) (w:=w) C X hM;rw[<-u.la]at F;have ax:pQ kk Z.lk (A.b+j) (A.b+j)=kk (A.b+j):=az _ _ d;have ay:gz OO Z.lk (A.b+j) A.mb A.fb xo (A.b+j)=((OO (A.b+j)).del A.mb).del A.fb:=by unfold gz;rw[az _ _ d,ao]
 have K:=runT_crowd_go (P:=P) (sl:=sl) (i:=A.b+j) hg (by rw[a8];exact F)
 have aC:=jB (P:=P) (A:=A) (s:=s) hj T
 have p:Deaf t (A.b+j)=0:=by obtain⟨_,_,p,_⟩:=S.walk _ aC;rw[p];show eu P A s (A.b+j)=0;rw[fF hj,o];rfl
 have L:∀op∈MemOp.ofEvents (A.b+j) g.frame.fn g.frame.place #[⟨.mark (.releaseMerge Z.la),false,true⟩],op.g=A.b+j:=λop v=>by obtain⟨e,_,rfl⟩:=KC v;rfl
 have aE:∀op∈MemOp.ofEvents (A.b+j) g.frame.fn g.frame.place #[⟨.mark (.releaseMerge Z.la),false,true⟩],op.act.touch?=none/\∀a,op.act≠.mark (.release a):=λop v=>by obtain⟨e,he,rfl⟩:=KC v;simp at he;subst he;exact⟨rfl,λa h=>by simp[MemAct.ofEvent]at h⟩
 have N:A.fb<w.heap.size:=by obtain⟨c,e,T⟩:=u.wC;exact(zA.1 T).1
 have Q:∀c,OO Z.lk c=none:=λc=>by
  cases e:OO Z.lk c with
  |none=>rfl
  | some y=>
    have:=(u.PJ c (by rw[e];simp)).2 j hj
    rw[o]at this;cases this
 have hP:=S.c8.VO (fb:=A.fb) d DK Q (by rw[u.la];exact N) p g.frame.fn g.frame.place
 obtain⟨x,m⟩:∃x:bD P,x=.un .ud Y:=⟨_,rfl⟩;have V:x.work=true:=by rw[m];rfl
 have r:((s.bc j x s.sh).w j).kZ=true:=by rw[bd,m];rfl
 have hI:cj A.n (s.bc j x s.sh):=u.I.still hj U V (by rw[m];rfl) (by rw[m,o];rfl)
 have hL:MS.gX A.n (s.bc j x s.sh) s:=mR hj U V (by rw[m,o];rfl) (by rw[m,o];rfl) (by rw[m,o];simp[bD.ex])
 have aL:=u.give z hj U V D (by rw[m];rfl) hI ad al (by rw[m,o];rfl) av aE
 have aO:Beside (cE P A Fin Z z) s (s.bc j x s.sh) f f q (upd q (A.b+j) k) kk (pQ kk Z.lk (A.b+j)) OO (gz OO Z.lk (A.b+j) A.mb A.fb xo) J J w (A.b+j) g g1:=nC z hj U V (λi R=>rfl) (λi R=>upd_ne q k R) (λi R ht=>az _ _ (show i≠Z.lk by omega)) (λi R ht=>by unfold gz;rw[az _ _ (show i≠Z.lk by omega),az _ _ R]) (λ_ h=>h) (.inl λh=>h) (λ{i k O y} H=>B.lM (s:=s) (i:=i) (k:=k) (O:=O) (g:=y) H)
 refine⟨_,_,K,s.bc j x s.sh,f,upd q (A.b+j) k,pQ kk Z.lk (A.b+j),gz OO Z.lk (A.b+j) A.mb A.fb xo,J,M,_,_,_,rfl,hL,?_⟩;refine bP.step B S hg L hP aL (λl y E H=>B.tZ u E _ _ H) aO ⟨λE=>absurd E (nD hj r),λ_=>⟨nD hj r,?_,?_,g2,?_,?_⟩,λhh=>absurd hh (qV hj r),λ_ hn _=>absurd (jB hj r) hn⟩
 . show A.b+j<A.b+A.n+1;omega
 . rw[Deaf_own,p]
   show _=eu P A (s.bc j x s.sh) (A.b+j);rw[fF hj,bd,m];rfl
 . refine .inr (.inl ⟨j,hj,rfl,?_⟩)
   rw[bd,m,ax,ay];exact⟨kind,c,rest,hk,H,hm,λh=>absurd h (by simp),λ_=>hN⟩
 . exact .inr (by rw[upd_same];exact G)
end
section
variable{P:adY}{A:bY}{Fin:adr}{Z:Base}{s:MS P}{f:Nat->Node P}{q:adS}{kk:adX}{OO:adW}{J M:adM}{gs:adv}{w w':World}{t:Trace}{j:Nat}{x:bD P}{sh:Mu.Sh}{g g1:adP}
def EU  n :20<=CY n:=by unfold CY;omega
def rV{X h}(hj:j<A.n)(a:s.w j=.run h X){y}(b:x.nd=some y)(c:x.work=true)(hu:y=X\/Relation.TransGen qy y X)
 (hi:4*Mu.meas A.n (Mu.set (λi=>(s.w i).pc) j x.pc) sh+x.ex A.n<4*Mu.meas A.n (λi=>(s.w i).pc) s.sh+2*CY A.n):MS.gX A.n (s.bc j x sh) s:=by
 have d:(s.w j).work=true:=by rw[a];rfl
 rcases hu with rfl|hu
 . exact xH hj d c (by rw[b,a];rfl) (by rw[a];exact hi)
 . exact C0 hj d c ⟨y,X,b,by rw[a];rfl,hu⟩
variable(C:ij P A.nm)(X:ik P A.nm)(F:nj P A.nm)
include C X F in
def JQ  D  (H:bP (cE P A Fin Z D) Z s f q kk OO J M gs w t) (hj:j<A.n){h X0}(a:s.w j=.run h X0){Y:JM P}(hf:f (A.b+j)=Y.node) (hl:RS P A j Y.k Y.O Y.g Y.N)  sl :
 Goes P A Fin Z D s gs w t sl (A.b+j):=by
 have B:dq P A Z s kk OO J M gs.size w t:=H.ex;obtain⟨_,d,l,r,u,_,E,_,y⟩:=H.live _ (lf hj a);rw[hf]at d l r u y;have d:gs[A.b+j]?=some Y.g:=d;have r:Y.k=kk (A.b+j):=r;have u:Y.O=OO (A.b+j):=u;have l:Y.m=iX P A j:=by have:Y.m=cS P A Fin s (A.b+j):=l;rw[this,oT hj a]
 obtain⟨kind,c,rest,e,hk,hg,K,z,G,L⟩:=hl;rw[r]at z L;rw[u]at K L
 have hh:h=false:=by
  cases h with
  |false=>rfl
  |true=>exact absurd K (B.AB j hj (by rw[a];rfl))
 subst hh;have Q:(s.w j).work=true:=by rw[a];rfl
 have v:(s.w j).pc=.out:=by rw[a];rfl
 have hu:=y j false X0 hj rfl a Y.node (.inl rfl) trivial;obtain⟨g2,⟨n,p⟩,R⟩:=sC (P:=P) (n:=A.nm) (b:=A.fb) (o:=A.fo) (kind:=kind) (cs:=c::rest) (Wd:=lU A) F;rw[<-hg]at p;have a9:=EU A.n;cases n with
 | zero=>
   have e0:Y.g=g2:=p;rw[<-e0]at R;obtain⟨g1,S,hr,g3,⟨k,T⟩,U⟩:=CQ (Wd:=lU A) (main:=false) (w:=w) C X R;refine EO (x:=.lk .iU Y) (sh:=s.sh) D H hj Q E (kM hj a) rfl (by rw[a];rfl) (λ_=>by rw[a];rfl) (B.I.Zc hj Q rfl rfl v rfl) (rV hj a rfl rfl hu ?_) d S (bt rfl) B.mu (λe he=>by simp at he;subst he;exact .inl (.inl rfl)) rfl ⟨k,g3,T,kind,c,rest,e,hk,U,l,K,z,G,L⟩ (.inl λV=>V) sl
   show 4*Mu.meas A.n (Mu.set (λi=>(s.w i).pc) j .iU) s.sh+0<_
   rw[EN hj v];unfold CY;omega
 | succ n=>
   obtain⟨g1,⟨ad,W⟩,a7⟩:=p;have a8:lU A w:=(bs (P:=P) (A:=A) (Fin:=Fin) (Z:=Z) D).wd B;refine EO (x:=.lk .ld Y) (sh:=s.sh) D H hj Q E (kM hj a) rfl (by rw[a];rfl) (λ_=>by rw[a];rfl) (B.I.still hj Q rfl rfl (by rw[v];rfl)) (rV hj a rfl rfl hu ?_) d (W false w a8) (bt rfl) B.mu gy rfl ⟨n,g2,a7,kind,c,rest,e,hk,R,l,K,z,G,L⟩ (.inl λV=>V) sl
   have e1:Mu.set (λi=>(s.w i).pc) j (bD.lk .ld Y).pc=λi=>(s.w i).pc:=by
    have:=kh (λi=>(s.w i).pc) j
    rw[show(s.w j).pc=(bD.lk .ld Y).pc from v]at this
    exact this
   rw[e1];show _+CY A.n<_;omega
end
section
variable{P:adY}{A:bY}{Fin:adr}{Z:Base}{s:MS P}{f:Nat->Node P}{q:adS}{kk:adX}{OO:adW}{J M:adM}{gs:adv}{w w':World}{t:Trace}{j:Nat}{x:bD P}{sh:Mu.Sh}{g g1:adP}
variable(C:ij P A.nm)(X:ik P A.nm)(F:nj P A.nm)
include C X F in
def EV  H  (R:bP (cE P A Fin Z H) Z s f q kk OO J M gs w t) (hj:j<A.n){h X0}(d:s.w j=.run h X0){Y:JM P}(hf:f (A.b+j)=Y.node) (hl:IB P A j Y.k Y.O Y.g (Gd P A Y.N))  sl :
 Goes P A Fin Z H s gs w t sl (A.b+j):=by
 have D:dq P A Z s kk OO J M gs.size w t:=R.ex;obtain⟨_,e,p,y,z,_,K,_,B⟩:=R.live _ (lf hj d);rw[hf]at e p y z B;have e:gs[A.b+j]?=some Y.g:=e;have y:Y.k=kk (A.b+j):=y;have z:Y.O=OO (A.b+j):=z;have p:Y.m=iX P A j:=by have:Y.m=cS P A Fin s (A.b+j):=p;rw[this,oT hj d]
 obtain⟨kind,c,rest,tf,xo,a,hk,hg,E,DK,L,T,Q,U⟩:=hl;rw[y]at L Q U;rw[z]at E DK U
 have hh:h=true:=by
  obtain⟨l,_,hl,h2,h3,_⟩:=D.tok _ _ E;obtain rfl:l=j:=by omega
  rw[d]at h3;exact h3
 subst hh;have S:(s.w j).work=true:=by rw[d];rfl
 have G:(s.w j).pc=.held:=by rw[d];rfl
 have hu:=B j true X0 hj rfl d Y.node (.inl rfl) trivial;obtain⟨g2,⟨n,r⟩,V⟩:=qo (P:=P) (n:=A.nm) (b:=A.fb) (o:=A.fo) (kind:=kind) (cs:=c::rest) (Wd:=lU A) F;rw[<-hg]at r;have av:=EU A.n
 have e1:Mu.set (λi=>(s.w i).pc) j .held=λi=>(s.w i).pc:=by
  have:=kh (λi=>(s.w i).pc) j
  rw[show(s.w j).pc=.held from G]at this
  exact this
 have u:∃f x a,OO (A.b+j) A.fb=some (.part f)/\OO (A.b+j) A.mb=some x/\lz (kk (A.b+j)) x a/\A.GI a/\(A.dir=true->(kk (A.b+j)).cell A.fb (A.cell j)=some (A.val j))/\Gd P A Y.N (kk (A.b+j)) (((OO (A.b+j)).del A.mb).del A.fb) (kT kind c rest (.tuple #[])):=⟨tf,xo,a,E,DK,L,T,Q,U⟩;cases n with
 | zero=>
   have e0:Y.g=g2:=r;rw[<-e0]at V;obtain⟨v,hv⟩:=((bs (P:=P) (A:=A) (Fin:=Fin) (Z:=Z) H).wd D).2.2;obtain⟨g1,W,hr,g3,⟨k,a7⟩,a8⟩:=yP (Wd:=lU A) (main:=false) (w:=w) C X (λw h=>h.2.2) hv V
   refine EO (x:=.un .ur Y) (sh:=s.sh) H R hj S K (kM hj d) rfl (by rw[d];rfl) (λ_=>by rw[d];rfl) (D.I.still hj S rfl rfl (by rw[G];rfl)) (rV hj d rfl rfl hu ?_) e W (bt rfl) D.mu gy rfl ⟨k,g3,a7,kind,c,rest,hk,a8,p,λ_=>u,λh=>absurd (.inr rfl) h⟩ (.inl λh0=>h0) sl
   show 4*Mu.meas A.n (Mu.set (λi=>(s.w i).pc) j .held) s.sh+4<_
   rw[e1];omega
 | succ n=>
   obtain⟨g1,⟨ax,a9⟩,ad⟩:=r;have al:lU A w:=(bs (P:=P) (A:=A) (Fin:=Fin) (Z:=Z) H).wd D;refine EO (x:=.un .Im Y) (sh:=s.sh) H R hj S K (kM hj d) rfl (by rw[d];rfl) (λ_=>by rw[d];rfl) (D.I.still hj S rfl rfl (by rw[G];rfl)) (rV hj d rfl rfl hu ?_) e (a9 false w al) (bt rfl) D.mu gy rfl ⟨n,g2,ad,kind,c,rest,hk,V,p,λ_=>u,λh=>absurd (.inl rfl) h⟩ (.inl λh0=>h0) sl
   show 4*Mu.meas A.n (Mu.set (λi=>(s.w i).pc) j .held) s.sh+5<_
   rw[e1];omega
end
section
variable{P:adY}{A:bY}{Z:Base}{s:MS P}{kk:adX}{OO:adW}{J M:adM}{gsz:Nat}{w w':World}{t:Trace}
def dq.VP(h:dq P A Z s kk OO J M gsz w t)(a:MW A.gb 0 w w'):Calm Z w w':=by obtain⟨d,c,_⟩:=pP a h.AA;have:=h.fQ.2.2;exact⟨a.1,λb hb=>c b (by omega)⟩
def dq.VQ(h:dq P A Z s kk OO J M gsz w t)(d:MW A.gb 0 w w'):∀b,Kept kk OO w w' b:=λb=>by
 obtain⟨p,f,c,e,g,j,k,l,q⟩:=pP d h.AA;by_cases hb:b=A.gb
 . subst hb
   refine .inr (.inr ⟨c,g,e,j,k,l,λi x a=>(by rw[(h.im i).2]at a;cases a),λn=>?_⟩);by_cases m:n=0
   . subst m;exact .inr λi=>(h.fa i).2.2.1
   . by_cases o:n=1
     . subst o;exact .inr λi=>(h.fa i).2.2.2
     simp_all
 . exact .inl (f b hb)
def dq.RY(h:dq P A Z s kk OO J M gsz w t){n}(a:n=0\/n=1):Ma kk OO w.heap.size (.cell ⟨A.gb,n,none⟩):=by
 have b:A.gb<w.heap.size:=by obtain⟨c,e,d⟩:=h.AA;grind
 refine⟨b,λi=>⟨eP (h.im i).2,?_⟩⟩
 rcases a with rfl|rfl
 . exact(h.fa i).2.2.1
 . exact(h.fa i).2.2.2
def dq.MX(h:dq P A Z s kk OO J M gsz w t){es}(p:EvM A.gb 0 es){i}(hi:cr P A s i)  fn   pos :
 C1 kk OO w.heap.size t i (MemOp.ofEvents i fn pos es)/\(∀op∈MemOp.ofEvents i fn pos es,op.act.low w.heap.size)/\(∀op∈MemOp.ofEvents i fn pos es,(∀a,op.act.touch?=some a->a.kind=.atomic/\Ak A a.loc)/\∀a,op.act≠.mark (.release a))/\
 ∀op∈MemOp.ofEvents i fn pos es,∀a,op.act.touch?=some a->Z.Shun a.loc:=by
 have v:A.gb<w.heap.size:=by obtain⟨c,e,j⟩:=h.AA;grind
 refine⟨λop d a k=>?_,λop d=>?_,λop d=>?_,λop d a k=>?_⟩<;>obtain⟨e,l,rfl⟩:=KC d<;>obtain⟨o,q,x⟩:=oR (p e l)
 . obtain⟨j,n,f,g⟩:=o a k
   have f:n=0\/n=1:=by omega
   refine⟨j,λ_=>by rw[g];exact h.RY f,λm b hb r u=>h.quiet m b hb ?_ u i hi⟩
   rw[r,g];exact⟨rfl,.inr ⟨rfl,f⟩⟩
 . grind
 . refine⟨λa k=>?_,q⟩
   obtain⟨j,n,f,g⟩:=o a k;exact⟨j,by rw[g];exact⟨rfl,.inr ⟨rfl,by omega⟩⟩⟩
 . obtain⟨j,n,f,g⟩:=o a k
   have f:n=0\/n=1:=by omega
   rw[g];exact h.tW _ ⟨rfl,.inr ⟨rfl,f⟩⟩ ⟨_,rfl,rfl⟩
def JR{Z J M t u}{i m:Nat}{op a}(e:u[m]?=some op)(f:op.act.touch?=some a)(b:Z.Shun a.loc)(c:a.kind=.atomic)(d:¬(t++u).counts (t.size+m)):Told Z J M (t++u) (t.size+m) a:=.inr (.inr (.inr ⟨b,c,λh=>absurd h d⟩))
end
end
section
open Go.Conc
open Go.ConcN (sumTo upd sumTo_upd upd_ne upd_same)
variable{P:adY}
section
variable{s:MS P}{j n:Nat}{x:bD P}{sh:Mu.Sh}
def um(hj:j<n)(h:x.cM<(s.w j).cM):MS.gX n (s.bc j x sh) s:=by
 have:=uk (s:=s) (x:=x) (sh:=sh) bD.cM hj;refine .inl ?_;show s.ms.cM+sumTo n (λi=>((s.bc j x sh).w i).cM)+s.c.cM s.gc<s.ms.cM+sumTo n (λi=>(s.w i).cM)+s.c.cM s.gc;omega
def cj.xJ(I:cj n s)(hj:j<n)(a:(s.w j).CZ=true)(b:x.CZ=true)(c:x.ji=(s.w j).ji\/s.d=true)(e:x.ok=true)(f:x.pc=(s.w j).pc):cj n (s.bc j x s.sh):=I.same hj a b c e (by rw[f,kh (λi=>(s.w i).pc)];exact I.mu)
end
end
section
open Go.Conc
open Go.ConcN (sumTo upd sumTo_upd upd_ne upd_same)
section
variable{P:adY}{A:bY}{Fin:adr}{Z:Base}{s:MS P}{f f':Nat->Node P}{q q':adS}{kk kk':adX}{OO OO':adW}{J J' M:adM}{gs:adv}{w w':World}{t:Trace}{j:Nat}{x:bD P}{sh:Mu.Sh}{g g1:adP}
def nE(hj:j<A.n){p}(e:s.w j=.dn p):il P A s (A.b+j):=.inr (.inl ⟨j,hj,rfl,by simp_all⟩)
def lg(hj:j<A.n){p}(e:s.w j=.dn p):¬dR P A s (A.b+j):=by
 have:=A.hb;rintro(⟨e,_⟩|⟨l,a,c,d⟩|⟨e,_⟩)
 . omega
 . simp_all
 . omega
def qW(hj:j<A.n){p}(e:s.w j=.dn p):¬fY P A s (A.b+j):=by
 have:=A.hb;rintro(⟨e,_⟩|⟨l,a,c,d⟩)
 . omega
 simp_all
end
section
variable{P:adY}{A:bY}{Fin:adr}{Z:Base}{s:MS P}{f:Nat->Node P}{q:adS}{kk:adX}{OO:adW}{J M:adM}{gs:adv}{gsz:Nat}{w w':World}{t u:Trace}{j:Nat}{x:bD P}{sh:Mu.Sh}{g:adP}
variable(C:iC P A.ng)(X:jg P A.ng)
include C X in
def QG  z  (L:bP (cE P A Fin Z z) Z s f q kk OO J M gs w t) (hj:j<A.n) (d:s.w j=.dn .d2) (hg:gs[A.b+j]?=some g) (N:ID P A j (.dn .d2) (kk (A.b+j)) (OO (A.b+j)) g)  sl :
 Goes P A Fin Z z s gs w t sl (A.b+j):=by
 have r:dq P A Z s kk OO J M gs.size w t:=L.ex;have B:=bs (P:=P) (A:=A) (Fin:=Fin) (Z:=Z) z;have hb:=A.hb;have Q:(A.b+j==0)=false:=by simp;omega
 obtain⟨fw,fn,tmps,todo,R,D,hM⟩:=N;obtain⟨g1,S,hr,g2,⟨k,E⟩,F⟩:=XV (Wd:=lU A) (main:=false) (w:=w) C X hM;obtain⟨x,o⟩:∃x:bD P,x=.dn .d4:=⟨_,rfl⟩;have c:(s.bc j x s.sh).w j=.dn .d4:=by rw[bd,o]
 have T:=nE (P:=P) (A:=A) (s:=s) hj d
 have u:Deaf t (A.b+j)=0:=by obtain⟨_,_,u,_⟩:=L.walk _ T;rw[u];show eu P A s (A.b+j)=0;rw[fF hj,d];rfl
 have G:=runT_crowd_go (P:=P) (sl:=sl) (i:=A.b+j) hg (by rw[Q];exact S)
 have H:cr P A s (A.b+j):=jj r.I hj (by rw[d];rfl)
 obtain⟨y1,y2,y3,y4⟩:=r.MX (es:=#[⟨.mark .disable,false,true⟩]) (λe K=>by simp at K;subst K;exact .inl (.inl rfl)) H g.frame.fn g.frame.place
 have p:∀op∈MemOp.ofEvents (A.b+j) g.frame.fn g.frame.place #[⟨.mark .disable,false,true⟩],op.g=A.b+j:=λop v=>by obtain⟨e,_,rfl⟩:=KC v;rfl
 have U:∀op∈MemOp.ofEvents (A.b+j) g.frame.fn g.frame.place #[⟨.mark .disable,false,true⟩],op.act.touch?=none:=λop v=>by obtain⟨e,K,rfl⟩:=KC v;simp at K;subst K;rfl
 have hP:=L.c8.RU (i:=A.b+j) (w':=w) p rfl ⟨⟨.refl _,rfl⟩,λ_ _=>rfl⟩ (λb=>.inl rfl) y2 y1 (λm op a h1 h2 _=>by rw[U op (abD h1)]at h2;cases h2)
 have hI:cj A.n (s.bc j x s.sh):=r.I.xJ hj (by rw[d];rfl) (by rw[o];rfl) (.inl (by rw[o,d];rfl)) (by rw[o];rfl) (by rw[o,d];rfl)
 have hL:MS.gX A.n (s.bc j x s.sh) s:=um hj (by rw[o,d];simp[bD.cM])
 have V:=r.yZ (x:=x) (sh:=s.sh) (w':=w) hj (by rw[o,d];rfl) (by rw[o,d];rfl) (λ_=>by rw[o,d];rfl) hI r.mu (λ_ _=>rfl) r.wC y3
 have W:Beside (cE P A Fin Z z) s (s.bc j x s.sh) f f q (upd q (A.b+j) k) kk kk OO OO J J w (A.b+j) g g1:=qU z hj (by rw[o,d];rfl) (λi hi=>rfl) (λi hi=>upd_ne q k hi) (λ_ _ _=>rfl) (λ_ _ _=>rfl) (λ_ _ h=>h) (.inl λh=>h) (λ{i k O y} F=>B.lM (s:=s) (i:=i) (k:=k) (O:=O) (g:=y) F)
 refine⟨_,_,G,s.bc j x s.sh,f,upd q (A.b+j) k,kk,OO,J,M,_,_,_,rfl,hL,?_⟩;refine bP.step B L hg p hP V (λl y Y F=>B.tZ r Y _ _ F) W ⟨λY=>absurd Y (lg hj c),λ_=>⟨lg hj c,?_,?_,g2,?_,?_⟩,λhh=>absurd hh (qW hj c),λ_ hn _=>absurd (nE hj c) hn⟩
 . show A.b+j<A.b+A.n+1;omega
 . rw[Deaf_own,u]
   show _=eu P A (s.bc j x s.sh) (A.b+j);rw[fF hj,c];rfl
 . refine .inr (.inl ⟨j,hj,rfl,?_⟩)
   rw[c];exact⟨fw,fn,tmps,todo,R,D,F⟩
 . exact .inr (by rw[upd_same];exact E)
end
section
variable{Z:Base}{kk:adX}{OO:adW}{J M:adM}{w:World}{t:Trace}
def cP.bQ(h:cP Z kk OO J M w t){i ad}(o:ad.block<w.heap.size)(hd:Deaf t i=0)  fn   pos :
 cP Z kk OO (λl=>J l/\l≠i) (λp=>M p\/p=t.size) w (t++MemOp.ofEvents i fn pos #[⟨.mark (.releaseMerge ad),false,true⟩]):=by
 obtain⟨u,A⟩:∃u,u=MemOp.ofEvents i fn pos #[⟨.mark (.releaseMerge ad),false,true⟩]:=⟨_,rfl⟩;have d:u=#[⟨i,fn,pos,.mark (.releaseMerge ad)⟩]:=by rw[A,ofEvents_eq];simp[MemAct.ofEvent]
 rw[<-A];have B:∀op∈u,op.act.touch?=none:=λop c=>by rw[d]at c;simp at c;subst c;rfl
 have f:∀op∈u,op.g=i:=λop c=>by grind
 have q:u[0]?=some ⟨i,fn,pos,.mark (.releaseMerge ad)⟩:=by grind
 exact h.vh (λa b=>a=b) rfl ⟨⟨.refl _,rfl⟩,λ_ _=>rfl⟩ (λb=>.inl rfl) (λop c=>by rw[d]at c;simp at c;subst c;simpa[MemAct.low]using o) (λa b e n y _ _ _ C=>by subst e;exact C.app u)
  (λj b n v h=>⟨j,rfl,h⟩) (λj b s h=>⟨j,rfl,h⟩) (λj b x h=>⟨j,rfl,h,λ_ h=>h⟩) h.j7
  (λsaid=>noRace_append (h.clean said) f λn a r op c b hb _=>by simp_all) (λop c a r=>by simp_all) (λm op a c r=>by grind)
  (fun n a r D h=>h.elim (λ⟨j,z,k⟩=>by
    by_cases e:j=i
    . subst e;exact .inr (.inr (.inl ⟨t.size+0,.inr rfl,mJ k q rfl⟩))
    . exact .inr (.inl ⟨j,⟨z,e⟩,k.app _⟩)) (λ⟨p,z,k⟩=>.inr (.inr (.inl ⟨p,.inl z,k.app _⟩))))
end
section
variable{P:adY}{A:bY}{Fin:adr}{Z:Base}{s:MS P}{f:Nat->Node P}{q:adS}{kk:adX}{OO:adW}{J M:adM}{gs:adv}{gsz:Nat}{w w':World}{t u:Trace}{j:Nat}{x:bD P}{sh:Mu.Sh}{g:adP}
def dq.bQ(h:dq P A Z s kk OO J M gsz w t)(hj:j<A.n)(z:x.busy=false)(B:s.c=.none\/s.c=.eZ\/∃q,s.c=.wt q)(hd:Deaf t (A.b+j)=0)(E:∃op,u[0]?=some op/\op.g=A.b+j/\op.act=.mark (.releaseMerge ⟨A.gb,0,none⟩))(C:lC u)(S:x.owns=(s.w j).owns)(F:x.iY=(s.w j).iY)(T:cj A.n (s.bc j x sh))(G:ShM A.fb A.fo w' sh)
 (d:∀b,b≠A.fb->w'.heap[b]?=w.heap[b]?) (H:∃c e,w'.heap[A.fb]?=some (.cells c e (0,0))) (O:∀op∈u,(∀a,op.act.touch?=some a->a.kind=.atomic/\Ak A a.loc)/\∀a,op.act≠.mark (.release a)):
 dq P A Z (s.bc j x sh) kk OO (λl=>J l/\l≠A.b+j) (λp=>M p\/p=t.size) gsz w' (t++u):=by
 have hb:=A.hb
 have D:∀l,((s.bc j x sh).w l).owns=(s.w l).owns:=λl=>by
  by_cases e:l=j
  . subst e;rw[bd,S]
  . rw[cN e]
 refine⟨T,h.size,h.dd,h.off,h.GW (λhd l _=>⟨?_,D l⟩) (λop k a I=>((O op k).1 a I).2),λhd=>by rw[d _ A.d1];exact h.Bp hd,G,h.gr.same (.of_heap (d _ (zs A.d4))),H,by rw[d _ (zs A.d4)];exact h.AA,h.im,h.fa,λi y U=>?_,λl Q K=>h.AB l Q (by simp_all),λK=>h.PI λl Q=>by simp_all,λc L=>?_,
  λi=>?_,λp N=>?_,λL=>?_,h.kY u (λop k a I _ V=>?_),h.pM u (λop k a I _ V=>?_),h.qT u,h.kg u (λop k=>(O op k).2),h.EK,h.tW,h.kL,h.fQ,h.la,by simp;exact aaE h.n0 (abU _ _)⟩
 . by_cases e:l=j
   . subst e;rw[bd,F]
   . rw[cN e]
 . obtain⟨l,f,o,r,v,W⟩:=h.tok i y U
   exact⟨l,f,o,r,by simp_all,W⟩
 . obtain⟨o,r⟩:=h.PJ c L
   simp_all
 . rw [h.hJ i]
   constructor
   . rintro⟨⟨l,o,r,v⟩|⟨o,r⟩,X⟩
     . exact .inl ⟨l,o,r,by rw[cN (by omega)];exact v⟩
     . exact .inr ⟨o,r⟩
   . rintro (⟨l,o,r,v⟩|⟨o,r⟩)
     . by_cases e:l=j
       . subst e;rw[bd,z]at v;cases v
       . rw[cN e]at v;exact⟨.inl ⟨l,o,r,v⟩,by omega⟩
     . exact⟨.inr ⟨o,r⟩,by omega⟩
 . rcases N with N|rfl
   . exact h.wE u p N
   . obtain⟨op,R,Y,e3⟩:=E
     refine⟨heard_new (m:=0) C R (by simp_all),h.n0,.inl ⟨?_,B⟩⟩;have e4:=act?_of (dM (t:=t) (m:=0) R)
     simp_all
 . obtain⟨p,o,r,v⟩:=h.nB u L
   grind
 . grind
 grind
variable(C:iC P A.ng)(X:jg P A.ng)
include C X in
def QH  E  (Q:bP (cE P A Fin Z E) Z s f q kk OO J M gs w t) (hj:j<A.n) (m:s.w j=.dn .d1) (hg:gs[A.b+j]?=some g) (R:ID P A j (.dn .d1) (kk (A.b+j)) (OO (A.b+j)) g)  sl :
 Goes P A Fin Z E s gs w t sl (A.b+j):=by
 have v:dq P A Z s kk OO J M gs.size w t:=Q.ex;have B:=bs (P:=P) (A:=A) (Fin:=Fin) (Z:=Z) E;have hb:=A.hb;have S:(A.b+j==0)=false:=by simp;omega
 obtain⟨fw,fn,tmps,todo,T,F,hM⟩:=R;obtain⟨g1,U,hr,g2,⟨k,G⟩,H⟩:=XU (Wd:=lU A) (main:=false) (w:=w) C X hM;obtain⟨x,u⟩:∃x:bD P,x=.dn .d2:=⟨_,rfl⟩;have d:(s.bc j x s.sh).w j=.dn .d2:=by rw[bd,u]
 have V:=nE (P:=P) (A:=A) (s:=s) hj m
 have o:Deaf t (A.b+j)=0:=by obtain⟨_,_,o,_⟩:=Q.walk _ V;rw[o];show eu P A s (A.b+j)=0;rw[fF hj,m];rfl
 have K:=runT_crowd_go (P:=P) (sl:=sl) (i:=A.b+j) hg (by rw[S];exact U)
 have a7:cr P A s (A.b+j):=jj v.I hj (by rw[m];rfl)
 have L:∀op∈MemOp.ofEvents (A.b+j) g.frame.fn g.frame.place #[⟨.mark (.releaseMerge ⟨A.gb,0,none⟩),false,true⟩],op.g=A.b+j:=λop r=>by obtain⟨e,_,rfl⟩:=KC r;rfl
 have y3:∀op∈MemOp.ofEvents (A.b+j) g.frame.fn g.frame.place #[⟨.mark (.releaseMerge ⟨A.gb,0,none⟩),false,true⟩],(∀a,op.act.touch?=some a->a.kind=.atomic/\Ak A a.loc)/\∀a,op.act≠.mark (.release a):=λop r=>by obtain⟨e,N,rfl⟩:=KC r;simp at N;subst N;exact⟨λa ha=>by simp[MemAct.ofEvent,MemAct.touch?]at ha,λa h=>by simp[MemAct.ofEvent]at h⟩
 have z:lC (MemOp.ofEvents (A.b+j) g.frame.fn g.frame.place #[⟨.mark (.releaseMerge ⟨A.gb,0,none⟩),false,true⟩]):=λop r=>by obtain⟨e,N,rfl⟩:=KC r;simp at N;subst N;simp[MemAct.ofEvent]
 have hG:A.gb<w.heap.size:=by obtain⟨c,e,h1⟩:=v.AA;exact(zA.1 h1).1
 have hP:=Q.c8.bQ (i:=A.b+j) (ad:=⟨A.gb,0,none⟩) hG o g.frame.fn g.frame.place
 have D:s.c=.none\/s.c=.eZ\/∃q,s.c=.wt q:=by
  cases e:s.c with
  |none=>exact .inl rfl
  |eZ=>exact .inr (.inl rfl)
  |wt p=>exact .inr (.inr ⟨p,rfl⟩)
  |j8=>have:=(v.I.g8 (by rw[e];rfl)).2.2.2 j hj;rw[m]at this;cases this
  |gone=>have:=(v.I.g8 (by rw[e];rfl)).2.2.2 j hj;rw[m]at this;cases this
 have hI:cj A.n (s.bc j x s.sh):=v.I.xJ hj (by rw[m];rfl) (by rw[u];rfl) (.inl (by rw[u,m];rfl)) (by rw[u];rfl) (by rw[u,m];rfl)
 have hL:MS.gX A.n (s.bc j x s.sh) s:=um hj (by rw[u,m];simp[bD.cM])
 have W:=v.bQ (x:=x) (sh:=s.sh) (w':=w) hj (by rw[u];rfl) D o ⟨⟨A.b+j,g.frame.fn,g.frame.place,.mark (.releaseMerge ⟨A.gb,0,none⟩)⟩,by rw[ofEvents_eq];simp[MemAct.ofEvent],rfl,rfl⟩ z (by rw[u,m];rfl) (by rw[u,m];rfl) hI v.mu (λ_ _=>rfl) v.wC y3
 have Y:Beside (cE P A Fin Z E) s (s.bc j x s.sh) f f q (upd q (A.b+j) k) kk kk OO OO J (λl=>J l/\l≠A.b+j) w (A.b+j) g g1:=qU E hj (by rw[u,m];rfl) (λi hi=>rfl) (λi hi=>upd_ne q k hi) (λ_ _ _=>rfl) (λ_ _ _=>rfl) (λ_ hn h=>⟨h,hn⟩) (.inl λh=>h) (λ{i k O y} H=>B.lM (s:=s) (i:=i) (k:=k) (O:=O) (g:=y) H)
 refine⟨_,_,K,s.bc j x s.sh,f,upd q (A.b+j) k,kk,OO,(λl=>J l/\l≠A.b+j),(λp=>M p\/p=t.size),_,_,_,rfl,hL,?_⟩
 refine bP.step B Q hg L hP W (λl y hl H=>B.tZ v hl _ _ H) Y ⟨λhl=>absurd hl (lg hj d),λ_=>⟨lg hj d,?_,?_,g2,?_,?_⟩,λhh=>absurd hh (qW hj d),λ_ hn _=>absurd (nE hj d) hn⟩
 . show A.b+j<A.b+A.n+1;omega
 . rw[Deaf_own,o]
   show _=eu P A (s.bc j x s.sh) (A.b+j);rw[fF hj,d];rfl
 . refine .inr (.inl ⟨j,hj,rfl,?_⟩)
   rw[d];exact⟨fw,fn,tmps,todo,T,F,H⟩
 . exact .inr (by rw[upd_same];exact G)
end
section
variable{P:adY}{A:bY}{Fin:adr}{Z:Base}{s s':MS P}{f f':Nat->Node P}{q q':adS}{kk kk':adX}{OO OO':adW}{J J' M:adM}{gs:adv}{gsz:Nat}{w w':World}{t u:Trace}{i:Nat}{g g1:adP}
def sZ{c:kK}:c.fj=true↔c=.gone:=by cases c<;>simp[kK.fj]
def pR{c:kK}:c.isNone=true↔c=.none:=by cases c<;>simp[kK.isNone]
def dq.VR{M'}(h:dq P A Z s kk OO J M gsz w t)(L:fR A s s' i)(G:∀l,l<A.n->(s'.w l).owns=(s.w l).owns)(O:∀l,l<A.n->(s'.w l).iY=(s.w l).iY)(H:xe P A s')(o:s'.c.fj=s.c.fj)(b:s'.c.isNone=s.c.isNone)
 (Q:∀p,M' p->M p) (av:s.c=.gone->∀p,M p->M' p) (R:(∃p,M' p)->(s.c=.none\/s.c=.eZ\/∃q,s.c=.wt q)->(s'.c=.none\/s'.c=.eZ\/∃q,s'.c=.wt q)) (S:∀i,eQ P A s' i↔eQ P A s i) (hI:cj A.n s') (T:s'.sh=s.sh) (U:sA A.gb w' s'.gc s'.gv s'.gm) (V:MW A.gb 0 w w')
 (W:∀op∈u,(∀a,op.act.touch?=some a->(a.kind=.atomic\/(a.kind=.said/\op.g=(if s.c.isNone then 0 else A.cl)))/\Ak A a.loc)/\∀a,op.act≠.mark (.release a)):dq P A Z s' kk OO J M' gsz w' (t++u):=by
 obtain⟨m1,X,c,e,c',m3,m4,_⟩:=pP V h.AA
 have z:∀i,cr P A s' i->cr P A s i:=λi C=>by
  rcases C with Y|⟨j,k,r⟩|⟨k,r⟩
  . exact .inl Y
  . exact .inr (.inl ⟨j,by rw[<-L.sp];exact k,r⟩)
  . refine .inr (.inr ⟨k,λe=>r ?_⟩)
    exact pR.1 (by rw[b];exact pR.2 e)
 have D:∀i,cr P A s i->cr P A s' i:=λi C=>by
  rcases C with Y|⟨j,k,r⟩|⟨k,r⟩
  . exact .inl Y
  . exact .inr (.inl ⟨j,by rw[L.sp];exact k,r⟩)
  . refine .inr (.inr ⟨k,λe=>r ?_⟩)
    exact pR.1 (by rw[<-b];exact pR.2 e)
 have a7:s'.c=.gone↔s.c=.gone:=by rw[<-sZ,<-sZ,o]
 refine⟨hI,by rw[L.sp,b];exact h.size,by rw[L.d];exact h.dd,H,h.GW (λ_ l E=>⟨O l E,G l E⟩) (λop v a F=>((W op v).1 a F).2),λhd=>by rw[X _ A.d2,o];exact h.Bp hd,by rw[T];exact h.mu.same (.of_heap (X _ A.d4)),U,by rw[X _ A.d4];exact h.wC,⟨c',e,m4⟩,h.im,h.fa,λi y hy=>?_,λl E a8=>h.AB l E (by simp_all),λa8=>h.PI λl E=>by simp_all,λc hc=>?_,
  λi=>by rw[h.hJ i];simp_all,λp hp=>?_,λhc=>(by
   obtain⟨p,k,r,B⟩:=h.nB u (a7.1 hc)
   grind),λm a F hs N i C=>h.kY u (λop v a F _ N=>?_) m a F hs N i (z i C),λm a F hs N=>?_,λi C=>h.qT u i (z i C),h.kg u (λop v=>(W op v).2),λi a9 hn=>h.EK i a9 (λhb=>hn (D i hb)),h.tW,h.kL,h.fQ,h.la,by simp;exact aaE h.n0 (abU _ _)⟩
 . obtain⟨l,f,B,I,h5,h6⟩:=h.tok i y hy
   exact⟨l,f,B,I,by grind,h6⟩
 . obtain⟨B,I⟩:=h.PJ c hc
   simp_all
 . obtain⟨k,r,B⟩:=h.wE u p (Q p hp)
   refine⟨k,r,?_⟩;rcases B with⟨B,I⟩|⟨B,I⟩
   . exact .inl ⟨B,R ⟨p,hp⟩ I⟩
   simp_all
 . grind
 . rw[b]
   obtain⟨x,hx,K⟩:=touch_of F;rcases getElem?_append_cases hx with⟨E,ad⟩|⟨_,al⟩
   . exact(h.said m a (by rw[touchAt_of ad];exact K) hs N).app u
   . rcases((W x al).1 a K).1 with k|⟨_,k⟩
     . simp_all
     . rw[<-k];exact⟨m,x,hx,rfl,.inl rfl⟩
def dq.QI(h:dq P A Z s kk OO J M gsz w t)(v:fR A s s' i)(f:∀l,l<A.n->(s'.w l).owns=(s.w l).owns)(k:∀l,l<A.n->(s'.w l).iY=(s.w l).iY)(j:xe P A s')(b:s'.c.fj=s.c.fj)(d:s'.c.isNone=s.c.isNone)
 (m:(s.c=.none\/s.c=.eZ\/∃q,s.c=.wt q)->(s'.c=.none\/s'.c=.eZ\/∃q,s'.c=.wt q)) (e:∀i,eQ P A s' i↔eQ P A s i) (x:cj A.n s') (o:s'.sh=s.sh) (p:sA A.gb w' s'.gc s'.gv s'.gm) (r:MW A.gb 0 w w')
 (y:∀op∈u,(∀a,op.act.touch?=some a->(a.kind=.atomic\/(a.kind=.said/\op.g=(if s.c.isNone then 0 else A.cl)))/\Ak A a.loc)/\∀a,op.act≠.mark (.release a)):dq P A Z s' kk OO J M gsz w' (t++u):=
 h.VR v f k j b d (λ_ h=>h) (λ_ _ h=>h) (λ_=>m) e x o p r y
def SY(b:Nat)(es:adG):Prop:=∀e∈es,((e.loc=.mark .disable\/e.loc=.mark .enable)\/∃i,(i=0\/i=0+1)/\e.loc=.cell ⟨b,i,none⟩/\e.sync=true)\/∃i,(i=0\/i=1)/\(e.loc=.mark (.read ⟨b,i,none⟩)\/e.loc=.mark (.write ⟨b,i,none⟩))
def SZ{b es}(h:EvM b 0 es):SY b es:=λe a=>.inl (h e a)
def MY(kk:adX)(OO:adW)(B:Nat)(t:Trace)(i:Nat)(u:Trace):Prop:=∀op∈u,∀a,op.act.touch?=some a->(a.kind=.atomic\/a.kind=.said)/\(a.loc.isMemory=true->Ma kk OO B a.loc)/\∀n b,touchAt t n=some b->b.loc=a.loc->(b.kind=.plain\/(a.kind=.said/\b.kind=.said))->Knows t i n
def cP.MX(h:cP Z kk OO J M w t)(d:∀op∈u,op.g=i)(y:w'.heap.size=w.heap.size)(z:Calm Z w w')(hb:∀b,Kept kk OO w w' b)(A:∀op∈u,op.act.low w.heap.size)(q:MY kk OO w.heap.size t i u)
 (l:∀m op a,u[m]?=some op->op.act.touch?=some a->a.loc.isMemory=true->Told Z J M (t++u) (t.size+m) a):cP Z kk OO J M w' (t++u):=
 h.vh (λa b=>a=b) y z hb A (λa b e n x _ _ _ B=>by subst e;exact B.app u) (λj b n v h=>⟨j,rfl,h⟩) (λj b s h=>⟨j,rfl,h⟩) (λj b x h=>⟨j,rfl,h,λ_ h=>h⟩) h.j7
  (fun said=>noRace_append (h.clean said) d λn a o op c b hb C=>by
    obtain⟨f,k,D⟩:=q op c b hb;obtain⟨E,_,_,F⟩:=C
    grind)
  (λop c a o r=>(q op c a o).2.1 r) l
  (λn a o r h=>h.elim (λ⟨j,f,k⟩=>.inr (.inl ⟨j,f,k.app _⟩)) (λ⟨p,f,k⟩=>.inr (.inr (.inl ⟨p,f,k.app _⟩))))
def me{b e}(he:((e.loc=.mark .disable\/e.loc=.mark .enable)\/∃i,(i=0\/i=0+1)/\e.loc=.cell ⟨b,i,none⟩/\e.sync=true)\/∃i,(i=0\/i=1)/\(e.loc=.mark (.read ⟨b,i,none⟩)\/e.loc=.mark (.write ⟨b,i,none⟩))):
 (∀a,(MemAct.ofEvent e).touch?=some a->(a.kind=.atomic\/a.kind=.said)/\∃i,(i=0\/i=1)/\a.loc=.cell ⟨b,i,none⟩)/\(∀a,MemAct.ofEvent e≠.mark (.release a))/\∀B,b<B->(MemAct.ofEvent e).low B:=by
 rcases he with he|⟨i,d,he⟩
 . obtain⟨g,h,j⟩:=oR he
   simp_all
 . obtain⟨loc,wr,k⟩:=e
   rcases he with he|he<;>simp only at he<;>subst he
   all_goals
    refine⟨λa c=>?_,by simp[MemAct.ofEvent],λB f=>by simpa[MemAct.ofEvent,MemAct.low]using f⟩;simp only[MemAct.ofEvent,MemAct.touch?,kn]at c;subst c;exact⟨.inr rfl,i,d,rfl⟩
def C4  K  (Y:bP (cE P A Fin Z K) Z s f q kk OO J M gs w t) (Q:cr P A s i) (a7:¬fY P A s i) (hg:gs[i]?=some g){es}(a8:stepG P (i==0) g w=.go g1 w' es)
 (hS:fR A s s' i) (R:∀l,l<A.n->(s'.w l).owns=(s.w l).owns) (a9:∀l,l<A.n->(s'.w l).iY=(s.w l).iY) (S:xe P A s') (F:s'.c.fj=s.c.fj) (G:s'.c.isNone=s.c.isNone) (ad:(s.c=.none\/s.c=.eZ\/∃q,s.c=.wt q)->(s'.c=.none\/s'.c=.eZ\/∃q,s'.c=.wt q)) (H:∀i,eQ P A s' i↔eQ P A s i)
 (hI:cj A.n s') (al:s'.sh=s.sh) (av:sA A.gb w' s'.gc s'.gv s'.gm) (C:MW A.gb 0 w w') (u:EvM A.gb 0 es\/(SY A.gb es/\i=(if s.c.isNone then 0 else A.cl))) (hL:MS.gX A.n s' s)
 (hT:(i=0\/J i)\/(EvM A.gb 0 es/\∀  m   op   a ,(MemOp.ofEvents i g.frame.fn g.frame.place es)[m]?=some op->op.act.touch?=some a->Z.Shun a.loc->a.kind=.atomic->Told Z J M (t++MemOp.ofEvents i g.frame.fn g.frame.place es) (t.size+m) a))
 (T:(s.gm=0->s'.gm=0)\/(mayWake P g=true/\(g1.status=.running\/g1.status=.finished))) (hf:∀j,j≠i->f' j=f j) (hq:∀j,j≠i->q' j=q j)
 (hs:Self P (cE P A Fin Z K) s' f' q' kk OO J (t++MemOp.ofEvents i g.frame.fn g.frame.place es) i g1)  sl :Goes P A Fin Z K s gs w t sl i:=by
 have D:dq P A Z s kk OO J M gs.size w t:=Y.ex;have B:=bs (P:=P) (A:=A) (Fin:=Fin) (Z:=Z) K;have U:=runT_crowd_go (P:=P) (sl:=sl) (i:=i) hg a8;have hG:A.gb<w.heap.size:=by obtain⟨c,e,E⟩:=D.AA;grind
 have o:SY A.gb es:=u.elim SZ (·.1);have p:∀op∈MemOp.ofEvents i g.frame.fn g.frame.place es,op.g=i:=λop d=>by obtain⟨e,_,rfl⟩:=KC d;rfl
 have v:∀op∈MemOp.ofEvents i g.frame.fn g.frame.place es,∀a,op.act.touch?=some a->a.kind=.atomic\/(a.kind=.said/\op.g=(if s.c.isNone then 0 else A.cl)):=λop d a x=>by
  obtain⟨e,r,rfl⟩:=KC d
  rcases u with u|⟨_,hi⟩
  . exact .inl ((oR (u e r)).1 a x).1
  . rcases((me (o e r)).1 a x).1 with h|h
    . exact .inl h
    simp_all
 have y1:MY kk OO w.heap.size t i (MemOp.ofEvents i g.frame.fn g.frame.place es):=λop d a x=>by
  have ay:=v op d a x;have aC:=p op d;obtain⟨e,r,rfl⟩:=KC d;obtain⟨E,n,L,z⟩:=(me (o e r)).1 a x;have aE:Ak A a.loc:=by rw[z];exact⟨rfl,.inr ⟨rfl,L⟩⟩
  refine⟨E,λ_=>by rw[z];exact D.RY L,λm b hb X N=>?_⟩
  rcases N with N|⟨aL,ax⟩
  . exact D.quiet m b hb (by simp_all) N i Q
  . have h5:=D.said m b hb (by simp_all) ax
    simp_all
 have y2:∀op∈MemOp.ofEvents i g.frame.fn g.frame.place es,op.act.low w.heap.size:=λop d=>by obtain⟨e,r,rfl⟩:=KC d;exact(me (o e r)).2.2 _ hG
 have y3:∀op∈MemOp.ofEvents i g.frame.fn g.frame.place es,(∀a,op.act.touch?=some a->(a.kind=.atomic\/(a.kind=.said/\op.g=(if s.c.isNone then 0 else A.cl)))/\Ak A a.loc)/\∀a,op.act≠.mark (.release a):=λop d=>⟨λa x=>⟨v op d a x,by
  obtain⟨e,r,rfl⟩:=KC d;obtain⟨_,n,L,z⟩:=(me (o e r)).1 a x;rw[z];exact⟨rfl,.inr ⟨rfl,L⟩⟩⟩,by
  obtain⟨e,r,rfl⟩:=KC d;exact(me (o e r)).2.1⟩
 have y4:∀op∈MemOp.ofEvents i g.frame.fn g.frame.place es,∀a,op.act.touch?=some a->Z.Shun a.loc:=λop d a x=>by obtain⟨e,r,rfl⟩:=KC d;obtain⟨E,n,L,z⟩:=(me (o e r)).1 a x;rw[z];exact D.tW _ ⟨rfl,.inr ⟨rfl,L⟩⟩ ⟨_,rfl,rfl⟩
 obtain⟨m1,m2,c,e,c',m3,m4,_⟩:=pP C D.AA
 have hP:=Y.c8.MX (i:=i) p m1 (D.VP C) (D.VQ C) y2 y1 (λm op a E z _=>by
  rcases hT with hJ|⟨u,hT⟩
  . have N:Knows (t++MemOp.ofEvents i g.frame.fn g.frame.place es) i (t.size+m):=knows_own E (p op (abD E))
    rcases hJ with rfl|hJ
    . exact .inl N
    . exact .inr (.inl ⟨i,hJ,N⟩)
  . refine hT m op a E z (y4 op (abD E) a z) ?_
    obtain⟨e,r,rfl⟩:=KC (abD E);exact((oR (u e r)).1 a z).1)
 have V:dq P A Z s' kk OO J M gs.size w' (t++MemOp.ofEvents i g.frame.fn g.frame.place es):=D.QI hS R a9 S F G ad H hI al av C y3
 have I:Beside (cE P A Fin Z K) s s' f f' q q' kk kk OO OO J J w' i g g1:=mS K hS hf hq (λ_ _ _=>rfl) (λ_ _ _=>rfl) (λ_ _ h=>h) (T.imp (λh=>⟨λh0=>by grind,h⟩) id) (λ{i k O y} hA=>B.lM (s:=s) (i:=i) (k:=k) (O:=O) (g:=y) hA)
 refine⟨_,_,U,s',f',q',kk,OO,J,M,_,_,_,rfl,hL,?_⟩;refine bP.step B Y hg p hP V (λl y X hA=>?_) I hs
 have W:l≠i:=λe=>a7 (e ▸ X)
 exact B.tZ V ((I.held l W).2 X) _ _ (I.Up l _ _ _ W X hA)
def IG{g}:∀m,m<=u.size->(∀l op,l<m->u[l]?=some op->op.act≠.mark .enable)->Deaf t g<=(t++u).deaf g (t.size+m)
 |0,_,_=>by show Deaf t g<=(t++u).deaf g t.size;rw[deaf_old (aaA _)];exact aaA _
 | m+1,h,a=>by
   have b:m<u.size:=by omega
   have c:(t++u)[t.size+m]?=some u[m]:=by simp_all
   have d:=IG (g:=g) m (by omega) (λl op e=>a l op (by omega));rw[<-Nat.add_assoc,deaf_succ c];have:=a m u[m] (by omega) (by simp[b]);unfold deafStep
   grind
def GZ{es fn pos}(hd:1<=Deaf t i)(o:∀  m   op   a ,(MemOp.ofEvents i fn pos es)[m]?=some op->op.act.touch?=some a->∀(l:Nat)  b ,l<m->(MemOp.ofEvents i fn pos es)[l]?=some b->b.act≠.mark .enable):∀  m   op   a ,(MemOp.ofEvents i fn pos es)[m]?=some op->op.act.touch?=some a->Z.Shun a.loc->a.kind=.atomic->Told Z J M (t++MemOp.ofEvents i fn pos es) (t.size+m) a:=λm op a d h p n=>by
 refine JR (i:=i) d h p n λq=>?_
 obtain⟨x,f,_,c⟩:=q;rw[act?_of (dM d)]at f;have f:op.act.touch?=some x:=f;rw[h]at f;obtain rfl:=abe f;rcases c with c|⟨j,r,s⟩
 . exact c n
 . have v:op.g=i:=by obtain⟨e,_,rfl⟩:=KC (abD d);rfl
   have:j=i:=by
    have w:(t++MemOp.ofEvents i fn pos es).g? (t.size+m)=some op.g:=by simp[Trace.g?,dM d]
    simp_all
   subst this;have z:=(zA.1 d).1;have:=IG (t:=t) (u:=MemOp.ofEvents j fn pos es) (g:=j) m (by omega) (λl b y k=>o m op _ d h l b y k);omega
end
end
section
open Go.Conc
open Go.ConcN (sumTo upd sumTo_upd upd_ne upd_same)
variable{P:adY}
def MS.ja(s:MS P)(j:Nat)(x:bD P)(gc gv gm:Nat):MS P:={s with w:=λi=>if i=j then x else s.w i,gc:=gc,gv:=gv,gm:=gm}
section
variable{s:MS P}{j n:Nat}{x:bD P}{gc gv gm:Nat}
def bZ:(s.ja j x gc gv gm).w j=x:=by simp[MS.ja]
def dN{i}(h:i≠j):(s.ja j x gc gv gm).w i=s.w i:=by simp[MS.ja,h]
def QJ:(λi=>((s.ja j x gc gv gm).w i).pc)=Mu.set (λi=>(s.w i).pc) j x.pc:=by
 funext i;by_cases h:i=j
 . subst h;rw[bZ,Mu.ai]
 . rw[dN h,Mu.ah _ _ h]
def EW(F:bD P->Nat)(hj:j<n):sumTo n (λi=>F ((s.ja j x gc gv gm).w i))+F (s.w j)=sumTo n (λi=>F (s.w i))+F x:=by
 have e:(λi=>F ((s.ja j x gc gv gm).w i))=upd (λi=>F (s.w i)) j (F x):=by
  funext i;by_cases h:i=j
  . subst h;rw[bZ,upd_same]
  . rw[dN h,upd_ne _ _ h]
 rw[e];have:=sumTo_upd (λi=>F (s.w i)) (F x) id hj
 simp_all
def cj.VS(I:cj n s)(hj:j<n){p}(d:s.w j=.dn p)(b:x.ok=true)(f:x.j9=false)(g:x≠.wait)(k:x.pc=.out)
 (D:gc+(s.w j).cnt=s.gc+x.cnt) (r:gv<=1) (m:gv=1->s.c.waits=true/\gm=0)
 (t:∀i,i<n->((s.ja j x gc gv gm).w i=.dn .d5\/(s.ja j x gc gv gm).w i=.dn .d6)->gv=1/\gc=0)
 (o:∀i l,i<n->l<n->((s.ja j x gc gv gm).w i).last=true->((s.ja j x gc gv gm).w l).last=true->i=l)
 (u:∀i,i<n->(s.ja j x gc gv gm).w i=.dn .d7->gv=0/\gc=0/\gm=0/\s.c.waits=true)
 (v:gm<=1/\(gm=1->s.c.waits=true/\gv=0/\gc=0/\∀i,i<n->((s.ja j x gc gv gm).w i).last=false))
 (y:s.c.waits=true->gv=0->gm=0->∃i,i<n/\(s.ja j x gc gv gm).w i=.dn .d7)
 (z:gv=1->gc=0->∃i,i<n/\((s.ja j x gc gv gm).w i=.dn .d5\/(s.ja j x gc gv gm).w i=.dn .d6)):cj n (s.ja j x gc gv gm):=by
 refine⟨?_,r,m,t,o,u,v,y,z,λh=>?_,I.g9,λi a=>?_,I.Um,I.sp,λi a=>?_,?_,λhd h i a=>?_,?_⟩
 . have q:=EW (s:=s) (x:=x) (gc:=gc) (gv:=gv) (gm:=gm) bD.cnt hj
   have:=I.g1;show gc=sumTo n (λi=>((s.ja j x gc gv gm).w i).cnt)+s.ms.pend;omega
 . have:=(I.g8 h).2.2.2 j hj
   simp_all
 . by_cases e:i=j
   . subst e;rw[bZ];exact b
   . rw[dN e];exact I.ok i a
 . by_cases e:i=j
   . subst e
     rw[bZ,f];have:=I.idle i a;rw[d]at this;exact this
   . rw[dN e];exact I.idle i a
 . have:=I.ms
   show match s.ms with
   |.add l=>s.sp+l=n/\s.c=.none
   |.bM l p=>s.sp+l=n/\s.c=.none/\1<=l/\(p=.a0\/p=.a2\/p=.a4\/p=.ae)
   |.spawn l=>s.sp+l+1=n/\s.c=.none
   |.recv=>s.sp=n/\s.c≠.none
   |.parked=>s.sp=n/\s.c≠.none/\s.c≠.gone/\∀i,i<n->(s.ja j x gc gv gm).w i≠.wait
   |.off=>s.sp=n/\s.c≠.none
   cases e:s.ms with
   | parked=>
     rw[e]at this;obtain⟨A,B,C,E⟩:=this;refine⟨A,B,C,λi a=>?_⟩;by_cases e:i=j
     . subst e;rw[bZ];exact g
     . rw[dN e];grind
   |_=>rw[e]at this;exact this
 . have:=I.early hd h j hj
   rw[d]at this;cases this
 . rw[QJ,k]
   have e:=kh (λi=>(s.w i).pc) j;rw[show(s.w j).pc=.out by rw[d];rfl]at e;rw[e];exact I.mu
inductive C5(s:MS P):Iy->bD P->Nat->Nat->adM
 |Yc:s.gc=1->s.gv=1->C5 s .d4 (.dn .d5) 0 1 s.gm
 |d4 (k:Nat):s.gc=k+1 -> ¬(k=0/\s.gv=1)->C5 s .d4 .gone k s.gv s.gm
 |d5:C5 s .d5 (.dn .d6) s.gc s.gv s.gm
 |d6:C5 s .d6 (.dn .d7) s.gc 0 s.gm
 |d7:C5 s .d7 .gone s.gc s.gv (s.gm+1)
def cj.done(I:cj n s)(hj:j<n){p}(b:s.w j=.dn p)(h:C5 s p x gc gv gm):cj n (s.ja j x gc gv gm):=by
 have MZ:∀{i:Nat},(s.w i).last=true->s.w i=.dn .d5\/s.w i=.dn .d6\/s.w i=.dn .d7:=λ{i} h=>by
  cases e:s.w i with
  |dn p=>cases p<;>simp_all [bD.last]
  |_=>rw[e]at h;simp[bD.last]at h
 have t:∀{i:Nat},i<n->(s.w i).last=true->s.gc=0:=λ{i} a h=>by
  rcases MZ h with h|h|h
  . exact(I.g3 i a (.inl h)).2
  . exact(I.g3 i a (.inr h)).2
  . exact(I.g4 i a h).2.1
 cases h with
 | Yc u v=>
   refine I.VS hj b rfl rfl (by simp) rfl (by rw[b,u];rfl) (by omega) (λ_=>I.Cf v) (λi a h=>⟨rfl,rfl⟩) (λi l a g h d=>?_) (λi a h=>?_) ⟨I.g5.1,λh=>?_⟩ (λ_ h=>by omega) (λ_ _=>⟨j,hj,.inl bZ⟩)
   . by_cases e:i=j
     . by_cases q:l=j
       . rw[e,q]
       . rw[dN q]at d;simp_all
     . rw[dN e]at h;simp_all
   . by_cases e:i=j
     . subst e;rw[bZ]at h;cases h
     . rw[dN e]at h;have:=(I.g4 i a h).2.1;omega
   . have:=(I.g5.2 h).2.1;omega
 | d4 k u v=>
   refine I.VS hj b rfl rfl (by simp) rfl (by rw[b,u];rfl) I.g2 I.Cf (λi a h=>?_) (λi l a g h d=>?_) (λi a h=>?_) ⟨I.g5.1,λh=>?_⟩ (λh d y=>?_) (λh d=>absurd ⟨d,h⟩ v)
   . by_cases e:i=j
     . subst e;rw[bZ]at h;simp_all
     . rw[dN e]at h;have:=(I.g3 i a h).2;omega
   . by_cases e:i=j
     . subst e;rw[bZ]at h;cases h
     . rw[dN e]at h;simp_all
   . by_cases e:i=j
     . subst e;rw[bZ]at h;cases h
     . rw[dN e]at h;have:=(I.g4 i a h).2.1;omega
   . have:=(I.g5.2 h).2.2.1;omega
   . obtain⟨i,a,A⟩:=I.g6 h d y
     have:=(I.g4 i a A).2.1;omega
 | d5=>
   obtain⟨r,o⟩:=I.g3 j hj (.inl b);obtain⟨m,m0⟩:=I.Cf r
   have c:∀{i:Nat},((s.ja j (.dn .d6) s.gc s.gv s.gm).w i).last=(s.w i).last:=λ{i}=>by
    by_cases e:i=j
    . subst e;rw[bZ,b];rfl
    . rw[dN e]
   refine I.VS hj b rfl rfl (by simp) rfl (by rw[b];rfl) I.g2 I.Cf (λi a h=>⟨r,o⟩) (λi l a g h d=>?_) (λi a h=>?_) ⟨I.g5.1,λh=>?_⟩ (λh d=>by omega) (λ_ _=>⟨j,hj,.inr bZ⟩)
   . rw[c]at h d;exact I.IC i l a g h d
   . by_cases e:i=j
     . subst e;rw[bZ]at h;cases h
     . rw[dN e]at h;exact I.g4 i a h
   . omega
 | d6=>
   obtain⟨r,o⟩:=I.g3 j hj (.inr b);obtain⟨m,m0⟩:=I.Cf r;have g:(s.w j).last=true:=by rw[b];rfl
   have c:∀{i:Nat},((s.ja j (.dn .d7) s.gc 0 s.gm).w i).last=(s.w i).last:=λ{i}=>by
    by_cases e:i=j
    . subst e;rw[bZ,b];rfl
    . rw[dN e]
   refine I.VS hj b rfl rfl (by simp) rfl (by rw[b];rfl) (by omega) (λh=>by omega) (λi a h=>?_) (λi l a g h d=>?_) (λi a h=>⟨rfl,o,m0,m⟩) ⟨I.g5.1,λh=>by omega⟩ (λ_ _ _=>⟨j,hj,bZ⟩) (λh=>by omega)
   . by_cases e:i=j
     . subst e;rw[bZ]at h;simp_all
     . rw[dN e]at h
       have z:(s.w i).last=true:=by rcases h with h|h<;>rw[h]<;>rfl
       exact absurd (I.IC i j a hj z g) e
   . rw[c]at h d;exact I.IC i l a g h d
 | d7=>
   obtain⟨B,o,m0,m⟩:=I.g4 j hj b;have g:(s.w j).last=true:=by rw[b];rfl
   have f:∀{i:Nat},i<n->((s.ja j .gone s.gc s.gv (s.gm+1)).w i).last=false:=λ{i} a=>by
    by_cases e:i=j
    . subst e;rw[bZ];rfl
    . rw[dN e]
      cases q:(s.w i).last with
      |false=>rfl
      |true=>exact absurd (I.IC i j a hj q g) e
   refine I.VS hj b rfl rfl (by simp) rfl (by rw[b];rfl) I.g2 (λh=>by omega) (λi a h=>?_) (λi l a g h d=>?_) (λi a h=>?_) ⟨by omega,λh=>⟨m,B,o,λi a=>f a⟩⟩ (λ_ _ h=>by omega) (λh=>by omega)
   . have:=f a
     rcases h with h|h<;>rw[h]at this<;>cases this
   . simp_all
   grind
def kK.S3(c:kK)  a b :c.cM a<=c.cM b+2:=by
 cases c with
 | wt p=>
   cases p with
   |w2 k=>simp only[kK.cM];grind
   |_=>simp[kK.cM]
 |_=>simp[kK.cM]
def JS(hj:j<n){p}(d:s.w j=.dn p)(h:C5 s p x gc gv gm):MS.gX n (s.ja j x gc gv gm) s:=by
 have e:=EW (s:=s) (x:=x) (gc:=gc) (gv:=gv) (gm:=gm) bD.cM hj;refine .inl ?_;show s.ms.cM+sumTo n (λi=>((s.ja j x gc gv gm).w i).cM)+s.c.cM gc<s.ms.cM+sumTo n (λi=>(s.w i).cM)+s.c.cM s.gc;rw[d]at e;have:=kK.S3 s.c gc s.gc;cases h with
 |Yc f g=>have a:(bD.dn (P:=P) .d4).cM=10:=rfl;have b:(bD.dn (P:=P) .d5).cM=4:=rfl;omega
 |d4 k f g=>have a:(bD.dn (P:=P) .d4).cM=10:=rfl;have b:(bD.gone (P:=P)).cM=0:=rfl;omega
 |d5=>have a:(bD.dn (P:=P) .d5).cM=4:=rfl;have b:(bD.dn (P:=P) .d6).cM=3:=rfl;omega
 |d6=>have a:(bD.dn (P:=P) .d6).cM=3:=rfl;have b:(bD.dn (P:=P) .d7).cM=2:=rfl;omega
 |d7=>have a:(bD.dn (P:=P) .d7).cM=2:=rfl;have b:(bD.gone (P:=P)).cM=0:=rfl;omega
end
end
section
open Go.Conc
open Go.ConcN (sumTo upd sumTo_upd upd_ne upd_same)
def zc{e}(h:MemAct.ofEvent e=.mark .enable):e.loc=.mark .enable:=by
 obtain⟨loc,wr,a⟩:=e;cases loc with
 |mark m=>cases m<;>simp_all [MemAct.ofEvent]
 |cell b=>simp[MemAct.ofEvent]at h
 |obj r=>cases wr<;>cases a<;>simp[MemAct.ofEvent]at h
 |_=>simp[MemAct.ofEvent]at h
def nF{i fn pos es}(h:∀e∈es,e.loc≠.mark .enable):∀  m   op   a ,(MemOp.ofEvents i fn pos es)[m]?=some op->op.act.touch?=some a->∀(l:Nat)  b ,l<m->(MemOp.ofEvents i fn pos es)[l]?=some b->b.act≠.mark .enable:=λm op a _ _ l b _ c d=>by obtain⟨e,f,rfl⟩:=KC (abD c);exact h e f (zc d)
def JU{i fn pos ad}:∀  m   op   a ,(MemOp.ofEvents i fn pos (semEvents ad))[m]?=some op->op.act.touch?=some a->∀(l:Nat)  c ,l<m->(MemOp.ofEvents i fn pos (semEvents ad))[l]?=some c->c.act≠.mark .enable:=λm op a d f l c e b=>by
 rw[ofEvents_eq]at d b;simp only[semEvents]at d b
 match m,l,e with
 |0,l,e=>omega
 |1,0,_=>simp at b;subst b;simp[MemAct.ofEvent]
 |2,0,_=>simp at b;subst b;simp[MemAct.ofEvent]
 |2,1,_=>simp at b;subst b;simp[MemAct.ofEvent]
 |3,l,_=>simp at d;subst d;simp[MemAct.ofEvent,MemAct.touch?]at f
 |m+4,l,_=>simp at d
def pS:∀  n  {F},(∀l,l<n->F l<=1)->sumTo n F<=n
 |0,_,_=>aaA _
 | n+1,F,h=>by
   have a:=pS n (F:=F) (λl b=>h l (by omega));have c:=h n (by omega);simp only[sumTo];omega
section
variable{P:adY}{A:bY}{Fin:adr}{Z:Base}{s:MS P}{f:Nat->Node P}{q:adS}{kk:adX}{OO:adW}{J M:adM}{gs:adv}{w w':World}{t u:Trace}{j:Nat}{x:bD P}{gc gv gm:Nat}{g g1:adP}
def G1{p}(h:C5 s p x gc gv gm):x.ji=true/\x.owns=false/\x.busy=false/\(bD.dn (P:=P) p).busy=false/\(bD.dn (P:=P) p).deaf=1/\(x=.gone\/∃a,x=.dn a/\x.deaf=1)/\x.iY=true:=by cases h<;>simp[bD.ji,bD.owns,bD.busy,bD.deaf,bD.iY]
def uo  r  (E:bP (cE P A Fin Z r) Z s f q kk OO J M gs w t) (hj:j<A.n){p}(d:s.w j=.dn p) (W:gs[A.b+j]?=some g){es}(X:stepG P false g w=.go g1 w' es) (F:C5 s p x gc gv gm)
 (G:sA A.gb w' gc gv gm) (H:MW A.gb 0 w w') (u:EvM A.gb 0 es) (K:deafBehind 1 es=1)
 (Y:∀  m   op   a ,(MemOp.ofEvents (A.b+j) g.frame.fn g.frame.place es)[m]?=some op->op.act.touch?=some a->∀(l:Nat)  v ,l<m->(MemOp.ofEvents (A.b+j) g.frame.fn g.frame.place es)[l]?=some v->v.act≠.mark .enable)
 (y:(s.gm=0->gm=0)\/(mayWake P g=true/\(g1.status=.running\/g1.status=.finished)))
 (hs:(∃C,x=.dn C/\∃n D,jN P (lU A) n g1 D/\ID P A j (.dn C) (kk (A.b+j)) (OO (A.b+j)) D)\/(x=.gone/\∃m,QuitsD P m 1 g1))  sl :Goes P A Fin Z r s gs w t sl (A.b+j):=by
 have L:dq P A Z s kk OO J M gs.size w t:=E.ex;have hb:=A.hb;have a7:(A.b+j==0)=false:=by simp;omega
 obtain⟨f1,f2,f3,f4,f5,f6,f7⟩:=G1 F;have N:=nE (P:=P) (A:=A) (s:=s) hj d
 have O:Deaf t (A.b+j)=1:=by obtain⟨_,_,Q,_⟩:=E.walk _ N;rw[Q];show eu P A s (A.b+j)=1;rw[fF hj,d];exact f5
 have c:(s.ja j x gc gv gm).w j=x:=bZ
 have k:∀l,((s.ja j x gc gv gm).w l).busy=(s.w l).busy:=λl=>by
  by_cases e:l=j
  . simp_all
  . rw[dN e]
 have hS:fR A s (s.ja j x gc gv gm) (A.b+j):=⟨λl _ S=>dN (by omega),λ_=>rfl,λ_=>rfl,rfl,rfl,.inl λl _=>by
  by_cases e:l=j
  . subst e;rw[bZ,d,f1];rfl
  . rw[dN e]⟩
 have hI:=L.I.done hj d F;have hL:=JS hj d F;have z:∀fn pos,Deaf (t++MemOp.ofEvents (A.b+j) fn pos es) (A.b+j)=1:=λfn pos=>by rw[Deaf_own,O];exact K
 have go:∀(R:Nat),Self P (cE P A Fin Z r) (s.ja j x gc gv gm) f (upd q (A.b+j) R) kk OO J (t++MemOp.ofEvents (A.b+j) g.frame.fn g.frame.place es) (A.b+j) g1->Goes P A Fin Z r s gs w t sl (A.b+j):=λR o=>
  C4 r E (jj L.I hj (by rw[d];rfl)) (qW hj d) W (by grind) hS (λl _=>by
   by_cases e:l=j
   . subst e;rw[bZ,d,f2];rfl
   . rw[dN e]) (λl _=>by
   by_cases e:l=j
   . subst e;rw[bZ,d,f7];rfl
   . rw[dN e]) L.off rfl rfl id (λi=>by unfold eQ;simp only[k];rfl) hI rfl G H (.inl u) hL (.inr ⟨u,GZ (by omega) Y⟩) y (λ_ _=>rfl) (λi hi=>upd_ne q R hi) o sl
 rcases hs with⟨C,rfl,n,D,B,a8⟩|⟨rfl,m,hq⟩
 . refine go n ⟨λS=>absurd S (lg hj c),λ_=>⟨lg hj c,?_,?_,D,?_,?_⟩,λhh=>absurd hh (qW hj c),λ_ hn _=>absurd (nE hj c) hn⟩
   . show A.b+j<A.b+A.n+1;omega
   . rw[z]
     show 1=eu P A (s.ja j (.dn C) gc gv gm) (A.b+j);rw[fF hj,c]
     simp_all
   . exact .inr (.inl ⟨j,hj,rfl,by simp_all⟩)
   . exact .inr (by rw[upd_same];exact B)
 . have nl:¬dR P A (s.ja j .gone gc gv gm) (A.b+j):=by
    rintro(⟨e,_⟩|⟨l,T,U,V⟩|⟨e,_⟩)
    . omega
    . simp_all
    . omega
   have nw:¬il P A (s.ja j .gone gc gv gm) (A.b+j):=by
    rintro(⟨e,_⟩|⟨l,T,U,V⟩|⟨e,_⟩)
    . omega
    . simp_all
    . omega
   have nh:¬fY P A (s.ja j .gone gc gv gm) (A.b+j):=by
    rintro(⟨e,_⟩|⟨l,T,U,V⟩)
    . omega
    simp_all
   exact go m ⟨λh=>absurd h nl,λh=>absurd h nw,λh=>absurd h nh,λ_ _ _=>⟨by omega,by rw[upd_same,z];exact hq⟩⟩
variable(C:iC P A.ng)(X:jg P A.ng)
def QK{n b kind cs g}(C:iC P n)(X:jg P n)(h:sB P n b kind .d7 cs g):mayWake P g=true:=by
 obtain⟨c,y,fr,f,⟨rfl,l⟩,m,i,j,rfl⟩:=h;have d:=GO (y:=y) (a:=true) (by simp_all);obtain⟨e,k⟩:=C.d9 b (Fl.of y);rw[d]at e k;exact C2 i e X.pJ
include C X in
def QL  y  (B:bP (cE P A Fin Z y) Z s f q kk OO J M gs w t) (hj:j<A.n){p}(r:s.w j=.dn p) (E:gs[A.b+j]?=some g) (L:ID P A j (.dn p) (kk (A.b+j)) (OO (A.b+j)) g)  sl :Goes P A Fin Z y s gs w t sl (A.b+j):=by
 have z:dq P A Z s kk OO J M gs.size w t:=B.ex;have N:=z.I.ok j hj;rw[r]at N;have D:=L;obtain⟨fw,fn,tmps,todo,F,u,O⟩:=L;have v:=z.gr;have hn:=A.hn;have nx:∀{p' g1},jh P A.ng A.gb .deferred (lU A) p' [lG P fw tmps todo,cU P] g1->∃n g2,jN P (lU A) n g1 g2/\ID P A j (.dn p') (kk (A.b+j)) (OO (A.b+j)) g2:=λ⟨_,g2,⟨n,hs⟩,hA⟩=>⟨n,g2,hs,fw,fn,tmps,todo,F,u,hA⟩
 have cell:∀(i:Nat),(i=0\/i=1)->∀wr,EvM A.gb 0 #[⟨.cell ⟨A.gb,i,none⟩,wr,true⟩]:=λi hi wr e d=>by simp at d;subst d;exact .inr ⟨i,by simpa using hi,rfl,rfl⟩
 have x:EvM A.gb 0 #[⟨.cell ⟨A.gb,0,none⟩,false,true⟩,⟨.cell ⟨A.gb,0,none⟩,true,true⟩]:=λe d=>by simp at d;rcases d with rfl|rfl<;>exact .inr ⟨0,.inl rfl,rfl,rfl⟩
 have Q:EvM A.gb 0 (semEvents ⟨A.gb,1,none⟩):=λe d=>by
  simp[semEvents]at d
  rcases d with rfl|rfl|rfl|rfl
  . exact .inl (.inl rfl)
  . exact .inr ⟨1,.inr rfl,rfl,rfl⟩
  . exact .inr ⟨1,.inr rfl,rfl,rfl⟩
  . exact .inl (.inr rfl)
 have R:∀l,l<A.n->(s.w l).cnt<=1:=λl _=>by
  cases e:s.w l with
  |dn p=>cases p<;>simp[bD.cnt]
  |_=>simp[bD.cnt]
 cases p<;>simp only[bD.ok,aap]at N
 case d1=>exact QH C X y B hj r E D sl
 case d2=>exact QG C X y B hj r E D sl
 case d4=>
  have a7:1<=s.gc:=by
   have h1:=z.I.g1;have:(s.w j).cnt<=sumTo A.n (λj=>(s.w j).cnt):=Go.ConcN.le_sumTo (f:=λj=>(s.w j).cnt) hj
   rw[r]at this;have e:(bD.dn (P:=P) .d4).cnt=1:=rfl;omega
  have a8:s.gc<=A.n+1:=by
   have h1:=z.I.g1;have h2:sumTo A.n (λj=>(s.w j).cnt)<=A.n:=pS A.n R
   have h3:s.ms.pend<=1:=by cases s.ms<;>simp[qA.pend];split<;>omega
   omega
  obtain⟨k,U⟩:∃k,s.gc=k+1:=⟨s.gc-1,by omega⟩
  have a:=v;rw[U]at a;obtain⟨g1,w',o,rfl,c,G⟩:=XW (Wd:=lU A) (main:=false) C X F u a (by omega) z.I.g2 O
  have H:MW A.gb 0 w (w.setCell ⟨A.gb,0,none⟩ (.int .u64 (fh k s.gv))):=⟨⟨.refl _,rfl⟩,.inr ⟨0,_,.inl rfl,rfl,rfl⟩⟩
  rcases G with⟨V,hv,S⟩|⟨W,Y⟩
  . subst V
    rw[hv]at c o H;exact uo y B hj r E o (.Yc U hv) c H x rfl (nF (λe d=>by simp at d;rcases d with rfl|rfl<;>simp)) (.inl id) (.inl ⟨_,rfl,nx S⟩) sl
  . exact uo y B hj r E o (.d4 k U W) c H x rfl (nF (λe d=>by simp at d;rcases d with rfl|rfl<;>simp)) (.inl id) (.inr ⟨rfl,Y⟩) sl
 case d5=>obtain⟨v1,K⟩:=z.I.g3 j hj (.inl r);have a:=v;rw[v1,K]at a;obtain⟨g1,o,S⟩:=XX (Wd:=lU A) (main:=false) C X a O;exact uo y B hj r E o .d5 v (bt rfl) (cell 0 (.inl rfl) false) rfl (nF (λe d=>by simp at d;subst d;simp)) (.inl id) (.inl ⟨_,rfl,nx S⟩) sl
 case d6=>obtain⟨v1,K⟩:=z.I.g3 j hj (.inr r);have a:=v;rw[v1,K]at a;obtain⟨g1,w',o,rfl,c,S⟩:=XY (Wd:=lU A) (main:=false) C X a O;exact uo y B hj r E o .d6 (by rw[K];exact c) (⟨⟨.refl _,rfl⟩,.inr ⟨0,_,.inl rfl,rfl,rfl⟩⟩) (cell 0 (.inl rfl) true) rfl (nF (λe d=>by simp at d;subst d;simp)) (.inl id) (.inl ⟨_,rfl,nx S⟩) sl
 case d7=>
  obtain⟨v0,K,m0,a9⟩:=z.I.g4 j hj r;have a:=v;rw[v0,K]at a;have ad:=z.I.g5.1;obtain⟨g1,w',o,rfl,c,Y⟩:=XZ (Wd:=lU A) (main:=false) C X F u a (by omega) O
  obtain⟨m,hq⟩:=Y;have T:g1.status=.running\/g1.status=.finished:=by rcases hq.status with h|h<;>simp[h]
  exact uo y B hj r E o .d7 (by rw[K,v0];exact c) (⟨⟨.refl _,rfl⟩,.inr ⟨1,_,.inr rfl,rfl,rfl⟩⟩) Q rfl JU (.inr ⟨QK C X O,T⟩) (.inr ⟨rfl,m,hq⟩) sl
end
end
section
open Go.Conc
open Go.ConcN (sumTo upd sumTo_upd upd_ne upd_same)
variable{P:adY}
def MS.mT(s:MS P)(c:kK)(gv gm:Nat):MS P:={s with c:=c,gv:=gv,gm:=gm}
section
variable{s:MS P}{n:Nat}{c:kK}{gv gm:Nat}
def MZ{x:bD P}(h:x.last=true):x=.dn .d5\/x=.dn .d6\/x=.dn .d7:=by
 cases x with
 |dn p=>cases p<;>simp_all [bD.last]
 |_=>simp[bD.last]at h
def cj.calm(I:cj n s)(h:s.c.waits=false):s.gv=0/\s.gm=0/\∀j,j<n->(s.w j).last=false:=by
 have b:s.gv=0:=by
  have:=I.g2;by_cases e:s.gv=1
  . have:=(I.Cf e).1;simp_all
  . omega
 refine⟨b,?_,λj a=>?_⟩
 . have:=I.g5.1
   by_cases e:s.gm=1
   . have:=(I.g5.2 e).1;simp_all
   . omega
 . cases e:(s.w j).last with
   |false=>rfl
   | true=>
     rcases MZ e with e|e|e
     . have:=(I.g3 j a (.inl e)).1;omega
     . have:=(I.g3 j a (.inr e)).1;omega
     . have:=(I.g4 j a e).2.2.2;simp_all
def cj.VT(I:cj n s)(h:s.c≠.none):s.sp=n:=by
 have:=I.ms
 grind
def cj.EX(I:cj n s)(h:s.c≠.none)(l:s.gc=0)(g:∀j,j<n->(s.w j).last=false):∀j,j<n->s.w j=.gone:=λj a=>by
 have m:=I.g1;have o:(s.w j).cnt<=sumTo n (λj=>(s.w j).cnt):=Go.ConcN.le_sumTo (f:=λj=>(s.w j).cnt) a;have b:=I.idle j a;rw[I.VT h]at b;have i:=g j a;have k:=I.ok j a;have d:(s.w j).cnt=0:=by omega
 cases e:s.w j with
 |idle=>rw[e]at b;have:=b.1 rfl;omega
 |dn p=>rw[e]at i k d;cases p<;>simp_all [bD.last,bD.ok,bD.cnt]
 |gone=>rfl
 |_=>rw[e]at d;simp[bD.cnt]at d
inductive s8(s:MS P):kK->kK->Nat->adM
 |call:s8 s .eZ (.wt .w0) s.gv s.gm
 |w0:s8 s (.wt .w0) (.wt .w1) s.gv s.gm
 |Zd:s.gc=0->s8 s (.wt .w1) (.wt .we) s.gv s.gm
 |w1:s.gc≠0->s8 s (.wt .w1) (.wt (.w2 s.gc)) s.gv s.gm
 |Ze:s8 s (.wt (.w2 s.gc)) (.wt .w3) 1 s.gm
 |Yd (k:Nat):s.gc≠k->s8 s (.wt (.w2 k)) (.wt .w1) s.gv s.gm
 |w3:s8 s (.wt .w3) (.wt .w4) s.gv s.gm
 |w4:s.gm≠0->s8 s (.wt .w4) (.wt .w5) s.gv (s.gm-1)
 |w5:s8 s (.wt .w5) (.wt .we) s.gv s.gm
 |we:s8 s (.wt .we) (.wt .wa) s.gv s.gm
 |wa:s8 s (.wt .wa) .j8 s.gv s.gm
def cj.QM(I:cj n s)(v:s.c≠.none)(a:c≠.none)(e:c≠.gone)(b:c.ok=true)(f:gv<=1)(d:gv=1->c.waits=true/\gm=0)
 (g:∀j,j<n->(s.w j=.dn .d5\/s.w j=.dn .d6)->gv=1/\s.gc=0) (m:∀j,j<n->s.w j=.dn .d7->gv=0/\s.gc=0/\gm=0/\c.waits=true)
 (o:gm<=1/\(gm=1->c.waits=true/\gv=0/\s.gc=0/\∀j,j<n->(s.w j).last=false)) (q:c.waits=true->gv=0->gm=0->∃j,j<n/\s.w j=.dn .d7)
 (r:gv=1->s.gc=0->∃j,j<n/\(s.w j=.dn .d5\/s.w j=.dn .d6)) (t:c.MO=true->s.gc=0/\gv=0/\gm=0/\∀j,j<n->s.w j=.gone) (u:∀k,c=.wt (.w2 k)->k≠0):cj n (s.mT c gv gm):=by
 refine⟨I.g1,f,d,g,I.IC,m,o,q,r,t,u,I.ok,b,I.sp,I.idle,?_,λ_ h=>absurd h a,I.mu⟩;have:=I.ms
 show match s.ms with
  |.add l=>s.sp+l=n/\c=.none
  |.bM l p=>s.sp+l=n/\c=.none/\1<=l/\(p=.a0\/p=.a2\/p=.a4\/p=.ae)
  |.spawn l=>s.sp+l+1=n/\c=.none
  |.recv=>s.sp=n/\c≠.none
  |.parked=>s.sp=n/\c≠.none/\c≠.gone/\∀i,i<n->s.w i≠.wait
  |.off=>s.sp=n/\c≠.none
 grind
def cj.Zf(I:cj n s){d}(l:s.c=d)(h:s8 s d c gv gm):cj n (s.mT c gv gm):=by
 have calm:d.waits=false->c.waits=false->d≠.none->c≠.none->c≠.gone->c.ok=true->gv=s.gv->gm=s.gm->(c.MO=true->s.gc=0)->(∀k,c=.wt (.w2 k)->k≠0)->cj n (s.mT c gv gm):=by
  intro z A B q r t u v p m;subst u v;obtain⟨g,m0,b⟩:=I.calm (by simp_all)
  have e:s.c≠.none:=by simp_all
  refine I.QM e q r t I.g2 (λh=>by omega) I.g3 (λj a h=>?_) ⟨by omega,λh=>by omega⟩ (λh=>by simp_all) I.g7 (λh=>⟨p h,g,m0,I.EX e (p h) b⟩) m
  have:=b j a;rw[h]at this;cases this
 have g8:d.MO=true->s.gc=0:=λh=>(I.g8 (by simp_all)).1
 cases h with
 |call=>exact calm rfl rfl (by simp) (by simp) (by simp) rfl rfl rfl (λh=>by cases h) (λk h=>by cases h)
 |w0=>exact calm rfl rfl (by simp) (by simp) (by simp) rfl rfl rfl (λh=>by cases h) (λk h=>by cases h)
 |Zd i=>exact calm rfl rfl (by simp) (by simp) (by simp) rfl rfl rfl (λ_=>i) (λk h=>by cases h)
 |w1 i=>exact calm rfl rfl (by simp) (by simp) (by simp) rfl rfl rfl (λh=>by cases h) (λk h=>by simp_all)
 |Yd k i=>exact calm rfl rfl (by simp) (by simp) (by simp) rfl rfl rfl (λh=>by cases h) (λk h=>by cases h)
 |w5=>exact calm rfl rfl (by simp) (by simp) (by simp) rfl rfl rfl (λ_=>g8 rfl) (λk h=>by cases h)
 |we=>exact calm rfl rfl (by simp) (by simp) (by simp) rfl rfl rfl (λ_=>g8 rfl) (λk h=>by cases h)
 |wa=>exact calm rfl rfl (by simp) (by simp) (by simp) rfl rfl rfl (λ_=>g8 rfl) (λk h=>by cases h)
 | Ze=>
   obtain⟨g,m0,b⟩:=I.calm (by rw[l];rfl)
   have w:=I.g9 s.gc l;refine I.QM (by grind) (by simp) (by simp) rfl (by omega) (λ_=>⟨rfl,m0⟩) (λj a h=>?_) (λj a h=>?_) ⟨by omega,λh=>by omega⟩ (λ_ h=>by omega) (λ_ h=>absurd h w) (λh=>by cases h) (λk h=>by cases h)
   . have:=(I.g3 j a h).1;omega
   . have:=b j a;rw[h]at this;cases this
 | w3=>
   have x:s.c.waits=true:=by rw[l];rfl
   refine I.QM (by grind) (by simp) (by simp) rfl I.g2 (λh=>⟨rfl,(I.Cf h).2⟩) I.g3 (λj a h=>?_) ⟨I.g5.1,λh=>⟨rfl,(I.g5.2 h).2⟩⟩ (λ_=>I.g6 x) I.g7 (λh=>by cases h) (λk h=>by cases h)
   have:=I.g4 j a h;exact⟨this.1,this.2.1,this.2.2.1,rfl⟩
 | w4 i=>
   have o:s.gm=1:=by have:=I.g5.1;omega
   obtain⟨y,g,f,b⟩:=I.g5.2 o;have e:s.c≠.none:=by grind
   refine I.QM e (by simp) (by simp) rfl I.g2 (λh=>by omega) I.g3 (λj a h=>?_) ⟨by omega,λh=>by omega⟩ (λh=>by cases h) I.g7 (λ_=>⟨f,g,by omega,I.EX e f b⟩) (λk h=>by cases h)
   have:=b j a;rw[h]at this;cases this
def EY{a}(b:s.c=a)(h:s8 s a c gv gm):MS.gX n (s.mT c gv gm) s:=by
 refine .inl ?_;show s.ms.cM+sumTo n (λi=>(s.w i).cM)+c.cM s.gc<s.ms.cM+sumTo n (λi=>(s.w i).cM)+s.c.cM s.gc;rw[b]
 have:c.cM s.gc<a.cM s.gc:=by
  cases h with
  |Yd k d=>simp only[kK.cM];simp_all
  |_=>simp[kK.cM]
 omega
end
end
open Go.Conc
open Go.ConcN (sumTo upd sumTo_upd upd_ne upd_same)
section
variable{P:adY}{A:bY}{Fin:adr}{Z:Base}{s:MS P}{f:Nat->Node P}{q:adS}{kk:adX}{OO:adW}{J M:adM}{gs:adv}{w w':World}{t u:Trace}{c:kK}{p:Iy}{gv gm:Nat}{g g1:adP}
def vz(e:s.c=.wt p):il P A s A.cl:=.inr (.inr ⟨rfl,by simp_all⟩)
def C6{A:bY}(h:A.cl=0):A.dir=true:=by simp[bY.dir,h]
def C7(hd:A.dir=false)(h:s.ms≠.off):xe P A s:=⟨λe=>by simp_all,λe=>by simp_all,λ_=>h⟩
def C8(b:xe P A s)(e:s.c=.wt p):¬dR P A s A.cl:=by
 have:=A.hb;rintro(⟨h,a⟩|⟨l,d,f,a⟩|⟨_,a⟩)
 . rw[b.1 (C6 h) (by rw[e];simp)]at a;exact a
 . omega
 simp_all
def rW(b:xe P A s):¬fY P A s A.cl:=by
 have:=A.hb;rintro(⟨h,a⟩|⟨l,c,d,a⟩)
 . exact(b.2.1 (C6 h)).2.1 a
 . omega
def uq(a:xe P A s)(e:s.c=.wt p):eu P A s A.cl=uj p:=by
 have:=A.hb;unfold eu;by_cases h:A.cl=0
 . rw[aav h,a.1 (C6 h) (by rw[e];simp),e]
 simp_all
def IH(h:s.c≠.none):cr P A s A.cl:=.inr (.inr ⟨rfl,h⟩)
def JV{a}(h:s8 s a c gv gm):a.fj=false/\c.fj=false/\a.isNone=false/\c.isNone=false/\a.busy=true/\c.busy=true:=by cases h<;>simp[kK.fj,kK.isNone,kK.busy]
def M0:fR A s (s.mT c gv gm) A.cl:=⟨λ_ _ _=>rfl,λh=>absurd rfl h,λ_=>rfl,rfl,rfl,.inl λ_ _=>rfl⟩
def n8  u  (F:bP (cE P A Fin Z u) Z s f q kk OO J M gs w t){G}(v:s.c=G) (x:s8 s G (.wt p) gv gm){d}(hd:Deaf t A.cl=d) (H:gs[A.cl]?=some g){es}(y:stepG P A.dir g w=.go g1 w' es)
 (z:sA A.gb w' s.gc gv gm) (B:MW A.gb 0 w w') (C:SY A.gb es) (D:deafBehind d es=uj p) (j:s.gm=0->gm=0)
 (K:∃n r,jN P (lU A) n g1 r/\Uo P A Fin (.wt p) (kk A.cl) (OO A.cl) r)  sl :Goes P A Fin Z u s gs w t sl A.cl:=by
 have h:dq P A Z s kk OO J M gs.size w t:=F.ex;have hb:=A.hb;obtain⟨f1,R,S,T,L,U⟩:=JV x;have k:s.c.isNone=false:=by simp_all
 have l:s.c≠.none:=λe=>by rw[e]at k;cases k
 obtain⟨n,r,m,E⟩:=K;have a:(s.mT (.wt p) gv gm).c=.wt p:=rfl;have o:xe P A (s.mT (.wt p) gv gm):=⟨λhd _=>h.off.1 hd l,λhd=>⟨(h.off.2.1 hd).1,(h.off.2.1 hd).2.1,by simp_all,by simp_all,by simp_all⟩,h.off.2.2⟩
 have hJ:J A.cl:=(h.hJ _).2 (.inr ⟨rfl,by simp_all⟩)
 refine C4 (s':=s.mT (.wt p) gv gm) (f':=f) (q':=upd q A.cl n) u F (IH l) (rW h.off) H y M0 (λ_ _=>rfl) (λ_ _=>rfl) o (by simp_all) (by simp_all) (λ_=>.inr (.inr ⟨p,rfl⟩)) (λi=>?_) (h.I.Zf v x) rfl z B (.inr ⟨C,by rw[k];rfl⟩) (EY v x) (.inl (.inr hJ)) (.inl j) (λ_ _=>rfl) (λi N=>upd_ne q n N) ?_ sl
 . unfold eQ
   rw[v,L];rfl
 . refine⟨λO=>absurd O (C8 o a),λ_=>⟨C8 o a,?_,?_,r,?_,?_⟩,λQ=>absurd Q (rW o),λ_ k _=>absurd (vz a) k⟩
   . show A.cl<A.b+A.n+1;omega
   . rw[Deaf_own,hd,D]
     show _=eu P A (s.mT (.wt p) gv gm) A.cl;rw[uq o a]
   . exact .inr (.inr ⟨rfl,E⟩)
   . exact .inr (by rw[upd_same];exact m)
variable(C:iC P A.ng)(X:jg P A.ng)
include C X in
def QN  v  (x:bP (cE P A Fin Z v) Z s f q kk OO J M gs w t) (u:s.c=.wt p) (Q:p≠.wa) (B:gs[A.cl]?=some g) (R:Uo P A Fin (.wt p) (kk A.cl) (OO A.cl) g)  sl :
 Goes P A Fin Z v s gs w t sl A.cl\/GY P A s gs w sl A.cl g:=by
 have F:dq P A Z s kk OO J M gs.size w t:=x.ex;have G:=F.I.Um;rw[u]at G;obtain⟨W,rest,D,hT⟩:=R;have d:=F.gr;have hn:=A.hn;have hb:=A.hb;have N:CallKind.normal≠CallKind.early:=by decide
 have nx:∀{Y g1},jh P A.ng A.gb .normal (lU A) Y (W::rest) g1->∃n O,jN P (lU A) n g1 O/\Uo P A Fin (.wt Y) (kk A.cl) (OO A.cl) O:=λ⟨_,O,⟨n,hs⟩,hA⟩=>⟨n,O,hs,W,rest,hA,hT⟩
 have cell:∀wr,SY A.gb #[⟨.cell ⟨A.gb,0,none⟩,wr,true⟩]:=λwr e r=>by simp at r;subst r;exact .inl (.inr ⟨0,.inl rfl,rfl,rfl⟩)
 have hd:Deaf t A.cl=uj p:=by obtain⟨_,_,S,_⟩:=x.walk _ (vz u);rw[S];show eu P A s A.cl=_;rw[uq F.off u]
 have y:s.c.waits=false->s.gv=0:=λh=>(F.I.calm h).1
 have H:∀l,l<A.n->(s.w l).cnt<=1:=λl _=>by
  cases e:s.w l with
  |dn p=>cases p<;>simp[bD.cnt]
  |_=>simp[bD.cnt]
 have a7:s.gc<=A.n+1:=by
  have h1:=F.I.g1;have h2:sumTo A.n (λj=>(s.w j).cnt)<=A.n:=pS A.n H
  have h3:s.ms.pend<=1:=by cases s.ms<;>simp[qA.pend];split<;>omega
  omega
 cases p<;>simp only[kK.ok,aap]at G
 case w0=>obtain⟨g1,a,m⟩:=X1 (Wd:=lU A) (main:=A.dir) (w:=w) C X D N;exact .inl (n8 v x u .w0 hd B a d (bt rfl) (λe r=>by simp at r;subst r;exact .inl (.inl (.inl rfl))) rfl id (nx m) sl)
 case w1=>
  have K:=y (by rw[u];rfl)
  have b:=d;rw[K]at b;obtain⟨g1,a,m⟩:=X2 (Wd:=lU A) (main:=A.dir) C X b (by omega) D
  rcases m with⟨T,m⟩|⟨T,m⟩
  . exact .inl (n8 v x u (.Zd T) hd B a d (bt rfl) (cell false) rfl id (nx m) sl)
  . exact .inl (n8 v x u (.w1 T) hd B a d (bt rfl) (cell false) rfl id (nx m) sl)
 case we=>
  obtain⟨g1,a,m⟩:=X3 (Wd:=lU A) (main:=A.dir) (w:=w) C X (λw h=>h.1) D N
  exact .inl (n8 v x u .we hd B a d (bt rfl) (λe r=>by simp at r;subst r;exact .inl (.inl (.inr rfl))) rfl id (nx m) sl)
 case wa=>exact absurd rfl Q
 case w2 k=>
  have K:=y (by rw[u];rfl)
  have b:=d;rw[K]at b
  rcases X4 (Wd:=lU A) (main:=A.dir) C X (λw h=>h.2.1) b D with⟨E,g1,w',a,rfl,z,m⟩|⟨E,g1,a,m⟩
  . subst E
    exact .inl (n8 v x u .Ze hd B a z (⟨⟨.refl _,rfl⟩,.inr ⟨0,_,.inl rfl,rfl,rfl⟩⟩) (λe r=>by simp at r;rcases r with rfl|rfl<;>exact .inl (.inr ⟨0,.inl rfl,rfl,rfl⟩)) rfl id (nx m) sl)
  . exact .inl (n8 v x u (.Yd k E) hd B a d (bt rfl) (cell false) rfl id (nx m) sl)
 case w3=>obtain⟨g1,a,m⟩:=X5 (Wd:=lU A) (main:=A.dir) (w:=w) C X D N;exact .inl (n8 v x u .w3 hd B a d (bt rfl) (λe r=>by simp at r;subst r;exact .inr ⟨1,.inr rfl,.inr rfl⟩) rfl id (nx m) sl)
 case w4=>
  by_cases L:s.gm=0
  . right
    have b:=d;rw[L]at b;have a:=VE (main:=A.dir) C X b D;refine⟨.inr ⟨rfl,u,L⟩,?_⟩;have h:=runT_crowd_go (P:=P) (sl:=sl) (i:=A.cl) B a
    have U:woken P g {g with status:=.blocked} w=id:=funext λo=>by unfold Go.Conc.woken;simp
    rw[U,Array.map_id]at h;exact h
  . left
    obtain⟨g1,w',a,rfl,z,m⟩:=X6 (Wd:=lU A) (main:=A.dir) C X d L D N
    exact n8 v x u (.w4 L) hd B a z (⟨⟨.refl _,rfl⟩,.inr ⟨1,_,.inr rfl,rfl,rfl⟩⟩) (λe r=>by
     simp[semEvents]at r
     rcases r with rfl|rfl|rfl|rfl
     . exact .inl (.inl (.inl rfl))
     . exact .inl (.inr ⟨1,.inr rfl,rfl,rfl⟩)
     . exact .inl (.inr ⟨1,.inr rfl,rfl,rfl⟩)
     . exact .inl (.inl (.inr rfl))) rfl (λh=>absurd h L) (nx m) sl
 case w5=>
  obtain⟨V,K,m0,_⟩:=F.I.g8 (by rw[u];rfl)
  have b:=d;rw[V,K]at b;obtain⟨g1,a,m⟩:=X7 (Wd:=lU A) (main:=A.dir) C X b D;exact .inl (n8 v x u .w5 hd B a d (bt rfl) (cell false) rfl id (nx m) sl)
end
section
variable{Z:Base}{kk:adX}{OO:adW}{J M:adM}{w:World}{t:Trace}
def cP.VU(h:cP Z kk OO J M w t){i ad}(E:J i)(r:ad.block<w.heap.size)(hd:Deaf t i=0)(F:∀p,M p->t.heard p/\Z.N0<=p/\t.act? p=some (.mark (.releaseMerge ad)))
 (G:∀m a,Z.N0<=m->t.act? m≠some (.mark (.release a)))  fn   pos :
 cP Z kk OO J (λ_=>False) w (t++MemOp.ofEvents i fn pos #[⟨.mark (.acquire ad),false,true⟩]):=by
 obtain⟨u,D⟩:∃u,u=MemOp.ofEvents i fn pos #[⟨.mark (.acquire ad),false,true⟩]:=⟨_,rfl⟩;have f:u=#[⟨i,fn,pos,.mark (.acquire ad)⟩]:=by rw[D,ofEvents_eq];simp[MemAct.ofEvent]
 rw[<-D];have H:∀op∈u,op.act.touch?=none:=λop c=>by rw[f]at c;simp at c;subst c;rfl
 have l:∀op∈u,op.g=i:=λop c=>by grind
 have z:u[0]?=some ⟨i,fn,pos,.mark (.acquire ad)⟩:=by grind
 have d:lC u:=λop c=>by grind
 have o:∀k,Z.N0<=k->∀a,(t++u).act? k≠some (.mark (.release a)):=λk A a e=>by
  rcases rU e with⟨q,_⟩|⟨op,c,q⟩
  . simp_all
  grind
 exact h.vh (λa b=>a=b) rfl ⟨⟨.refl _,rfl⟩,λ_ _=>rfl⟩ (λb=>.inl rfl) (λop c=>by rw[f]at c;simp at c;subst c;simpa[MemAct.low]using r) (λa b e n y _ _ _ A=>by subst e;exact A.app u)
  (λj b n v h=>⟨j,rfl,h⟩) (λj b s h=>⟨j,rfl,h⟩) (λj b x h=>⟨j,rfl,h,λ_ h=>h⟩) h.j7
  (λsaid=>noRace_append (h.clean said) l λn a B op c b hb _=>by simp_all) (λop c a B=>by simp_all) (λm op a c B=>by grind)
  (λn a B L h=>h.elim (λ⟨j,q,C⟩=>.inr (.inl ⟨j,q,C.app _⟩)) (λ⟨p,q,C⟩=>by obtain⟨I,N,K⟩:=F p q;exact .inr (.inl ⟨i,E,nX (y:=⟨i,fn,pos,.mark (.acquire ad)⟩) d z rfl hd K I (λk A=>o k (by omega) ad) C⟩)))
end
section
variable{P:adY}{A:bY}{Fin:adr}{Z:Base}{s:MS P}{f:Nat->Node P}{q:adS}{kk:adX}{OO:adW}{J M:adM}{gs:adv}{w w':World}{t u:Trace}{c:kK}{p:Iy}{gv gm:Nat}{g g1:adP}
def vA(e:s.c=.j8\/s.c=.eZ):dR P A s A.cl:=.inr (.inr ⟨rfl,by grind⟩)
def II(hd:A.dir=false)(e:s.c=.j8\/s.c=.eZ):¬il P A s A.cl:=by
 have:=A.hb;have:=wB hd;rintro(⟨e,_⟩|⟨l,b,d,a⟩|⟨_,a⟩)
 . omega
 . omega
 grind
def IJ(hd:A.dir=false)(e:s.c≠.eZ):cS P A Fin s A.cl=sY P A:=by
 have:=A.hb;have:=wB hd;unfold cS
 grind
def IK(hd:A.dir=false)(e:s.c=.eZ):cS P A Fin s A.cl=yW P A:=by
 have:=A.hb;have:=wB hd;unfold cS
 grind
def RZ{x}:Qw P A s A.cl x:=λj h X a b _=>by have:=A.hb;omega
variable(C:iC P A.ng)(X:jg P A.ng)
include C X in
def QO  v  (F:bP (cE P A Fin Z v) Z s f q kk OO J M gs w t) (o:s.c=.wt .wa) (V:gs[A.cl]?=some g) (G:Uo P A Fin (.wt .wa) (kk A.cl) (OO A.cl) g) (d:A.dir=false)  sl :
 Goes P A Fin Z v s gs w t sl A.cl:=by
 have j:dq P A Z s kk OO J M gs.size w t:=F.ex;have B:=bs (P:=P) (A:=A) (Fin:=Fin) (Z:=Z) v;obtain⟨c0,rest,hM,W⟩:=G;rw[aau (by rw[d];simp)]at W
 have a7:=wB d;have hb:=A.hb;have H:(A.cl==0)=false:=by simp;omega
 obtain⟨g1,K,hr,⟨k,x⟩⟩:=VD (Wd:=λ_=>True) (main:=false) (w:=w) C X hM (by decide)
 obtain⟨tr⟩:=T.tree (P:=P) (m:=sY P A) rfl (W _ (ar.Le.refl _));obtain⟨T,_⟩:=TT.pre x tr;have z:=runT_crowd_go (P:=P) (sl:=sl) (i:=A.cl) V (by rw[H];exact K)
 have L:=vz (P:=P) (A:=A) o
 have hd:Deaf t A.cl=0:=by obtain⟨_,_,N,_⟩:=F.walk _ L;rw[N];show eu P A s A.cl=_;rw[uq j.off o];rfl
 have hJ:J A.cl:=(j.hJ _).2 (.inr ⟨rfl,by rw[o];rfl⟩)
 have hG:A.gb<w.heap.size:=by obtain⟨c,e,Q⟩:=j.AA;exact(zA.1 Q).1
 have hP:=F.c8.VU (i:=A.cl) (ad:=⟨A.gb,0,none⟩) hJ hG hd (λp D=>by
  obtain⟨Q,h2,u⟩:=j.hM p D
  rcases u with⟨u,_⟩|⟨u,_⟩
  . exact⟨Q,h2,u⟩
  . rw[o]at u;cases u) j.norel g.frame.fn g.frame.place
 have E:∀op∈MemOp.ofEvents A.cl g.frame.fn g.frame.place #[⟨.mark (.acquire ⟨A.gb,0,none⟩),false,true⟩],op.g=A.cl:=λop r=>by obtain⟨e,_,rfl⟩:=KC r;rfl
 have R:dq P A Z (s.mT .j8 s.gv s.gm) kk OO J (λ_=>False) gs.size w (t++MemOp.ofEvents A.cl g.frame.fn g.frame.place #[⟨.mark (.acquire ⟨A.gb,0,none⟩),false,true⟩]):=
  j.VR (M0 (s:=s) (c:=.j8)) (λ_ _=>rfl) (λ_ _=>rfl) (C7 d (j.off.2.2 d)) (by rw[o];rfl) (by rw[o];rfl) (λp D=>D.elim) (λe=>by rw[o]at e;cases e) (λ⟨p,D⟩=>D.elim) (λi=>by unfold eQ;rw[o];rfl) (j.I.Zf o .wa) rfl j.gr (bt rfl) (λop r=>by obtain⟨e,Y,rfl⟩:=KC r;simp at Y;subst Y;exact⟨λa ha=>by simp[MemAct.ofEvent,MemAct.touch?]at ha,λa h=>by simp[MemAct.ofEvent]at h⟩)
 have S:Beside (cE P A Fin Z v) s (s.mT .j8 s.gv s.gm) f (cq f A.cl ⟨sY P A,kk A.cl,OO A.cl,g1,T⟩) q q kk kk OO OO J J w A.cl g g1:=mS v M0 (λi hi=>az _ _ hi) (λ_ _=>rfl) (λ_ _ _=>rfl) (λ_ _ _=>rfl) (λ_ _ h=>h) (.inl ⟨id,id⟩) (λ{i k O y} U=>B.lM (s:=s) (i:=i) (k:=k) (O:=O) (g:=y) U)
 refine⟨_,_,z,s.mT .j8 s.gv s.gm,cq f A.cl ⟨sY P A,kk A.cl,OO A.cl,g1,T⟩,q,kk,OO,J,(λ_=>False),_,_,_,rfl,EY o .wa,?_⟩
 refine bP.step B F V E hP R (λl y hl U=>B.tZ j hl _ _ U) S ⟨λ_=>?_,λh=>absurd h (II d (.inl rfl)),λh=>absurd h (rW (C7 d (j.off.2.2 d))),λh=>absurd (vA (.inl rfl)) h⟩
 rw[ao];refine⟨by show A.cl<A.b+A.n+1;omega,rfl,?_,rfl,rfl,hr,?_,.inr hJ,RZ⟩
 . show sY P A=cS P A Fin (s.mT .j8 s.gv s.gm) A.cl
   rw[IJ d (by simp[MS.mT])]
 . rw[Deaf_own,hd];rfl
end
def vB {P y s fr x f eo kind} (a:FR y s fr) (h:bj s=some x):fr≠Frame.enter P f eo kind:=fun e=>by
 obtain⟨ops,i,rest,kk,o,as,b,d,g,j,k,c,l⟩:=dF (f:=x.1) (svs:=x.2) a h;have:fr.todo = .inRegion ops (i :: rest) :: kk:=by rw[c];rfl
 rw[e] at this;simp[Frame.enter] at this
def C9{fr a cs b}(h:G fr cs=G a b):fr=a:=by have:=congrArg Goroutine.frame h;exact this
section
variable{P:adY}{A:bY}{Fin:adr}{Z:Base}{s:MS P}{f:Nat->Node P}{q:adS}{kk:adX}{OO:adW}{J M:adM}{gs:adv}{w w':World}{t u:Trace}{j:Nat}{c:kK}{p:Iy}{gv gm:Nat}{g g1:adP}
variable(C:iC P A.ng)(X:jg P A.ng)
include C in
def EZ{b kind a cs f eo n Wd d}(h:jN P Wd n (G (Frame.enter P f eo a) cs) d)(g:sB P A.ng b kind .w0 cs d):n≠0:=λe=>by subst e;obtain⟨c,y,fr,i,rfl,l,j,k,rfl⟩:=g;exact vB j (C.w0 b kind).1 (C9 h).symm
include C in
def M3{b kind a cs f eo n Wd d}(h:jN P Wd n (G (Frame.enter P f eo a) cs) d)(g:sB P A.ng b kind .a0 cs d):n≠0:=λe=>by subst e;obtain⟨c,y,fr,i,rfl,l,j,k,rfl⟩:=g;exact vB j (C.a0 b kind).1 (C9 h).symm
include C in
def M4{b kind a cs f eo n Wd d}(h:jN P Wd n (G (Frame.enter P f eo a) cs) d)(g:sB P A.ng b kind .d1 cs d):n≠0:=λe=>by subst e;obtain⟨c,y,fr,i,rfl,l,j,k,rfl⟩:=g;exact vB j (C.d1 b).1 (C9 h).symm
include C X in
def JW  h  (i:bP (cE P A Fin Z h) Z s f q kk OO J M gs w t) (u:s.c=.eZ){k O N}(j:k=kk A.cl) (l:O=OO A.cl) (z:gs[A.cl]?=some g) (B:(yW P A).dB k O g N) (a:A.dir=false)  sl :
 Goes P A Fin Z h s gs w t sl A.cl:=by
 have v:dq P A Z s kk OO J M gs.size w t:=i.ex;obtain⟨_,_,_,_,_,_,m,_⟩:=i.live _ (vA (.inr u));obtain⟨rfl,x,rest,rfl,D⟩:=B;subst j l;obtain⟨E,⟨n,d⟩,y⟩:=qS (P:=P) (n:=A.ng) (b:=A.gb) (kind:=.normal) (cs:=x::rest) (Wd:=lU A) X C;cases n with
 |zero=>exact absurd rfl (EZ C d y)
 |succ n=>obtain⟨g1,⟨F,o⟩,p⟩:=d;have r:lU A w:=(bs (P:=P) (A:=A) (Fin:=Fin) (Z:=Z) h).wd v;exact n8 h i u .call m z (by rw[a];exact o false w r) v.gr (bt rfl) (λe G=>by simp at G) rfl id ⟨n,E,p,x,rest,y,by rw[aau (by rw[a];simp)];exact D⟩ sl
def uu(hj:j<A.n)(e:s.w j=.Aj):dR P A s (A.b+j):=.inr (.inl ⟨j,hj,rfl,by simp_all⟩)
def vC(hj:j<A.n)(e:s.w j=.Aj):¬fY P A s (A.b+j):=by
 have:=A.hb;rintro(⟨e,_⟩|⟨l,a,c,d⟩)
 . omega
 simp_all
include C X in
def JX  r  (u:bP (cE P A Fin Z r) Z s f q kk OO J M gs w t) (hj:j<A.n) (c:s.w j=.Aj){k O N}(H:gs[A.b+j]?=some g) (K:(lT P A).dB k O g N)  sl :
 Goes P A Fin Z r s gs w t sl (A.b+j):=by
 have o:dq P A Z s kk OO J M gs.size w t:=u.ex;have hb:=A.hb;obtain⟨_,_,_,_,_,_,v,_⟩:=u.live _ (uu hj c);obtain⟨rfl,F,fn,tmps,todo,y,p,rfl⟩:=K;have z:(A.b+j==0)=false:=by simp;omega
 obtain⟨L,⟨n,m⟩,G⟩:=yR (P:=P) (n:=A.ng) (b:=A.gb) (kind:=.deferred) (cs:=[lG P F tmps todo,cU P]) (Wd:=lU A) X (λw h=>h.1) C
 cases n with
 |zero=>exact absurd rfl (M4 C m G)
 | succ n=>
   obtain⟨g1,⟨Q,B⟩,D⟩:=m;have E:lU A w:=(bs (P:=P) (A:=A) (Fin:=Fin) (Z:=Z) r).wd o;obtain⟨x,d⟩:∃x:bD P,x=.dn .d1:=⟨_,rfl⟩;have a:(s.bc j x s.sh).w j=.dn .d1:=by rw[bd,d]
   have R:cj A.n (s.bc j x s.sh):=o.I.xJ hj (by rw[c];rfl) (by rw[d];rfl) (.inl (by rw[d,c];rfl)) (by rw[d];rfl) (by rw[d,c];rfl)
   have S:MS.gX A.n (s.bc j x s.sh) s:=um hj (by rw[d,c];simp[bD.cM])
   have hJ:J (A.b+j):=(o.hJ _).2 (.inl ⟨j,hj,rfl,by rw[c];rfl⟩)
   refine C4 (s':=s.bc j x s.sh) (f':=f) (q':=upd q (A.b+j) n) (es:=#[]) r u (jj o.I hj (by rw[c];rfl)) (vC hj c) H (by rw[z];exact B false w E) (yZ hj (.inl (by rw[d,c];rfl))) (λl _=>?_) (λl _=>?_) o.off rfl rfl id (pN hj (by rw[d,c];rfl)) R rfl o.gr (bt rfl) (.inl gy) S (.inl (.inr hJ)) (.inl id) (λ_ _=>rfl) (λi T=>upd_ne q n T) ?_ sl
   . by_cases e:l=j
     . subst e;rw[bd,d,c];rfl
     . rw[cN e]
   . by_cases e:l=j
     . subst e;rw[bd,d,c];rfl
     . rw[cN e]
   . refine⟨λU=>absurd U (lg hj a),λ_=>⟨lg hj a,?_,?_,L,?_,?_⟩,λV=>absurd V (qW hj a),λ_ W _=>absurd (nE hj a) W⟩
     . show A.b+j<A.b+A.n+1;omega
     . rw[Deaf_own,v]
       show _=eu P A (s.bc j x s.sh) (A.b+j);rw[fF hj,a];rfl
     . refine .inr (.inl ⟨j,hj,rfl,?_⟩)
       rw[a];exact⟨F,fn,tmps,todo,y,p,G⟩
     . exact .inr (by rw[upd_same];exact D)
end
section
variable{P:adY}
def MS.oa(s:MS P)(ms:qA)(gc:Nat):MS P:={s with ms:=ms,gc:=gc}
inductive E0(s:MS P):qA->qA->adM
 |call (j:Nat):1<=j->E0 s (.add j) (.bM j .a0) s.gc
 |a0 (j:Nat):E0 s (.bM j .a0) (.bM j .a2) s.gc
 |a2 (j:Nat) (p:Iy):p=.a4\/p=.ae->E0 s (.bM j .a2) (.bM j p) (s.gc+1)
 |a4 (j:Nat):E0 s (.bM j .a4) (.bM j .ae) s.gc
 |ae (j:Nat):E0 s (.bM j .ae) (.spawn (j-1)) s.gc
def cj.mai{n}{s:MS P}(I:cj n s){m0 m1 gc}(f:s.ms=m0)(h:E0 s m0 m1 gc):cj n (s.oa m1 gc)/\s.c=.none:=by
 have a:=I.ms;rw[f]at a;have d:s.c=.none:=by cases h<;>first|exact a.2|exact a.2.1
 obtain⟨k,i,g⟩:=I.calm (by rw[d];rfl);refine⟨⟨?_,I.g2,I.Cf,λj b h=>?_,I.IC,λj b h=>?_,⟨I.g5.1,λh=>(by have h:s.gm=1:=h;omega)⟩,I.g6,λh=>(by have h:s.gv=1:=h;omega),λh=>?_,I.g9,I.ok,I.Um,I.sp,I.idle,?_,I.early,I.mu⟩,d⟩
 . have:=I.g1
   rw[f]at this;show gc=sumTo n (λj=>(s.w j).cnt)+m1.pend;cases h with
   |a2 j p e=>rcases e with rfl|rfl<;>simp_all [qA.pend]
   |_=>simp_all [qA.pend]
 . have h:s.w j=.dn .d5\/s.w j=.dn .d6:=h
   have:=g j b;rcases h with h|h<;>rw[h]at this<;>cases this
 . have h:s.w j=.dn .d7:=h
   have:=g j b;rw[h]at this;cases this
 . have h:s.c.MO=true:=h
   rw[d]at h;cases h
 . cases h with
   |call j b=>exact⟨a.1,a.2,b,.inl rfl⟩
   |a0 j=>exact⟨a.1,a.2.1,a.2.2.1,.inr (.inl rfl)⟩
   |a2 j p e=>exact⟨a.1,a.2.1,a.2.2.1,.inr (.inr e)⟩
   |a4 j=>exact⟨a.1,a.2.1,a.2.2.1,.inr (.inr (.inr rfl))⟩
   |ae j=>exact⟨by have l:=a.1;have m:=a.2.2.1;show s.sp+(j-1)+1=n;omega,a.2.1⟩
def M5{n}{s:MS P}{m0 m1 gc}(a:s.c=.none)(hj:∀j p,m0=.bM j p->1<=j)(b:s.ms=m0)(h:E0 s m0 m1 gc):MS.gX n (s.oa m1 gc) s:=by
 refine .inl ?_;show m1.cM+sumTo n (λi=>(s.w i).cM)+s.c.cM gc<s.ms.cM+sumTo n (λi=>(s.w i).cM)+s.c.cM s.gc;rw[b,a];have e:∀x,kK.cM x .none=0:=λ_=>rfl
 rw[e,e]
 have:m1.cM<m0.cM:=by
  cases h with
  |a2 j p d=>rcases d with rfl|rfl<;>simp[qA.cM]
  |ae j=>have:=hj j .ae rfl;simp only[qA.cM];omega
  |_=>simp[qA.cM]
 omega
end
section
variable{P:adY}{A:bY}{Fin:adr}{Z:Base}{s:MS P}{f f':Nat->Node P}{q q':adS}{kk:adX}{OO:adW}{J M:adM}{gs:adv}{w w':World}{t u:Trace}{j:Nat}{c:kK}{p:Iy}{gc:Nat}{g g1:adP}{m0 m1:qA}
def G2(e:s.ms=.bM j p):il P A s 0:=.inl ⟨rfl,by simp_all⟩
def IL(b:s.c=.none)(e:s.ms=.bM j p):¬dR P A s 0:=by
 have:=A.hb;rintro(⟨_,a⟩|⟨l,d,f,a⟩|⟨_,a⟩)
 . simp_all
 . omega
 simp_all
def nG(e:s.ms≠.parked):¬fY P A s 0:=by
 have:=A.hb;rintro(⟨_,a⟩|⟨l,b,c,a⟩)
 . exact e a
 . omega
def IM(e:s.ms=.bM j p):eu P A s 0=uj p:=by
 unfold eu
 simp_all
def VV:fR A s (s.oa m1 gc) 0:=⟨λ_ _ _=>rfl,λ_=>rfl,λh=>absurd rfl h,rfl,rfl,.inl λ_ _=>rfl⟩
def vD  r  (Q:bP (cE P A Fin Z r) Z s f q kk OO J M gs w t) (z:s.ms=m0) (o:E0 s m0 m1 gc){d}(hd:Deaf t 0=d) (T:gs[0]?=some g){es}(B:stepG P true g w=.go g1 w' es)
 (C:sA A.gb w' gc s.gv s.gm) (D:MW A.gb 0 w w') (E:SY A.gb es)
 (U:(∃j p n y,m1=.bM j p/\deafBehind d es=uj p/\jN P (lU A) n g1 y/\Xi P A Fin (.bM j p) (kk 0) (OO 0) y)\/
   (∃j,m1=.spawn j/\deafBehind d es=0/\g1.status=.running/\∃R:TT P (GR P A Fin j) (kk 0) (OO 0) g1,True))  sl :Goes P A Fin Z r s gs w t sl 0:=by
 have S:dq P A Z s kk OO J M gs.size w t:=Q.ex;have hb:=A.hb;have V:((0:Nat)==0)=true:=rfl;obtain⟨W,k⟩:=S.I.mai z o;have F:s.c.isNone=true:=by rw[k];rfl
 have Y:MS.gX A.n (s.oa m1 gc) s:=M5 k (λj p e=>by have:=S.I.ms;simp_all) z o
 have ho:xe P A (s.oa m1 gc):=⟨λ_ h=>absurd k h,λ_=>⟨by cases o<;>simp[MS.oa],by cases o<;>simp[MS.oa],by rw[show(s.oa m1 gc).c=.none from k];simp⟩,λ_=>by cases o<;>simp[MS.oa]⟩
 have G:s.ms≠.parked:=by rw[z];cases o<;>simp
 have H:∀fn pos,Deaf (t++MemOp.ofEvents 0 fn pos es) 0=deafBehind d es:=λfn pos=>by rw[Deaf_own,hd]
 have go:∀(f':Nat->Node P) (q':adS),(∀i,i≠0->f' i=f i)->(∀i,i≠0->q' i=q i)->Self P (cE P A Fin Z r) (s.oa m1 gc) f' q' kk OO J (t++MemOp.ofEvents 0 g.frame.fn g.frame.place es) 0 g1->Goes P A Fin Z r s gs w t sl 0:=λf' q' hf hq m=>C4 (s':=s.oa m1 gc) r Q (.inl rfl) (nG G) T B VV (λ_ _=>rfl) (λ_ _=>rfl) ho rfl rfl id (λi=>abt) W rfl C D (.inr ⟨E,by rw[F];rfl⟩) Y (.inl (.inl rfl)) (.inl id) hf hq m sl
 rcases U with⟨j,p,n,y,rfl,u,v,K⟩|⟨j,rfl,u,hr,R,_⟩
 . have a:(s.oa (.bM j p) gc).ms=.bM j p:=rfl
   refine go f (upd q 0 n) (λ_ _=>rfl) (λi L=>upd_ne q n L) ⟨λhl=>absurd hl (IL (s:=s.oa (.bM j p) gc) k a),λ_=>⟨IL (s:=s.oa (.bM j p) gc) k a,?_,?_,y,?_,?_⟩,λhh=>absurd hh (nG (by simp_all)),λ_ F _=>absurd (G2 a) F⟩
   . show 0<A.b+A.n+1;omega
   . rw[H,u]
     show _=eu P A (s.oa (.bM j p) gc) 0;rw[IM a]
   . exact .inl ⟨rfl,K⟩
   . exact .inr (by rw[upd_same];exact v)
 . have N:dR P A (s.oa (.spawn j) gc) 0:=.inl ⟨rfl,trivial⟩
   have O:¬il P A (s.oa (.spawn j) gc) 0:=by
    rintro(⟨_,x⟩|⟨l,h1,h2,x⟩|⟨_,x⟩)
    . exact x
    . omega
    . rw[show(s.oa (.spawn j) gc).c=.none from k]at x;exact x
   refine go (cq f 0 ⟨GR P A Fin j,kk 0,OO 0,g1,R⟩) q (λi L=>az _ _ L) (λ_ _=>rfl) ⟨λ_=>?_,λh=>absurd h O,λh=>absurd h (nG (by simp[MS.oa])),λh=>absurd N h⟩
   rw[ao];refine⟨by show 0<A.b+A.n+1;omega,rfl,?_,rfl,rfl,hr,by grind,.inl rfl,λl h X h1 h2 _=>by omega⟩
   show GR P A Fin j=cS P A Fin (s.oa (.spawn j) gc) 0;unfold cS;rw[aav rfl];rfl
variable(C:iC P A.ng)(X:jg P A.ng)
include C X in
def E1  y  (z:bP (cE P A Fin Z y) Z s f q kk OO J M gs w t) (i:s.ms=.bM j p) (B:gs[0]?=some g) (L:Xi P A Fin (.bM j p) (kk 0) (OO 0) g)  sl :Goes P A Fin Z y s gs w t sl 0:=by
 have H:dq P A Z s kk OO J M gs.size w t:=z.ex;have D:=H.I.ms;rw[i]at D;obtain⟨_,V,W,Y⟩:=D;obtain⟨N,a7,hl⟩:=H.I.calm (by rw[V];rfl)
 obtain⟨R,rest,K,S⟩:=L;have d:=H.gr;have hn:=A.hn;have O:CallKind.normal≠CallKind.early:=by decide
 have nx:∀{U g1},jh P A.ng A.gb .normal (lU A) U (R::rest) g1->∃n b,jN P (lU A) n g1 b/\Xi P A Fin (.bM j U) (kk 0) (OO 0) b:=λ⟨_,b,⟨n,hs⟩,hA⟩=>⟨n,b,hs,R,rest,hA,S⟩
 have hd:Deaf t 0=uj p:=by obtain⟨_,_,Q,_⟩:=z.walk _ (G2 i);rw[Q];show eu P A s 0=_;rw[IM i]
 have E:∀l,l<A.n->(s.w l).cnt<=1:=λl _=>by
  cases e:s.w l with
  |dn p=>cases p<;>simp[bD.cnt]
  |_=>simp[bD.cnt]
 have a8:s.gc<=A.n+1:=by
  have o:=H.I.g1;have r:sumTo A.n (λj=>(s.w j).cnt)<=A.n:=pS A.n E
  have h3:s.ms.pend<=1:=by cases s.ms<;>simp[qA.pend];split<;>omega
  omega
 rcases Y with rfl|rfl|rfl|rfl
 . obtain⟨g1,a,hN⟩:=XQ (Wd:=lU A) (main:=true) (w:=w) C X K O
   obtain⟨n,b,o,r⟩:=nx hN;exact vD y z i (.a0 j) hd B a d (bt rfl) (λe c=>by simp at c;subst c;exact .inl (.inl (.inl rfl))) (.inl ⟨j,_,n,b,rfl,rfl,o,r⟩) sl
 . have u:=d
   rw[N]at u;obtain⟨g1,w',a,rfl,x,hN⟩:=XR (Wd:=lU A) (main:=true) (v:=0) C X (λw h=>h.2.1) u (by omega) K
   have F:SY A.gb #[⟨.cell ⟨A.gb,0,none⟩,false,true⟩,⟨.cell ⟨A.gb,0,none⟩,true,true⟩]:=λe c=>by simp at c;rcases c with rfl|rfl<;>exact .inl (.inr ⟨0,.inl rfl,rfl,rfl⟩)
   rcases hN with hN|hN
   . obtain⟨n,b,o,r⟩:=nx hN
     exact vD y z i (.a2 j _ (.inl rfl)) hd B a (by rw[N];exact x) (⟨⟨.refl _,rfl⟩,.inr ⟨0,_,.inl rfl,rfl,rfl⟩⟩) F (.inl ⟨j,_,n,b,rfl,rfl,o,r⟩) sl
   . obtain⟨n,b,o,r⟩:=nx hN
     exact vD y z i (.a2 j _ (.inr rfl)) hd B a (by rw[N];exact x) (⟨⟨.refl _,rfl⟩,.inr ⟨0,_,.inl rfl,rfl,rfl⟩⟩) F (.inl ⟨j,_,n,b,rfl,rfl,o,r⟩) sl
 . obtain⟨g1,a,hN⟩:=XS (Wd:=lU A) (main:=true) (w:=w) C X K O
   obtain⟨n,b,o,r⟩:=nx hN;exact vD y z i (.a4 j) hd B a d (bt rfl) (λe c=>by simp at c;subst c;exact .inr ⟨1,.inr rfl,.inl rfl⟩) (.inl ⟨j,_,n,b,rfl,rfl,o,r⟩) sl
 . obtain⟨g1,a,hr,⟨k,G⟩⟩:=XT (Wd:=λ_=>True) (main:=true) (w:=w) C X K O
   obtain⟨tr⟩:=T.tree (P:=P) (m:=GR P A Fin (j-1)) rfl S;obtain⟨T,_⟩:=TT.pre G tr;exact vD y z i (.ae j) hd B a d (bt rfl) (λe c=>by simp at c;subst c;exact .inl (.inl (.inr rfl))) (.inr ⟨j-1,rfl,rfl,hr,T,trivial⟩) sl
include C X in
def M6  c  (d:bP (cE P A Fin Z c) Z s f q kk OO J M gs w t) (r:s.ms=.add (j+1)){k O N}(h:k=kk 0) (i:O=OO 0) (y:gs[0]?=some g) (z:(qp P A Fin (j+1)).dB k O g N)  sl :
 Goes P A Fin Z c s gs w t sl 0:=by
 have u:dq P A Z s kk OO J M gs.size w t:=d.ex;obtain⟨_,_,_,_,_,_,l,_⟩:=d.live 0 (.inl ⟨rfl,by rw[r];trivial⟩);obtain⟨rfl,v,rest,rfl,B⟩:=z;subst h i;obtain⟨D,⟨n,a⟩,x⟩:=Ay (P:=P) (n:=A.ng) (b:=A.gb) (kind:=.normal) (cs:=v::rest) (Wd:=lU A) X;cases n with
 |zero=>exact absurd rfl (M3 C a x)
 |succ n=>obtain⟨g1,⟨E,m⟩,o⟩:=a;have p:lU A w:=(bs (P:=P) (A:=A) (Fin:=Fin) (Z:=Z) c).wd u;exact vD c d r (.call (j+1) (by omega)) l y (m true w p) u.gr (bt rfl) (λe F=>by simp at F) (.inl ⟨j+1,.a0,n,D,rfl,rfl,o,v,rest,x,B⟩) sl
end
