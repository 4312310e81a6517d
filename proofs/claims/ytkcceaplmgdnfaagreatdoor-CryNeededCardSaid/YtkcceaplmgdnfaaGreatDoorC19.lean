import Derived.Test.YtkcceaplmgdnfaaGreatDoorC18
set_option linter.all false
namespace Go.bQ
section
open Go.Conc
open Go.ConcN (sumTo upd sumTo_upd upd_ne upd_same)
section
variable{P:acD}{A:bJ}{Fin:abz}{Z:Base}{s:MS P}{f:Nat->Node P}{q:acs}{kk:acy}{OO:acx}{J M:ack}{gs:abH}{gsz:Nat}{w:World}{t u:Trace}{j:Nat}{g:aco}{x:bn P}{xo:Own}{a:ga}
theorem c8.give(Y:A.b+A.n+1<=Z.lk)(h:c8 P A Z s kk OO J M gsz w t)(hj:j<A.n)(k:(s.w j).work=true)(D:x.work=true)(O:∀l,l<A.n->(s.w l).owns=true->l=j)(R:x.owns=false)(S:bO A.n (s.aT j x s.sh))(T:kq (kk (A.b+j)) xo a)(E:A.GI a)(F:x.iv=(s.w j).iv)(U:A.dir=true->(kk (A.b+j)).cell A.fb (A.cell j)=some (A.val j))(V:∀op∈u,op.act.touch?=none/\∀a,op.act≠.mark (.release a)):
 c8 P A Z (s.aT j x s.sh) (ou kk Z.lk (A.b+j)) (fK OO Z.lk (A.b+j) A.mb A.fb xo) J M gsz w (t++u):=by
 have W:A.b+j≠Z.lk:=by omega
 have p:x.busy=(s.w j).busy:=by rw[(bz k).2.2.2.2.2.1,(bz D).2.2.2.2.2.1]
 have G:∀l,l≠Z.lk->ou kk Z.lk (A.b+j) l=kk l:=λl d=>au _ _ d
 have H:ou kk Z.lk (A.b+j) Z.lk=kk (A.b+j):=ao _ _ _;have eO:∀l,l≠A.b+j->l≠Z.lk->fK OO Z.lk (A.b+j) A.mb A.fb xo l=OO l:=λl k D=>by unfold fK;rw[au _ _ D,au _ _ k]
 have z:fK OO Z.lk (A.b+j) A.mb A.fb xo (A.b+j)=((OO (A.b+j)).del A.mb).del A.fb:=by unfold fK;rw[au _ _ W,ao]
 have f:fK OO Z.lk (A.b+j) A.mb A.fb xo Z.lk=aj.bot.set A.mb xo:=by unfold fK;rw[ao]
 have B:bT P A s (A.b+j):=iG h.I hj (bz k).2.2.2.2.1
 have C:∀l,l<A.n->((s.aT j x s.sh).w l).owns=false:=λl d=>by
  by_cases e:l=j
  . subst e;rw[aU];exact R
  . rw[cy e]
    grind
 refine⟨S,h.size,h.dd,h.off,λhd l d=>⟨λr=>?_,λQ=>?_⟩,h.zT,h.mu,h.gr,h.vd,h.yZ,λi=>?_,λi=>?_,λi y v=>?_,λl d K=>?_,λK=>?_,λc L=>?_,
  λi=>by rw[h.hJ i];exact(oq hj p i).symm,h.vf u,h.mE u,h.j8 u (λop g a N=>by grind),h.oo u (λop g a N=>by grind),h.pK u,h.jr u (λop g=>(V op g).2),λi d hb=>?_,h.sA,h.jQ,h.eY,h.la,by simp;exact KD h.n0 (aah _ _)⟩
 . have r:(s.w l).iv=false:=by
    by_cases e:l=j
    . subst e;rw[aU,F]at r;exact r
    . rw[cy e]at r;exact r
   refine⟨λi=>?_,λm a X N q q'=>(dR N).elim (λk=>((h.yL hd l d).1 r).2 m a X k.1 q q') (λ⟨op,g,k⟩=>by grind)⟩
   have k:=((h.yL hd l d).1 r).1
   grind
 . rw[G _ (by omega)]
   by_cases e:l=j
   . grind
   . rw[cy e]at Q;exact(h.yL hd l d).2 Q
 . by_cases o:i=Z.lk
   . subst o;rw[f];simp only[aj.set,A.d3,A.d6,if_false];exact⟨λ_=>rfl,rfl⟩
   by_cases e:i=A.b+j
   . subst e;rw[z]
     have:=h.gy (A.b+j);simp only[aj.del,A.d1,A.d3,za A.d4,A.d6,if_false];exact this
   . rw[eO i e o];exact h.gy i
 . by_cases o:i=Z.lk
   . subst o;rw[H];exact h.eu _
   . rw[G i o];exact h.eu i
 . exfalso
   by_cases o:i=Z.lk
   . subst o;rw[f]at v
     simp only[aj.set,A.d5,if_false]at v;cases v
   by_cases e:i=A.b+j
   . subst e;rw[z]at v;simp[aj.del]at v
   . rw[eO i e o]at v
     obtain⟨l,_,d,h3,ho,_⟩:=h.tok i y v
     grind
 . grind
 . refine⟨xo,a,by rw[f];simp[aj.set],by grind,E⟩
 . rw[f]at L
   refine⟨?_,C⟩
   by_cases e:c=A.mb
   . exact e
   . simp only[aj.set,e,if_false]at L;exact absurd rfl L
 . have e:i≠A.b+j:=λe=>hb (e ▸ B)
   rw[G i d,eO i e d];exact h.CS i d hb
variable(C:gn P A.nm)(X:gq P A.nm)
include C X in
theorem OQ(z:A.b+A.n+1<=Z.lk)(S:bF (bY P A Fin Z z) Z s f q kk OO J M gs w t)(hj:j<A.n){Y:vG P}(o:s.w j=.un .ur Y)(hg:gs[A.b+j]?=some g)(W:GN P A j (.un .ur Y) (kk (A.b+j)) (OO (A.b+j)) g)(sl:abC):
 Goes P A Fin Z z s gs w t sl (A.b+j):=by
 have u:c8 P A Z s kk OO J M gs.size w t:=S.ex;have B:=bd (P:=P) (A:=A) (Fin:=Fin) (Z:=Z) z;have T:(s.w j).j9=true:=by rw[o];rfl
 have U:=iO T;have a7:(s.w j).pc=.held:=by rw[o];rfl
 have hb:=A.hb;have d:A.b+j≠Z.lk:=by omega
 have a8:(A.b+j==0)=false:=by simp;omega
 have D:∀l,l<A.n->(s.w l).owns=true->l=j:=λl E e=>C2 u.I hj a7 E e
 obtain⟨kind,c,rest,hk,hM,hm,a9,b0⟩:=W;obtain⟨tf,xo,a,b1,Ce,ad,al,av,hN⟩:=a9 (.inr rfl);obtain⟨g1,F,hr,g2,⟨k,G⟩,H⟩:=GB (Wd:=kQ A) (main:=false) (w:=w) C X hM;rw[<-u.la]at F;have ax:ou kk Z.lk (A.b+j) (A.b+j)=kk (A.b+j):=au _ _ d;have ay:fK OO Z.lk (A.b+j) A.mb A.fb xo (A.b+j)=((OO (A.b+j)).del A.mb).del A.fb:=by unfold fK;rw[au _ _ d,ao]
 have K:=runT_crowd_go (P:=P) (sl:=sl) (i:=A.b+j) hg (by rw[a8];exact F)
 have aC:=iP (P:=P) (A:=A) (s:=s) hj T
 have p:Deaf t (A.b+j)=0:=by obtain⟨_,_,p,_⟩:=S.walk _ aC;rw[p];show dL P A s (A.b+j)=0;rw[eF hj,o];rfl
 have L:∀op∈MemOp.ofEvents (A.b+j) g.frame.fn g.frame.place #[⟨.mark (.releaseMerge Z.la),false,true⟩],op.g=A.b+j:=λop v=>by obtain⟨e,_,rfl⟩:=Go.Conc.mem_ofEvents v;rfl
 have aE:∀op∈MemOp.ofEvents (A.b+j) g.frame.fn g.frame.place #[⟨.mark (.releaseMerge Z.la),false,true⟩],op.act.touch?=none/\∀a,op.act≠.mark (.release a):=λop v=>by obtain⟨e,he,rfl⟩:=Go.Conc.mem_ofEvents v;simp at he;subst he;exact⟨rfl,λa h=>by simp[MemAct.ofEvent]at h⟩
 have N:A.fb<w.heap.size:=by obtain⟨c,e,T⟩:=u.vd;exact(Array.getElem?_eq_some_iff.1 T).1
 have Q:∀c,OO Z.lk c=none:=λc=>by
  cases e:OO Z.lk c with
  |none=>rfl
  | some y=>
    have:=(u.N4 c (by rw[e];simp)).2 j hj
    rw[o]at this;cases this
 have hP:=S.cO.TV (fb:=A.fb) d Ce Q (by rw[u.la];exact N) p g.frame.fn g.frame.place
 obtain⟨x,m⟩:∃x:bn P,x=.un .ud Y:=⟨_,rfl⟩;have V:x.work=true:=by rw[m];rfl
 have r:((s.aT j x s.sh).w j).j9=true:=by rw[aU,m];rfl
 have hI:bO A.n (s.aT j x s.sh):=u.I.still hj U V (by rw[m];rfl) (by rw[m,o];rfl)
 have hL:MS.gg A.n (s.aT j x s.sh) s:=lM hj U V (by rw[m,o];rfl) (by rw[m,o];rfl) (by rw[m,o];simp[bn.ex])
 have aL:=u.give z hj U V D (by rw[m];rfl) hI ad al (by rw[m,o];rfl) av aE
 have aO:Beside (bY P A Fin Z z) s (s.aT j x s.sh) f f q (upd q (A.b+j) k) kk (ou kk Z.lk (A.b+j)) OO (fK OO Z.lk (A.b+j) A.mb A.fb xo) J J w (A.b+j) g g1:=mF z hj U V (λi R=>rfl) (λi R=>upd_ne q k R) (λi R ht=>au _ _ (show i≠Z.lk by omega)) (λi R ht=>by unfold fK;rw[au _ _ (show i≠Z.lk by omega),au _ _ R]) (λ_ h=>h) (.inl λh=>h) (λ{i k O y} H=>B.kJ (s:=s) (i:=i) (k:=k) (O:=O) (g:=y) H)
 refine⟨_,_,K,s.aT j x s.sh,f,upd q (A.b+j) k,ou kk Z.lk (A.b+j),fK OO Z.lk (A.b+j) A.mb A.fb xo,J,M,_,_,_,rfl,hL,?_⟩;refine bF.step B S hg L hP aL (λl y E H=>B.sC u E _ _ H) aO ⟨λE=>absurd E (mG hj r),λ_=>⟨mG hj r,?_,?_,g2,?_,?_⟩,λhh=>absurd hh (pM hj r),λ_ hn _=>absurd (iP hj r) hn⟩
 . show A.b+j<A.b+A.n+1;omega
 . rw[Deaf_own,p]
   show _=dL P A (s.aT j x s.sh) (A.b+j);rw[eF hj,aU,m];rfl
 . refine .inr (.inl ⟨j,hj,rfl,?_⟩)
   rw[aU,m,ax,ay];exact⟨kind,c,rest,hk,H,hm,λh=>absurd h (by simp),λ_=>hN⟩
 . exact .inr (by rw[upd_same];exact G)
end
section
variable{P:acD}{A:bJ}{Fin:abz}{Z:Base}{s:MS P}{f:Nat->Node P}{q:acs}{kk:acy}{OO:acx}{J M:ack}{gs:abH}{w w':World}{t:Trace}{j:Nat}{x:bn P}{sh:Mu.Sh}{g g1:aco}
theorem C3(n:Nat):20<=Bq n:=by unfold Bq;omega
theorem qx{X:Node P}{h:Bool}(hj:j<A.n)(a:s.w j=.run h X){y:Node P}(b:x.nd=some y)(c:x.work=true)(hu:y=X\/Relation.TransGen pj y X)
 (hi:4*Mu.meas A.n (Mu.set (λi=>(s.w i).pc) j x.pc) sh+x.ex A.n<4*Mu.meas A.n (λi=>(s.w i).pc) s.sh+2*Bq A.n):MS.gg A.n (s.aT j x sh) s:=by
 have d:(s.w j).work=true:=by rw[a];rfl
 rcases hu with rfl|hu
 . exact vT hj d c (by rw[b,a];rfl) (by rw[a];exact hi)
 . exact Bs hj d c ⟨y,X,b,by rw[a];rfl,hu⟩
variable(C:gn P A.nm)(X:gq P A.nm)(F:mc P A.nm)
include C X F in
theorem H2(D:A.b+A.n+1<=Z.lk)(H:bF (bY P A Fin Z D) Z s f q kk OO J M gs w t)(hj:j<A.n){h:Bool}{X0:Node P}(a:s.w j=.run h X0){Y:vG P}(hf:f (A.b+j)=Y.node)(hl:P8 P A j Y.k Y.O Y.g Y.N)(sl:abC):
 Goes P A Fin Z D s gs w t sl (A.b+j):=by
 have B:c8 P A Z s kk OO J M gs.size w t:=H.ex;obtain⟨_,d,l,r,u,_,E,_,y⟩:=H.live _ (kg hj a);rw[hf]at d l r u y;have d:gs[A.b+j]?=some Y.g:=d;have r:Y.k=kk (A.b+j):=r;have u:Y.O=OO (A.b+j):=u;have l:Y.m=iu P A j:=by have:Y.m=ck P A Fin s (A.b+j):=l;rw[this,nI hj a]
 obtain⟨kind,c,rest,e,hk,hg,K,z,G,L⟩:=hl;rw[r]at z L;rw[u]at K L
 have hh:h=false:=by
  cases h with
  |false=>rfl
  |true=>exact absurd K (B.y7 j hj (by rw[a];rfl))
 subst hh;have Q:(s.w j).work=true:=by rw[a];rfl
 have v:(s.w j).pc=.out:=by rw[a];rfl
 have hu:=y j false X0 hj rfl a Y.node (.inl rfl) trivial;obtain⟨g2,⟨n,p⟩,R⟩:=q8 (P:=P) (n:=A.nm) (b:=A.fb) (o:=A.fo) (kind:=kind) (cs:=c::rest) (Wd:=kQ A) F;rw[<-hg]at p;have a9:=C3 A.n;cases n with
 | zero=>
   have e0:Y.g=g2:=p;rw[<-e0]at R;obtain⟨g1,S,hr,g3,⟨k,T⟩,U⟩:=Bj (Wd:=kQ A) (main:=false) (w:=w) C X R;refine CY (x:=.lk .iq Y) (sh:=s.sh) D H hj Q E (jR hj a) rfl (by rw[a];rfl) (λ_=>by rw[a];rfl) (B.I.Xk hj Q rfl rfl v rfl) (qx hj a rfl rfl hu ?_) d S (bf rfl) B.mu (λe he=>by simp at he;subst he;exact .inl (.inl rfl)) rfl ⟨k,g3,T,kind,c,rest,e,hk,U,l,K,z,G,L⟩ (.inl λV=>V) sl
   show 4*Mu.meas A.n (Mu.set (λi=>(s.w i).pc) j .iq) s.sh+0<_
   rw[CX hj v];unfold Bq;omega
 | succ n=>
   obtain⟨g1,⟨ad,W⟩,a7⟩:=p;have a8:kQ A w:=(bd (P:=P) (A:=A) (Fin:=Fin) (Z:=Z) D).wd B;refine CY (x:=.lk .ld Y) (sh:=s.sh) D H hj Q E (jR hj a) rfl (by rw[a];rfl) (λ_=>by rw[a];rfl) (B.I.still hj Q rfl rfl (by rw[v];rfl)) (qx hj a rfl rfl hu ?_) d (W false w a8) (bf rfl) B.mu fJ rfl ⟨n,g2,a7,kind,c,rest,e,hk,R,l,K,z,G,L⟩ (.inl λV=>V) sl
   have e1:Mu.set (λi=>(s.w i).pc) j (bn.lk .ld Y).pc=λi=>(s.w i).pc:=by
    have:=js (λi=>(s.w i).pc) j
    rw[show(s.w j).pc=(bn.lk .ld Y).pc from v]at this
    exact this
   rw[e1];show _+Bq A.n<_;omega
end
section
variable{P:acD}{A:bJ}{Fin:abz}{Z:Base}{s:MS P}{f:Nat->Node P}{q:acs}{kk:acy}{OO:acx}{J M:ack}{gs:abH}{w w':World}{t:Trace}{j:Nat}{x:bn P}{sh:Mu.Sh}{g g1:aco}
variable(C:gn P A.nm)(X:gq P A.nm)(F:mc P A.nm)
include C X F in
theorem C4(H:A.b+A.n+1<=Z.lk)(R:bF (bY P A Fin Z H) Z s f q kk OO J M gs w t)(hj:j<A.n){h:Bool}{X0:Node P}(d:s.w j=.run h X0){Y:vG P}(hf:f (A.b+j)=Y.node)(hl:GL P A j Y.k Y.O Y.g (Eu P A Y.N))(sl:abC):
 Goes P A Fin Z H s gs w t sl (A.b+j):=by
 have D:c8 P A Z s kk OO J M gs.size w t:=R.ex;obtain⟨_,e,p,y,z,_,K,_,B⟩:=R.live _ (kg hj d);rw[hf]at e p y z B;have e:gs[A.b+j]?=some Y.g:=e;have y:Y.k=kk (A.b+j):=y;have z:Y.O=OO (A.b+j):=z;have p:Y.m=iu P A j:=by have:Y.m=ck P A Fin s (A.b+j):=p;rw[this,nI hj d]
 obtain⟨kind,c,rest,tf,xo,a,hk,hg,E,Ce,L,T,Q,U⟩:=hl;rw[y]at L Q U;rw[z]at E Ce U
 have hh:h=true:=by
  obtain⟨l,_,hl,h2,h3,_⟩:=D.tok _ _ E;obtain rfl:l=j:=by omega
  rw[d]at h3;exact h3
 subst hh;have S:(s.w j).work=true:=by rw[d];rfl
 have G:(s.w j).pc=.held:=by rw[d];rfl
 have hu:=B j true X0 hj rfl d Y.node (.inl rfl) trivial;obtain⟨g2,⟨n,r⟩,V⟩:=oY (P:=P) (n:=A.nm) (b:=A.fb) (o:=A.fo) (kind:=kind) (cs:=c::rest) (Wd:=kQ A) F;rw[<-hg]at r;have av:=C3 A.n
 have e1:Mu.set (λi=>(s.w i).pc) j .held=λi=>(s.w i).pc:=by
  have:=js (λi=>(s.w i).pc) j
  rw[show(s.w j).pc=.held from G]at this
  exact this
 have u:∃f x a,OO (A.b+j) A.fb=some (.part f)/\OO (A.b+j) A.mb=some x/\kq (kk (A.b+j)) x a/\A.GI a/\(A.dir=true->(kk (A.b+j)).cell A.fb (A.cell j)=some (A.val j))/\Eu P A Y.N (kk (A.b+j)) (((OO (A.b+j)).del A.mb).del A.fb) (jW kind c rest (.tuple #[])):=⟨tf,xo,a,E,Ce,L,T,Q,U⟩;cases n with
 | zero=>
   have e0:Y.g=g2:=r;rw[<-e0]at V;obtain⟨v,hv⟩:=((bd (P:=P) (A:=A) (Fin:=Fin) (Z:=Z) H).wd D).2.2;obtain⟨g1,W,hr,g3,⟨k,a7⟩,a8⟩:=xk (Wd:=kQ A) (main:=false) (w:=w) C X (λw h=>h.2.2) hv V
   refine CY (x:=.un .ur Y) (sh:=s.sh) H R hj S K (jR hj d) rfl (by rw[d];rfl) (λ_=>by rw[d];rfl) (D.I.still hj S rfl rfl (by rw[G];rfl)) (qx hj d rfl rfl hu ?_) e W (bf rfl) D.mu fJ rfl ⟨k,g3,a7,kind,c,rest,hk,a8,p,λ_=>u,λh=>absurd (.inr rfl) h⟩ (.inl λh0=>h0) sl
   show 4*Mu.meas A.n (Mu.set (λi=>(s.w i).pc) j .held) s.sh+4<_
   rw[e1];omega
 | succ n=>
   obtain⟨g1,⟨ax,a9⟩,ad⟩:=r;have al:kQ A w:=(bd (P:=P) (A:=A) (Fin:=Fin) (Z:=Z) H).wd D;refine CY (x:=.un .Gy Y) (sh:=s.sh) H R hj S K (jR hj d) rfl (by rw[d];rfl) (λ_=>by rw[d];rfl) (D.I.still hj S rfl rfl (by rw[G];rfl)) (qx hj d rfl rfl hu ?_) e (a9 false w al) (bf rfl) D.mu fJ rfl ⟨n,g2,ad,kind,c,rest,hk,V,p,λ_=>u,λh=>absurd (.inl rfl) h⟩ (.inl λh0=>h0) sl
   show 4*Mu.meas A.n (Mu.set (λi=>(s.w i).pc) j .held) s.sh+5<_
   rw[e1];omega
end
section
variable{P:acD}{A:bJ}{Z:Base}{s:MS P}{kk:acy}{OO:acx}{J M:ack}{gsz:Nat}{w w':World}{t:Trace}
theorem c8.TW(h:c8 P A Z s kk OO J M gsz w t)(a:MW A.gb 0 w w'):Calm Z w w':=by obtain⟨d,c,_⟩:=ot a h.yZ;have:=h.eY.2.2;exact⟨a.1,λb hb=>c b (by omega)⟩
theorem c8.TX(h:c8 P A Z s kk OO J M gsz w t)(d:MW A.gb 0 w w'):∀b,Kept kk OO w w' b:=λb=>by
 obtain⟨p,f,c,e,g,j,k,l,q⟩:=ot d h.yZ;by_cases hb:b=A.gb
 . subst hb
   refine .inr (.inr ⟨c,g,e,j,k,l,λi x a=>(by rw[(h.gy i).2]at a;cases a),λn=>?_⟩);by_cases m:n=0
   . subst m;exact .inr λi=>(h.eu i).2.2.1
   . by_cases o:n=1
     . subst o;exact .inr λi=>(h.eu i).2.2.2
     simp_all
 . exact .inl (f b hb)
theorem c8.Qc(h:c8 P A Z s kk OO J M gsz w t){n:Nat}(a:n=0\/n=1):Ki kk OO w.heap.size (.cell ⟨A.gb,n,none⟩):=by
 have b:A.gb<w.heap.size:=by obtain⟨c,e,d⟩:=h.yZ;grind
 refine⟨b,λi=>⟨dT (h.gy i).2,?_⟩⟩
 rcases a with rfl|rfl
 . exact(h.eu i).2.2.1
 . exact(h.eu i).2.2.2
theorem c8.K3(h:c8 P A Z s kk OO J M gsz w t){es:aca}(p:EvM A.gb 0 es){i:Nat}(hi:bT P A s i)(fn:FuncId)(pos:String):
 Bt kk OO w.heap.size t i (MemOp.ofEvents i fn pos es)/\(∀op∈MemOp.ofEvents i fn pos es,op.act.low w.heap.size)/\(∀op∈MemOp.ofEvents i fn pos es,(∀a,op.act.touch?=some a->a.kind=.atomic/\yK A a.loc)/\∀a,op.act≠.mark (.release a))/\
 ∀op∈MemOp.ofEvents i fn pos es,∀a,op.act.touch?=some a->Z.Shun a.loc:=by
 have v:A.gb<w.heap.size:=by obtain⟨c,e,j⟩:=h.yZ;grind
 refine⟨λop d a k=>?_,λop d=>?_,λop d=>?_,λop d a k=>?_⟩<;>obtain⟨e,l,rfl⟩:=Go.Conc.mem_ofEvents d<;>obtain⟨o,q,x⟩:=nH (p e l)
 . obtain⟨j,n,f,g⟩:=o a k
   have f:n=0\/n=1:=by omega
   refine⟨j,λ_=>by rw[g];exact h.Qc f,λm b hb r u=>h.quiet m b hb ?_ u i hi⟩
   rw[r,g];exact⟨rfl,.inr ⟨rfl,f⟩⟩
 . grind
 . refine⟨λa k=>?_,q⟩
   obtain⟨j,n,f,g⟩:=o a k;exact⟨j,by rw[g];exact⟨rfl,.inr ⟨rfl,by omega⟩⟩⟩
 . obtain⟨j,n,f,g⟩:=o a k
   have f:n=0\/n=1:=by omega
   rw[g];exact h.sA _ ⟨rfl,.inr ⟨rfl,f⟩⟩ ⟨_,rfl,rfl⟩
theorem H3{Z:Base}{J M:ack}{t u:Trace}{i m:Nat}{op:MemOp}{a:Touch}(e:u[m]?=some op)(f:op.act.touch?=some a)(b:Z.Shun a.loc)(c:a.kind=.atomic)(d:¬(t++u).counts (t.size+m)):Told Z J M (t++u) (t.size+m) a:=.inr (.inr (.inr ⟨b,c,λh=>absurd h d⟩))
end
end
section
open Go.Conc
open Go.ConcN (sumTo upd sumTo_upd upd_ne upd_same)
variable{P:acD}
section
variable{s:MS P}{j n:Nat}{x:bn P}{sh:Mu.Sh}
theorem sL(hj:j<n)(h:x.cx<(s.w j).cx):MS.gg n (s.aT j x sh) s:=by
 have:=sK (s:=s) (x:=x) (sh:=sh) bn.cx hj;refine .inl ?_;show s.ms.cx+sumTo n (λi=>((s.aT j x sh).w i).cx)+s.c.cx s.gc<s.ms.cx+sumTo n (λi=>(s.w i).cx)+s.c.cx s.gc;omega
theorem bO.vV(I:bO n s)(hj:j<n)(a:(s.w j).Br=true)(b:x.Br=true)(c:x.iF=(s.w j).iF\/s.d=true)(e:x.ok=true)(f:x.pc=(s.w j).pc):bO n (s.aT j x s.sh):=I.same hj a b c e (by rw[f,js (λi=>(s.w i).pc)];exact I.mu)
end
end
section
open Go.Conc
open Go.ConcN (sumTo upd sumTo_upd upd_ne upd_same)
section
variable{P:acD}{A:bJ}{Fin:abz}{Z:Base}{s:MS P}{f f':Nat->Node P}{q q':acs}{kk kk':acy}{OO OO':acx}{J J' M:ack}{gs:abH}{w w':World}{t:Trace}{j:Nat}{x:bn P}{sh:Mu.Sh}{g g1:aco}
theorem mH(hj:j<A.n){p:vS}(e:s.w j=.dn p):gu P A s (A.b+j):=.inr (.inl ⟨j,hj,rfl,by simp_all⟩)
theorem kh(hj:j<A.n){p:vS}(e:s.w j=.dn p):¬dA P A s (A.b+j):=by
 have:=A.hb;rintro(⟨e,_⟩|⟨l,a,c,d⟩|⟨e,_⟩)
 . omega
 . simp_all
 . omega
theorem pN(hj:j<A.n){p:vS}(e:s.w j=.dn p):¬fq P A s (A.b+j):=by
 have:=A.hb;rintro(⟨e,_⟩|⟨l,a,c,d⟩)
 . omega
 simp_all
end
section
variable{P:acD}{A:bJ}{Fin:abz}{Z:Base}{s:MS P}{f:Nat->Node P}{q:acs}{kk:acy}{OO:acx}{J M:ack}{gs:abH}{gsz:Nat}{w w':World}{t u:Trace}{j:Nat}{x:bn P}{sh:Mu.Sh}{g:aco}
variable(C:gM P A.ng)(X:iD P A.ng)
include C X in
theorem OR(z:A.b+A.n+1<=Z.lk)(L:bF (bY P A Fin Z z) Z s f q kk OO J M gs w t)(hj:j<A.n)(d:s.w j=.dn .d2)(hg:gs[A.b+j]?=some g)(N:GN P A j (.dn .d2) (kk (A.b+j)) (OO (A.b+j)) g)(sl:abC):
 Goes P A Fin Z z s gs w t sl (A.b+j):=by
 have r:c8 P A Z s kk OO J M gs.size w t:=L.ex;have B:=bd (P:=P) (A:=A) (Fin:=Fin) (Z:=Z) z;have hb:=A.hb;have Q:(A.b+j==0)=false:=by simp;omega
 obtain⟨fw,fn,tmps,todo,R,D,hM⟩:=N;obtain⟨g1,S,hr,g2,⟨k,E⟩,F⟩:=VQ (Wd:=kQ A) (main:=false) (w:=w) C X hM;obtain⟨x,o⟩:∃x:bn P,x=.dn .d4:=⟨_,rfl⟩;have c:(s.aT j x s.sh).w j=.dn .d4:=by rw[aU,o]
 have T:=mH (P:=P) (A:=A) (s:=s) hj d
 have u:Deaf t (A.b+j)=0:=by obtain⟨_,_,u,_⟩:=L.walk _ T;rw[u];show dL P A s (A.b+j)=0;rw[eF hj,d];rfl
 have G:=runT_crowd_go (P:=P) (sl:=sl) (i:=A.b+j) hg (by rw[Q];exact S)
 have H:bT P A s (A.b+j):=iG r.I hj (by rw[d];rfl)
 obtain⟨y1,y2,y3,y4⟩:=r.K3 (es:=#[⟨.mark .disable,false,true⟩]) (λe K=>by simp at K;subst K;exact .inl (.inl rfl)) H g.frame.fn g.frame.place
 have p:∀op∈MemOp.ofEvents (A.b+j) g.frame.fn g.frame.place #[⟨.mark .disable,false,true⟩],op.g=A.b+j:=λop v=>by obtain⟨e,_,rfl⟩:=Go.Conc.mem_ofEvents v;rfl
 have U:∀op∈MemOp.ofEvents (A.b+j) g.frame.fn g.frame.place #[⟨.mark .disable,false,true⟩],op.act.touch?=none:=λop v=>by obtain⟨e,K,rfl⟩:=Go.Conc.mem_ofEvents v;simp at K;subst K;rfl
 have hP:=L.cO.P9 (i:=A.b+j) (w':=w) p rfl ⟨⟨.refl _,rfl⟩,λ_ _=>rfl⟩ (λb=>.inl rfl) y2 y1 (λm op a h1 h2 _=>by rw[U op (ZV h1)]at h2;cases h2)
 have hI:bO A.n (s.aT j x s.sh):=r.I.vV hj (by rw[d];rfl) (by rw[o];rfl) (.inl (by rw[o,d];rfl)) (by rw[o];rfl) (by rw[o,d];rfl)
 have hL:MS.gg A.n (s.aT j x s.sh) s:=sL hj (by rw[o,d];simp[bn.cx])
 have V:=r.xu (x:=x) (sh:=s.sh) (w':=w) hj (by rw[o,d];rfl) (by rw[o,d];rfl) (λ_=>by rw[o,d];rfl) hI r.mu (λ_ _=>rfl) r.vd y3
 have W:Beside (bY P A Fin Z z) s (s.aT j x s.sh) f f q (upd q (A.b+j) k) kk kk OO OO J J w (A.b+j) g g1:=pL z hj (by rw[o,d];rfl) (λi hi=>rfl) (λi hi=>upd_ne q k hi) (λ_ _ _=>rfl) (λ_ _ _=>rfl) (λ_ _ h=>h) (.inl λh=>h) (λ{i k O y} F=>B.kJ (s:=s) (i:=i) (k:=k) (O:=O) (g:=y) F)
 refine⟨_,_,G,s.aT j x s.sh,f,upd q (A.b+j) k,kk,OO,J,M,_,_,_,rfl,hL,?_⟩;refine bF.step B L hg p hP V (λl y Y F=>B.sC r Y _ _ F) W ⟨λY=>absurd Y (kh hj c),λ_=>⟨kh hj c,?_,?_,g2,?_,?_⟩,λhh=>absurd hh (pN hj c),λ_ hn _=>absurd (mH hj c) hn⟩
 . show A.b+j<A.b+A.n+1;omega
 . rw[Deaf_own,u]
   show _=dL P A (s.aT j x s.sh) (A.b+j);rw[eF hj,c];rfl
 . refine .inr (.inl ⟨j,hj,rfl,?_⟩)
   rw[c];exact⟨fw,fn,tmps,todo,R,D,F⟩
 . exact .inr (by rw[upd_same];exact E)
end
section
variable{Z:Base}{kk:acy}{OO:acx}{J M:ack}{w:World}{t:Trace}
theorem cA.bV(h:cA Z kk OO J M w t){i:Nat}{ad:Addr}(o:ad.block<w.heap.size)(hd:Deaf t i=0)(fn:FuncId)(pos:String):
 cA Z kk OO (λl=>J l/\l≠i) (λp=>M p\/p=t.size) w (t++MemOp.ofEvents i fn pos #[⟨.mark (.releaseMerge ad),false,true⟩]):=by
 obtain⟨u,A⟩:∃u,u=MemOp.ofEvents i fn pos #[⟨.mark (.releaseMerge ad),false,true⟩]:=⟨_,rfl⟩;have d:u=#[⟨i,fn,pos,.mark (.releaseMerge ad)⟩]:=by rw[A,ofEvents_eq];simp[MemAct.ofEvent]
 rw[<-A];have B:∀op∈u,op.act.touch?=none:=λop c=>by rw[d]at c;simp at c;subst c;rfl
 have f:∀op∈u,op.g=i:=λop c=>by grind
 have q:u[0]?=some ⟨i,fn,pos,.mark (.releaseMerge ad)⟩:=by grind
 exact h.tR (λa b=>a=b) rfl ⟨⟨.refl _,rfl⟩,λ_ _=>rfl⟩ (λb=>.inl rfl) (λop c=>by rw[d]at c;simp at c;subst c;simpa[MemAct.low]using o) (λa b e n y _ _ _ C=>by subst e;exact C.app u)
  (λj b n v h=>⟨j,rfl,h⟩) (λj b s h=>⟨j,rfl,h⟩) (λj b x h=>⟨j,rfl,h,λ_ h=>h⟩) h.jl
  (λsaid=>noRace_append (h.clean said) f λn a r op c b hb _=>by simp_all) (λop c a r=>by simp_all) (λm op a c r=>by grind)
  (fun n a r D h=>h.elim (λ⟨j,z,k⟩=>by
    by_cases e:j=i
    . subst e;exact .inr (.inr (.inl ⟨t.size+0,.inr rfl,lG k q rfl⟩))
    . exact .inr (.inl ⟨j,⟨z,e⟩,k.app _⟩)) (λ⟨p,z,k⟩=>.inr (.inr (.inl ⟨p,.inl z,k.app _⟩))))
end
section
variable{P:acD}{A:bJ}{Fin:abz}{Z:Base}{s:MS P}{f:Nat->Node P}{q:acs}{kk:acy}{OO:acx}{J M:ack}{gs:abH}{gsz:Nat}{w w':World}{t u:Trace}{j:Nat}{x:bn P}{sh:Mu.Sh}{g:aco}
theorem c8.bV(h:c8 P A Z s kk OO J M gsz w t)(hj:j<A.n)(z:x.busy=false)(B:s.c=.none\/s.c=.er\/∃q,s.c=.wt q)(hd:Deaf t (A.b+j)=0)(E:∃op,u[0]?=some op/\op.g=A.b+j/\op.act=.mark (.releaseMerge ⟨A.gb,0,none⟩))(C:ku u)(S:x.owns=(s.w j).owns)(F:x.iv=(s.w j).iv)(T:bO A.n (s.aT j x sh))(G:ShM A.fb A.fo w' sh)
 (d:∀b,b≠A.fb->w'.heap[b]?=w.heap[b]?) (H:∃c e,w'.heap[A.fb]?=some (.cells c e (0,0))) (O:∀op∈u,(∀a,op.act.touch?=some a->a.kind=.atomic/\yK A a.loc)/\∀a,op.act≠.mark (.release a)):
 c8 P A Z (s.aT j x sh) kk OO (λl=>J l/\l≠A.b+j) (λp=>M p\/p=t.size) gsz w' (t++u):=by
 have hb:=A.hb
 have D:∀l,((s.aT j x sh).w l).owns=(s.w l).owns:=λl=>by
  by_cases e:l=j
  . subst e;rw[aU,S]
  . rw[cy e]
 refine⟨T,h.size,h.dd,h.off,h.E3 (λhd l _=>⟨?_,D l⟩) (λop k a I=>((O op k).1 a I).2),λhd=>by rw[d _ A.d1];exact h.zT hd,G,h.gr.same (.of_heap (d _ (za A.d4))),H,by rw[d _ (za A.d4)];exact h.yZ,h.gy,h.eu,λi y U=>?_,λl Q K=>h.y7 l Q (by simp_all),λK=>h.N3 λl Q=>by simp_all,λc L=>?_,
  λi=>?_,λp N=>?_,λL=>?_,h.j8 u (λop k a I _ V=>?_),h.oo u (λop k a I _ V=>?_),h.pK u,h.jr u (λop k=>(O op k).2),h.CS,h.sA,h.jQ,h.eY,h.la,by simp;exact KD h.n0 (aah _ _)⟩
 . by_cases e:l=j
   . subst e;rw[aU,F]
   . rw[cy e]
 . obtain⟨l,f,o,r,v,W⟩:=h.tok i y U
   exact⟨l,f,o,r,by simp_all,W⟩
 . obtain⟨o,r⟩:=h.N4 c L
   simp_all
 . rw [h.hJ i]
   constructor
   . rintro⟨⟨l,o,r,v⟩|⟨o,r⟩,X⟩
     . exact .inl ⟨l,o,r,by rw[cy (by omega)];exact v⟩
     . exact .inr ⟨o,r⟩
   . rintro (⟨l,o,r,v⟩|⟨o,r⟩)
     . by_cases e:l=j
       . subst e;rw[aU,z]at v;cases v
       . rw[cy e]at v;exact⟨.inl ⟨l,o,r,v⟩,by omega⟩
     . exact⟨.inr ⟨o,r⟩,by omega⟩
 . rcases N with N|rfl
   . exact h.vf u p N
   . obtain⟨op,R,Y,e3⟩:=E
     refine⟨heard_new (m:=0) C R (by simp_all),h.n0,.inl ⟨?_,B⟩⟩;have e4:=act?_of (du (t:=t) (m:=0) R)
     simp_all
 . obtain⟨p,o,r,v⟩:=h.mE u L
   grind
 . grind
 grind
variable(C:gM P A.ng)(X:iD P A.ng)
include C X in
theorem OS(E:A.b+A.n+1<=Z.lk)(Q:bF (bY P A Fin Z E) Z s f q kk OO J M gs w t)(hj:j<A.n)(m:s.w j=.dn .d1)(hg:gs[A.b+j]?=some g)(R:GN P A j (.dn .d1) (kk (A.b+j)) (OO (A.b+j)) g)(sl:abC):
 Goes P A Fin Z E s gs w t sl (A.b+j):=by
 have v:c8 P A Z s kk OO J M gs.size w t:=Q.ex;have B:=bd (P:=P) (A:=A) (Fin:=Fin) (Z:=Z) E;have hb:=A.hb;have S:(A.b+j==0)=false:=by simp;omega
 obtain⟨fw,fn,tmps,todo,T,F,hM⟩:=R;obtain⟨g1,U,hr,g2,⟨k,G⟩,H⟩:=VP (Wd:=kQ A) (main:=false) (w:=w) C X hM;obtain⟨x,u⟩:∃x:bn P,x=.dn .d2:=⟨_,rfl⟩;have d:(s.aT j x s.sh).w j=.dn .d2:=by rw[aU,u]
 have V:=mH (P:=P) (A:=A) (s:=s) hj m
 have o:Deaf t (A.b+j)=0:=by obtain⟨_,_,o,_⟩:=Q.walk _ V;rw[o];show dL P A s (A.b+j)=0;rw[eF hj,m];rfl
 have K:=runT_crowd_go (P:=P) (sl:=sl) (i:=A.b+j) hg (by rw[S];exact U)
 have a7:bT P A s (A.b+j):=iG v.I hj (by rw[m];rfl)
 have L:∀op∈MemOp.ofEvents (A.b+j) g.frame.fn g.frame.place #[⟨.mark (.releaseMerge ⟨A.gb,0,none⟩),false,true⟩],op.g=A.b+j:=λop r=>by obtain⟨e,_,rfl⟩:=Go.Conc.mem_ofEvents r;rfl
 have y3:∀op∈MemOp.ofEvents (A.b+j) g.frame.fn g.frame.place #[⟨.mark (.releaseMerge ⟨A.gb,0,none⟩),false,true⟩],(∀a,op.act.touch?=some a->a.kind=.atomic/\yK A a.loc)/\∀a,op.act≠.mark (.release a):=λop r=>by obtain⟨e,N,rfl⟩:=Go.Conc.mem_ofEvents r;simp at N;subst N;exact⟨λa ha=>by simp[MemAct.ofEvent,MemAct.touch?]at ha,λa h=>by simp[MemAct.ofEvent]at h⟩
 have z:ku (MemOp.ofEvents (A.b+j) g.frame.fn g.frame.place #[⟨.mark (.releaseMerge ⟨A.gb,0,none⟩),false,true⟩]):=λop r=>by obtain⟨e,N,rfl⟩:=Go.Conc.mem_ofEvents r;simp at N;subst N;simp[MemAct.ofEvent]
 have hG:A.gb<w.heap.size:=by obtain⟨c,e,h1⟩:=v.yZ;exact(Array.getElem?_eq_some_iff.1 h1).1
 have hP:=Q.cO.bV (i:=A.b+j) (ad:=⟨A.gb,0,none⟩) hG o g.frame.fn g.frame.place
 have D:s.c=.none\/s.c=.er\/∃q,s.c=.wt q:=by
  cases e:s.c with
  |none=>exact .inl rfl
  |er=>exact .inr (.inl rfl)
  |wt p=>exact .inr (.inr ⟨p,rfl⟩)
  |jo=>have:=(v.I.g8 (by rw[e];rfl)).2.2.2 j hj;rw[m]at this;cases this
  |gone=>have:=(v.I.g8 (by rw[e];rfl)).2.2.2 j hj;rw[m]at this;cases this
 have hI:bO A.n (s.aT j x s.sh):=v.I.vV hj (by rw[m];rfl) (by rw[u];rfl) (.inl (by rw[u,m];rfl)) (by rw[u];rfl) (by rw[u,m];rfl)
 have hL:MS.gg A.n (s.aT j x s.sh) s:=sL hj (by rw[u,m];simp[bn.cx])
 have W:=v.bV (x:=x) (sh:=s.sh) (w':=w) hj (by rw[u];rfl) D o ⟨⟨A.b+j,g.frame.fn,g.frame.place,.mark (.releaseMerge ⟨A.gb,0,none⟩)⟩,by rw[ofEvents_eq];simp[MemAct.ofEvent],rfl,rfl⟩ z (by rw[u,m];rfl) (by rw[u,m];rfl) hI v.mu (λ_ _=>rfl) v.vd y3
 have Y:Beside (bY P A Fin Z E) s (s.aT j x s.sh) f f q (upd q (A.b+j) k) kk kk OO OO J (λl=>J l/\l≠A.b+j) w (A.b+j) g g1:=pL E hj (by rw[u,m];rfl) (λi hi=>rfl) (λi hi=>upd_ne q k hi) (λ_ _ _=>rfl) (λ_ _ _=>rfl) (λ_ hn h=>⟨h,hn⟩) (.inl λh=>h) (λ{i k O y} H=>B.kJ (s:=s) (i:=i) (k:=k) (O:=O) (g:=y) H)
 refine⟨_,_,K,s.aT j x s.sh,f,upd q (A.b+j) k,kk,OO,(λl=>J l/\l≠A.b+j),(λp=>M p\/p=t.size),_,_,_,rfl,hL,?_⟩
 refine bF.step B Q hg L hP W (λl y hl H=>B.sC v hl _ _ H) Y ⟨λhl=>absurd hl (kh hj d),λ_=>⟨kh hj d,?_,?_,g2,?_,?_⟩,λhh=>absurd hh (pN hj d),λ_ hn _=>absurd (mH hj d) hn⟩
 . show A.b+j<A.b+A.n+1;omega
 . rw[Deaf_own,o]
   show _=dL P A (s.aT j x s.sh) (A.b+j);rw[eF hj,d];rfl
 . refine .inr (.inl ⟨j,hj,rfl,?_⟩)
   rw[d];exact⟨fw,fn,tmps,todo,T,F,H⟩
 . exact .inr (by rw[upd_same];exact G)
end
section
variable{P:acD}{A:bJ}{Fin:abz}{Z:Base}{s s':MS P}{f f':Nat->Node P}{q q':acs}{kk kk':acy}{OO OO':acx}{J J' M:ack}{gs:abH}{gsz:Nat}{w w':World}{t u:Trace}{i:Nat}{g g1:aco}
theorem rO{c:jm}:c.ez=true↔c=.gone:=by cases c<;>simp[jm.ez]
theorem ov{c:jm}:c.isNone=true↔c=.none:=by cases c<;>simp[jm.isNone]
theorem c8.TY{M':ack}(h:c8 P A Z s kk OO J M gsz w t)(L:eZ A s s' i)(G:∀l,l<A.n->(s'.w l).owns=(s.w l).owns)(O:∀l,l<A.n->(s'.w l).iv=(s.w l).iv)(H:vH P A s')(o:s'.c.ez=s.c.ez)(b:s'.c.isNone=s.c.isNone)
 (Q:∀p,M' p->M p) (av:s.c=.gone->∀p,M p->M' p) (R:(∃p,M' p)->(s.c=.none\/s.c=.er\/∃q,s.c=.wt q)->(s'.c=.none\/s'.c=.er\/∃q,s'.c=.wt q)) (S:∀i,dU P A s' i↔dU P A s i) (hI:bO A.n s') (T:s'.sh=s.sh) (U:qY A.gb w' s'.gc s'.gv s'.gm) (V:MW A.gb 0 w w')
 (W:∀op∈u,(∀a,op.act.touch?=some a->(a.kind=.atomic\/(a.kind=.said/\op.g=(if s.c.isNone then 0 else A.cl)))/\yK A a.loc)/\∀a,op.act≠.mark (.release a)):c8 P A Z s' kk OO J M' gsz w' (t++u):=by
 obtain⟨m1,X,c,e,c',m3,m4,_⟩:=ot V h.yZ
 have z:∀i,bT P A s' i->bT P A s i:=λi C=>by
  rcases C with Y|⟨j,k,r⟩|⟨k,r⟩
  . exact .inl Y
  . exact .inr (.inl ⟨j,by rw[<-L.sp];exact k,r⟩)
  . refine .inr (.inr ⟨k,λe=>r ?_⟩)
    exact ov.1 (by rw[b];exact ov.2 e)
 have D:∀i,bT P A s i->bT P A s' i:=λi C=>by
  rcases C with Y|⟨j,k,r⟩|⟨k,r⟩
  . exact .inl Y
  . exact .inr (.inl ⟨j,by rw[L.sp];exact k,r⟩)
  . refine .inr (.inr ⟨k,λe=>r ?_⟩)
    exact ov.1 (by rw[<-b];exact ov.2 e)
 have a7:s'.c=.gone↔s.c=.gone:=by rw[<-rO,<-rO,o]
 refine⟨hI,by rw[L.sp,b];exact h.size,by rw[L.d];exact h.dd,H,h.E3 (λ_ l E=>⟨O l E,G l E⟩) (λop v a F=>((W op v).1 a F).2),λhd=>by rw[X _ A.d2,o];exact h.zT hd,by rw[T];exact h.mu.same (.of_heap (X _ A.d4)),U,by rw[X _ A.d4];exact h.vd,⟨c',e,m4⟩,h.gy,h.eu,λi y hy=>?_,λl E a8=>h.y7 l E (by simp_all),λa8=>h.N3 λl E=>by simp_all,λc hc=>?_,
  λi=>by rw[h.hJ i];simp_all,λp hp=>?_,λhc=>(by
   obtain⟨p,k,r,B⟩:=h.mE u (a7.1 hc)
   grind),λm a F hs N i C=>h.j8 u (λop v a F _ N=>?_) m a F hs N i (z i C),λm a F hs N=>?_,λi C=>h.pK u i (z i C),h.jr u (λop v=>(W op v).2),λi a9 hn=>h.CS i a9 (λhb=>hn (D i hb)),h.sA,h.jQ,h.eY,h.la,by simp;exact KD h.n0 (aah _ _)⟩
 . obtain⟨l,f,B,I,h5,h6⟩:=h.tok i y hy
   exact⟨l,f,B,I,by grind,h6⟩
 . obtain⟨B,I⟩:=h.N4 c hc
   simp_all
 . obtain⟨k,r,B⟩:=h.vf u p (Q p hp)
   refine⟨k,r,?_⟩;rcases B with⟨B,I⟩|⟨B,I⟩
   . exact .inl ⟨B,R ⟨p,hp⟩ I⟩
   simp_all
 . grind
 . rw[b]
   obtain⟨x,hx,K⟩:=touch_of F;rcases getElem?_append_cases hx with⟨E,ad⟩|⟨_,al⟩
   . exact(h.said m a (by rw[touchAt_of ad];exact K) hs N).app u
   . rcases((W x al).1 a K).1 with k|⟨_,k⟩
     . simp_all
     . rw[<-k];exact⟨m,x,hx,rfl,.inl rfl⟩
theorem c8.OT(h:c8 P A Z s kk OO J M gsz w t)(v:eZ A s s' i)(f:∀l,l<A.n->(s'.w l).owns=(s.w l).owns)(k:∀l,l<A.n->(s'.w l).iv=(s.w l).iv)(j:vH P A s')(b:s'.c.ez=s.c.ez)(d:s'.c.isNone=s.c.isNone)
 (m:(s.c=.none\/s.c=.er\/∃q,s.c=.wt q)->(s'.c=.none\/s'.c=.er\/∃q,s'.c=.wt q)) (e:∀i,dU P A s' i↔dU P A s i) (x:bO A.n s') (o:s'.sh=s.sh) (p:qY A.gb w' s'.gc s'.gv s'.gm) (r:MW A.gb 0 w w')
 (y:∀op∈u,(∀a,op.act.touch?=some a->(a.kind=.atomic\/(a.kind=.said/\op.g=(if s.c.isNone then 0 else A.cl)))/\yK A a.loc)/\∀a,op.act≠.mark (.release a)):c8 P A Z s' kk OO J M gsz w' (t++u):=
 h.TY v f k j b d (λ_ h=>h) (λ_ _ h=>h) (λ_=>m) e x o p r y
def Q4(b:Nat)(es:aca):Prop:=∀e∈es,((e.loc=.mark .disable\/e.loc=.mark .enable)\/∃i,(i=0\/i=0+1)/\e.loc=.cell ⟨b,i,none⟩/\e.sync=true)\/∃i,(i=0\/i=1)/\(e.loc=.mark (.read ⟨b,i,none⟩)\/e.loc=.mark (.write ⟨b,i,none⟩))
theorem Q5{b:Nat}{es:aca}(h:EvM b 0 es):Q4 b es:=λe a=>.inl (h e a)
def K4(kk:acy)(OO:acx)(B:Nat)(t:Trace)(i:Nat)(u:Trace):Prop:=∀op∈u,∀a,op.act.touch?=some a->(a.kind=.atomic\/a.kind=.said)/\(a.loc.isMemory=true->Ki kk OO B a.loc)/\∀n b,touchAt t n=some b->b.loc=a.loc->(b.kind=.plain\/(a.kind=.said/\b.kind=.said))->Knows t i n
theorem cA.K3(h:cA Z kk OO J M w t)(d:∀op∈u,op.g=i)(y:w'.heap.size=w.heap.size)(z:Calm Z w w')(hb:∀b,Kept kk OO w w' b)(A:∀op∈u,op.act.low w.heap.size)(q:K4 kk OO w.heap.size t i u)
 (l:∀m op a,u[m]?=some op->op.act.touch?=some a->a.loc.isMemory=true->Told Z J M (t++u) (t.size+m) a):cA Z kk OO J M w' (t++u):=
 h.tR (λa b=>a=b) y z hb A (λa b e n x _ _ _ B=>by subst e;exact B.app u) (λj b n v h=>⟨j,rfl,h⟩) (λj b s h=>⟨j,rfl,h⟩) (λj b x h=>⟨j,rfl,h,λ_ h=>h⟩) h.jl
  (fun said=>noRace_append (h.clean said) d λn a o op c b hb C=>by
    obtain⟨f,k,D⟩:=q op c b hb;obtain⟨E,_,_,F⟩:=C
    grind)
  (λop c a o r=>(q op c a o).2.1 r) l
  (λn a o r h=>h.elim (λ⟨j,f,k⟩=>.inr (.inl ⟨j,f,k.app _⟩)) (λ⟨p,f,k⟩=>.inr (.inr (.inl ⟨p,f,k.app _⟩))))
theorem kZ{b:Nat}{e:Event}(he:((e.loc=.mark .disable\/e.loc=.mark .enable)\/∃i,(i=0\/i=0+1)/\e.loc=.cell ⟨b,i,none⟩/\e.sync=true)\/∃i,(i=0\/i=1)/\(e.loc=.mark (.read ⟨b,i,none⟩)\/e.loc=.mark (.write ⟨b,i,none⟩))):
 (∀a,(MemAct.ofEvent e).touch?=some a->(a.kind=.atomic\/a.kind=.said)/\∃i,(i=0\/i=1)/\a.loc=.cell ⟨b,i,none⟩)/\(∀a,MemAct.ofEvent e≠.mark (.release a))/\∀B,b<B->(MemAct.ofEvent e).low B:=by
 rcases he with he|⟨i,d,he⟩
 . obtain⟨g,h,j⟩:=nH he
   simp_all
 . obtain⟨loc,wr,k⟩:=e
   rcases he with he|he<;>simp only at he<;>subst he
   all_goals
    refine⟨λa c=>?_,by simp[MemAct.ofEvent],λB f=>by simpa[MemAct.ofEvent,MemAct.low]using f⟩;simp only[MemAct.ofEvent,MemAct.touch?,kn]at c;subst c;exact⟨.inr rfl,i,d,rfl⟩
theorem Bw(K:A.b+A.n+1<=Z.lk)(Y:bF (bY P A Fin Z K) Z s f q kk OO J M gs w t)(Q:bT P A s i)(a7:¬fq P A s i)(hg:gs[i]?=some g){es:aca}(a8:stepG P (i==0) g w=.go g1 w' es)
 (hS:eZ A s s' i) (R:∀l,l<A.n->(s'.w l).owns=(s.w l).owns) (a9:∀l,l<A.n->(s'.w l).iv=(s.w l).iv) (S:vH P A s') (F:s'.c.ez=s.c.ez) (G:s'.c.isNone=s.c.isNone) (ad:(s.c=.none\/s.c=.er\/∃q,s.c=.wt q)->(s'.c=.none\/s'.c=.er\/∃q,s'.c=.wt q)) (H:∀i,dU P A s' i↔dU P A s i)
 (hI:bO A.n s') (al:s'.sh=s.sh) (av:qY A.gb w' s'.gc s'.gv s'.gm) (C:MW A.gb 0 w w') (u:EvM A.gb 0 es\/(Q4 A.gb es/\i=(if s.c.isNone then 0 else A.cl))) (hL:MS.gg A.n s' s)
 (hT:(i=0\/J i)\/(EvM A.gb 0 es/\∀(m:Nat) (op:MemOp) (a:Touch),(MemOp.ofEvents i g.frame.fn g.frame.place es)[m]?=some op->op.act.touch?=some a->Z.Shun a.loc->a.kind=.atomic->Told Z J M (t++MemOp.ofEvents i g.frame.fn g.frame.place es) (t.size+m) a))
 (T:(s.gm=0->s'.gm=0)\/(mayWake P g=true/\(g1.status=.running\/g1.status=.finished))) (hf:∀j,j≠i->f' j=f j) (hq:∀j,j≠i->q' j=q j)
 (hs:Self P (bY P A Fin Z K) s' f' q' kk OO J (t++MemOp.ofEvents i g.frame.fn g.frame.place es) i g1) (sl:abC):Goes P A Fin Z K s gs w t sl i:=by
 have D:c8 P A Z s kk OO J M gs.size w t:=Y.ex;have B:=bd (P:=P) (A:=A) (Fin:=Fin) (Z:=Z) K;have U:=runT_crowd_go (P:=P) (sl:=sl) (i:=i) hg a8;have hG:A.gb<w.heap.size:=by obtain⟨c,e,E⟩:=D.yZ;grind
 have o:Q4 A.gb es:=u.elim Q5 (·.1);have p:∀op∈MemOp.ofEvents i g.frame.fn g.frame.place es,op.g=i:=λop d=>by obtain⟨e,_,rfl⟩:=Go.Conc.mem_ofEvents d;rfl
 have v:∀op∈MemOp.ofEvents i g.frame.fn g.frame.place es,∀a,op.act.touch?=some a->a.kind=.atomic\/(a.kind=.said/\op.g=(if s.c.isNone then 0 else A.cl)):=λop d a x=>by
  obtain⟨e,r,rfl⟩:=Go.Conc.mem_ofEvents d
  rcases u with u|⟨_,hi⟩
  . exact .inl ((nH (u e r)).1 a x).1
  . rcases((kZ (o e r)).1 a x).1 with h|h
    . exact .inl h
    simp_all
 have y1:K4 kk OO w.heap.size t i (MemOp.ofEvents i g.frame.fn g.frame.place es):=λop d a x=>by
  have ay:=v op d a x;have aC:=p op d;obtain⟨e,r,rfl⟩:=Go.Conc.mem_ofEvents d;obtain⟨E,n,L,z⟩:=(kZ (o e r)).1 a x;have aE:yK A a.loc:=by rw[z];exact⟨rfl,.inr ⟨rfl,L⟩⟩
  refine⟨E,λ_=>by rw[z];exact D.Qc L,λm b hb X N=>?_⟩
  rcases N with N|⟨aL,ax⟩
  . exact D.quiet m b hb (by simp_all) N i Q
  . have h5:=D.said m b hb (by simp_all) ax
    simp_all
 have y2:∀op∈MemOp.ofEvents i g.frame.fn g.frame.place es,op.act.low w.heap.size:=λop d=>by obtain⟨e,r,rfl⟩:=Go.Conc.mem_ofEvents d;exact(kZ (o e r)).2.2 _ hG
 have y3:∀op∈MemOp.ofEvents i g.frame.fn g.frame.place es,(∀a,op.act.touch?=some a->(a.kind=.atomic\/(a.kind=.said/\op.g=(if s.c.isNone then 0 else A.cl)))/\yK A a.loc)/\∀a,op.act≠.mark (.release a):=λop d=>⟨λa x=>⟨v op d a x,by
  obtain⟨e,r,rfl⟩:=Go.Conc.mem_ofEvents d;obtain⟨_,n,L,z⟩:=(kZ (o e r)).1 a x;rw[z];exact⟨rfl,.inr ⟨rfl,L⟩⟩⟩,by
  obtain⟨e,r,rfl⟩:=Go.Conc.mem_ofEvents d;exact(kZ (o e r)).2.1⟩
 have y4:∀op∈MemOp.ofEvents i g.frame.fn g.frame.place es,∀a,op.act.touch?=some a->Z.Shun a.loc:=λop d a x=>by obtain⟨e,r,rfl⟩:=Go.Conc.mem_ofEvents d;obtain⟨E,n,L,z⟩:=(kZ (o e r)).1 a x;rw[z];exact D.sA _ ⟨rfl,.inr ⟨rfl,L⟩⟩ ⟨_,rfl,rfl⟩
 obtain⟨m1,m2,c,e,c',m3,m4,_⟩:=ot C D.yZ
 have hP:=Y.cO.K3 (i:=i) p m1 (D.TW C) (D.TX C) y2 y1 (λm op a E z _=>by
  rcases hT with hJ|⟨u,hT⟩
  . have N:Knows (t++MemOp.ofEvents i g.frame.fn g.frame.place es) i (t.size+m):=knows_own E (p op (ZV E))
    rcases hJ with rfl|hJ
    . exact .inl N
    . exact .inr (.inl ⟨i,hJ,N⟩)
  . refine hT m op a E z (y4 op (ZV E) a z) ?_
    obtain⟨e,r,rfl⟩:=Go.Conc.mem_ofEvents (ZV E);exact((nH (u e r)).1 a z).1)
 have V:c8 P A Z s' kk OO J M gs.size w' (t++MemOp.ofEvents i g.frame.fn g.frame.place es):=D.OT hS R a9 S F G ad H hI al av C y3
 have I:Beside (bY P A Fin Z K) s s' f f' q q' kk kk OO OO J J w' i g g1:=lN K hS hf hq (λ_ _ _=>rfl) (λ_ _ _=>rfl) (λ_ _ h=>h) (T.imp (λh=>⟨λh0=>by grind,h⟩) id) (λ{i k O y} hA=>B.kJ (s:=s) (i:=i) (k:=k) (O:=O) (g:=y) hA)
 refine⟨_,_,U,s',f',q',kk,OO,J,M,_,_,_,rfl,hL,?_⟩;refine bF.step B Y hg p hP V (λl y X hA=>?_) I hs
 have W:l≠i:=λe=>a7 (e ▸ X)
 exact B.sC V ((I.held l W).2 X) _ _ (I.Su l _ _ _ W X hA)
theorem GQ{g:Nat}:∀m,m<=u.size->(∀l op,l<m->u[l]?=some op->op.act≠.mark .enable)->Deaf t g<=(t++u).deaf g (t.size+m)
 |0,_,_=>by show Deaf t g<=(t++u).deaf g t.size;rw[deaf_old (ZF _)];exact ZF _
 | m+1,h,a=>by
   have b:m<u.size:=by omega
   have c:(t++u)[t.size+m]?=some u[m]:=by simp_all
   have d:=GQ (g:=g) m (by omega) (λl op e=>a l op (by omega));rw[<-Nat.add_assoc,deaf_succ c];have:=a m u[m] (by omega) (by simp[b]);unfold deafStep
   grind
theorem E6{es:aca}{fn:FuncId}{pos:String}(hd:1<=Deaf t i)(o:∀(m:Nat) (op:MemOp) (a:Touch),(MemOp.ofEvents i fn pos es)[m]?=some op->op.act.touch?=some a->∀(l:Nat) (b:MemOp),l<m->(MemOp.ofEvents i fn pos es)[l]?=some b->b.act≠.mark .enable):∀(m:Nat) (op:MemOp) (a:Touch),(MemOp.ofEvents i fn pos es)[m]?=some op->op.act.touch?=some a->Z.Shun a.loc->a.kind=.atomic->Told Z J M (t++MemOp.ofEvents i fn pos es) (t.size+m) a:=λm op a d h p n=>by
 refine H3 (i:=i) d h p n λq=>?_
 obtain⟨x,f,_,c⟩:=q;rw[act?_of (du d)]at f;have f:op.act.touch?=some x:=f;rw[h]at f;obtain rfl:=ZM f;rcases c with c|⟨j,r,s⟩
 . exact c n
 . have v:op.g=i:=by obtain⟨e,_,rfl⟩:=Go.Conc.mem_ofEvents (ZV d);rfl
   have:j=i:=by
    have w:(t++MemOp.ofEvents i fn pos es).g? (t.size+m)=some op.g:=by simp[Trace.g?,du d]
    simp_all
   subst this;have z:=(Array.getElem?_eq_some_iff.1 d).1;have:=GQ (t:=t) (u:=MemOp.ofEvents j fn pos es) (g:=j) m (by omega) (λl b y k=>o m op _ d h l b y k);omega
end
end
open Go.Conc
open Go.ConcN (sumTo upd sumTo_upd upd_ne upd_same)
variable{P:acD}
def MS.iy(s:MS P)(j:Nat)(x:bn P)(gc gv gm:Nat):MS P:={s with w:=λi=>if i=j then x else s.w i,gc:=gc,gv:=gv,gm:=gm}
section
variable{s:MS P}{j n:Nat}{x:bn P}{gc gv gm:Nat}
theorem bL:(s.iy j x gc gv gm).w j=x:=by simp[MS.iy]
theorem dv{i:Nat}(h:i≠j):(s.iy j x gc gv gm).w i=s.w i:=by simp[MS.iy,h]
theorem OU:(λi=>((s.iy j x gc gv gm).w i).pc)=Mu.set (λi=>(s.w i).pc) j x.pc:=by
 funext i;by_cases h:i=j
 . subst h;rw[bL,Mu.ak]
 . rw[dv h,Mu.ai _ _ h]
theorem C5(F:bn P->Nat)(hj:j<n):sumTo n (λi=>F ((s.iy j x gc gv gm).w i))+F (s.w j)=sumTo n (λi=>F (s.w i))+F x:=by
 have e:(λi=>F ((s.iy j x gc gv gm).w i))=upd (λi=>F (s.w i)) j (F x):=by
  funext i;by_cases h:i=j
  . subst h;rw[bL,upd_same]
  . rw[dv h,upd_ne _ _ h]
 rw[e];have:=sumTo_upd (λi=>F (s.w i)) (F x) id hj
 simp_all
theorem bO.TZ(I:bO n s)(hj:j<n){p:vS}(d:s.w j=.dn p)(b:x.ok=true)(f:x.jq=false)(g:x≠.wait)(k:x.pc=.out)
 (D:gc+(s.w j).cnt=s.gc+x.cnt) (r:gv<=1) (m:gv=1->s.c.waits=true/\gm=0)
 (t:∀i,i<n->((s.iy j x gc gv gm).w i=.dn .d5\/(s.iy j x gc gv gm).w i=.dn .d6)->gv=1/\gc=0)
 (o:∀i l,i<n->l<n->((s.iy j x gc gv gm).w i).last=true->((s.iy j x gc gv gm).w l).last=true->i=l)
 (u:∀i,i<n->(s.iy j x gc gv gm).w i=.dn .d7->gv=0/\gc=0/\gm=0/\s.c.waits=true)
 (v:gm<=1/\(gm=1->s.c.waits=true/\gv=0/\gc=0/\∀i,i<n->((s.iy j x gc gv gm).w i).last=false))
 (y:s.c.waits=true->gv=0->gm=0->∃i,i<n/\(s.iy j x gc gv gm).w i=.dn .d7)
 (z:gv=1->gc=0->∃i,i<n/\((s.iy j x gc gv gm).w i=.dn .d5\/(s.iy j x gc gv gm).w i=.dn .d6)):bO n (s.iy j x gc gv gm):=by
 refine⟨?_,r,m,t,o,u,v,y,z,λh=>?_,I.g9,λi a=>?_,I.Sr,I.sp,λi a=>?_,?_,λhd h i a=>?_,?_⟩
 . have q:=C5 (s:=s) (x:=x) (gc:=gc) (gv:=gv) (gm:=gm) bn.cnt hj
   have:=I.g1;show gc=sumTo n (λi=>((s.iy j x gc gv gm).w i).cnt)+s.ms.pend;omega
 . have:=(I.g8 h).2.2.2 j hj
   simp_all
 . by_cases e:i=j
   . subst e;rw[bL];exact b
   . rw[dv e];exact I.ok i a
 . by_cases e:i=j
   . subst e
     rw[bL,f];have:=I.idle i a;rw[d]at this;exact this
   . rw[dv e];exact I.idle i a
 . have:=I.ms
   show match s.ms with
   |.add l=>s.sp+l=n/\s.c=.none
   |.bu l p=>s.sp+l=n/\s.c=.none/\1<=l/\(p=.a0\/p=.a2\/p=.a4\/p=.ae)
   |.spawn l=>s.sp+l+1=n/\s.c=.none
   |.recv=>s.sp=n/\s.c≠.none
   |.parked=>s.sp=n/\s.c≠.none/\s.c≠.gone/\∀i,i<n->(s.iy j x gc gv gm).w i≠.wait
   |.off=>s.sp=n/\s.c≠.none
   cases e:s.ms with
   | parked=>
     rw[e]at this;obtain⟨A,B,C,E⟩:=this;refine⟨A,B,C,λi a=>?_⟩;by_cases e:i=j
     . subst e;rw[bL];exact g
     . rw[dv e];grind
   |_=>rw[e]at this;exact this
 . have:=I.early hd h j hj
   rw[d]at this;cases this
 . rw[OU,k]
   have e:=js (λi=>(s.w i).pc) j;rw[show(s.w j).pc=.out by rw[d];rfl]at e;rw[e];exact I.mu
inductive Bx(s:MS P):vS->bn P->Nat->Nat->ack
 |V4:s.gc=1->s.gv=1->Bx s .d4 (.dn .d5) 0 1 s.gm
 |d4 (k:Nat):s.gc=k+1 -> ¬(k=0/\s.gv=1)->Bx s .d4 .gone k s.gv s.gm
 |d5:Bx s .d5 (.dn .d6) s.gc s.gv s.gm
 |d6:Bx s .d6 (.dn .d7) s.gc 0 s.gm
 |d7:Bx s .d7 .gone s.gc s.gv (s.gm+1)
theorem bO.done(I:bO n s)(hj:j<n){p:vS}(b:s.w j=.dn p)(h:Bx s p x gc gv gm):bO n (s.iy j x gc gv gm):=by
 have K5:∀{i:Nat},(s.w i).last=true->s.w i=.dn .d5\/s.w i=.dn .d6\/s.w i=.dn .d7:=λ{i} h=>by
  cases e:s.w i with
  |dn p=>cases p<;>simp_all [bn.last]
  |_=>rw[e]at h;simp[bn.last]at h
 have t:∀{i:Nat},i<n->(s.w i).last=true->s.gc=0:=λ{i} a h=>by
  rcases K5 h with h|h|h
  . exact(I.g3 i a (.inl h)).2
  . exact(I.g3 i a (.inr h)).2
  . exact(I.g4 i a h).2.1
 cases h with
 | V4 u v=>
   refine I.TZ hj b rfl rfl (by simp) rfl (by rw[b,u];rfl) (by omega) (λ_=>I.Ev v) (λi a h=>⟨rfl,rfl⟩) (λi l a g h d=>?_) (λi a h=>?_) ⟨I.g5.1,λh=>?_⟩ (λ_ h=>by omega) (λ_ _=>⟨j,hj,.inl bL⟩)
   . by_cases e:i=j
     . by_cases q:l=j
       . rw[e,q]
       . rw[dv q]at d;simp_all
     . rw[dv e]at h;simp_all
   . by_cases e:i=j
     . subst e;rw[bL]at h;cases h
     . rw[dv e]at h;have:=(I.g4 i a h).2.1;omega
   . have:=(I.g5.2 h).2.1;omega
 | d4 k u v=>
   refine I.TZ hj b rfl rfl (by simp) rfl (by rw[b,u];rfl) I.g2 I.Ev (λi a h=>?_) (λi l a g h d=>?_) (λi a h=>?_) ⟨I.g5.1,λh=>?_⟩ (λh d y=>?_) (λh d=>absurd ⟨d,h⟩ v)
   . by_cases e:i=j
     . subst e;rw[bL]at h;simp_all
     . rw[dv e]at h;have:=(I.g3 i a h).2;omega
   . by_cases e:i=j
     . subst e;rw[bL]at h;cases h
     . rw[dv e]at h;simp_all
   . by_cases e:i=j
     . subst e;rw[bL]at h;cases h
     . rw[dv e]at h;have:=(I.g4 i a h).2.1;omega
   . have:=(I.g5.2 h).2.2.1;omega
   . obtain⟨i,a,A⟩:=I.g6 h d y
     have:=(I.g4 i a A).2.1;omega
 | d5=>
   obtain⟨r,o⟩:=I.g3 j hj (.inl b);obtain⟨m,m0⟩:=I.Ev r
   have c:∀{i:Nat},((s.iy j (.dn .d6) s.gc s.gv s.gm).w i).last=(s.w i).last:=λ{i}=>by
    by_cases e:i=j
    . subst e;rw[bL,b];rfl
    . rw[dv e]
   refine I.TZ hj b rfl rfl (by simp) rfl (by rw[b];rfl) I.g2 I.Ev (λi a h=>⟨r,o⟩) (λi l a g h d=>?_) (λi a h=>?_) ⟨I.g5.1,λh=>?_⟩ (λh d=>by omega) (λ_ _=>⟨j,hj,.inr bL⟩)
   . rw[c]at h d;exact I.GM i l a g h d
   . by_cases e:i=j
     . subst e;rw[bL]at h;cases h
     . rw[dv e]at h;exact I.g4 i a h
   . omega
 | d6=>
   obtain⟨r,o⟩:=I.g3 j hj (.inr b);obtain⟨m,m0⟩:=I.Ev r;have g:(s.w j).last=true:=by rw[b];rfl
   have c:∀{i:Nat},((s.iy j (.dn .d7) s.gc 0 s.gm).w i).last=(s.w i).last:=λ{i}=>by
    by_cases e:i=j
    . subst e;rw[bL,b];rfl
    . rw[dv e]
   refine I.TZ hj b rfl rfl (by simp) rfl (by rw[b];rfl) (by omega) (λh=>by omega) (λi a h=>?_) (λi l a g h d=>?_) (λi a h=>⟨rfl,o,m0,m⟩) ⟨I.g5.1,λh=>by omega⟩ (λ_ _ _=>⟨j,hj,bL⟩) (λh=>by omega)
   . by_cases e:i=j
     . subst e;rw[bL]at h;simp_all
     . rw[dv e]at h
       have z:(s.w i).last=true:=by rcases h with h|h<;>rw[h]<;>rfl
       exact absurd (I.GM i j a hj z g) e
   . rw[c]at h d;exact I.GM i l a g h d
 | d7=>
   obtain⟨B,o,m0,m⟩:=I.g4 j hj b;have g:(s.w j).last=true:=by rw[b];rfl
   have f:∀{i:Nat},i<n->((s.iy j .gone s.gc s.gv (s.gm+1)).w i).last=false:=λ{i} a=>by
    by_cases e:i=j
    . subst e;rw[bL];rfl
    . rw[dv e]
      cases q:(s.w i).last with
      |false=>rfl
      |true=>exact absurd (I.GM i j a hj q g) e
   refine I.TZ hj b rfl rfl (by simp) rfl (by rw[b];rfl) I.g2 (λh=>by omega) (λi a h=>?_) (λi l a g h d=>?_) (λi a h=>?_) ⟨by omega,λh=>⟨m,B,o,λi a=>f a⟩⟩ (λ_ _ h=>by omega) (λh=>by omega)
   . have:=f a
     rcases h with h|h<;>rw[h]at this<;>cases this
   . simp_all
   grind
theorem jm.Q6(c:jm)(a b:Nat):c.cx a<=c.cx b+2:=by
 cases c with
 | wt p=>
   cases p with
   |w2 k=>simp only[jm.cx];grind
   |_=>simp[jm.cx]
 |_=>simp[jm.cx]
theorem H4(hj:j<n){p:vS}(d:s.w j=.dn p)(h:Bx s p x gc gv gm):MS.gg n (s.iy j x gc gv gm) s:=by
 have e:=C5 (s:=s) (x:=x) (gc:=gc) (gv:=gv) (gm:=gm) bn.cx hj;refine .inl ?_;show s.ms.cx+sumTo n (λi=>((s.iy j x gc gv gm).w i).cx)+s.c.cx gc<s.ms.cx+sumTo n (λi=>(s.w i).cx)+s.c.cx s.gc;rw[d]at e;have:=jm.Q6 s.c gc s.gc;cases h with
 |V4 f g=>have a:(bn.dn (P:=P) .d4).cx=10:=rfl;have b:(bn.dn (P:=P) .d5).cx=4:=rfl;omega
 |d4 k f g=>have a:(bn.dn (P:=P) .d4).cx=10:=rfl;have b:(bn.gone (P:=P)).cx=0:=rfl;omega
 |d5=>have a:(bn.dn (P:=P) .d5).cx=4:=rfl;have b:(bn.dn (P:=P) .d6).cx=3:=rfl;omega
 |d6=>have a:(bn.dn (P:=P) .d6).cx=3:=rfl;have b:(bn.dn (P:=P) .d7).cx=2:=rfl;omega
 |d7=>have a:(bn.dn (P:=P) .d7).cx=2:=rfl;have b:(bn.gone (P:=P)).cx=0:=rfl;omega
end
