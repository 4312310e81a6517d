import Derived.Test.YtkcceaplmgdnfaaGreatDoorC19
set_option linter.all false
namespace Go.bu
open Go.Conc
open Go.ConcN (sumTo upd sumTo_upd upd_ne upd_same)
section
variable{P:Program}{A:bt}{Fin:ai->aj->Goroutine->Prop}{Z:Base}{s:MS P}{f:Nat->Node P}{q:Nat->Nat}{kk:Nat->ai}{OO:Nat->aj}{J M:Nat->Prop}{gs:Array Goroutine}{gsz:Nat}{w:World}{t u:Trace}{j:Nat}{g:Goroutine}{x:ba P}{xo:Own}{a:fy}
theorem cI.give(hZ:A.b+A.n+1<=Z.lk)(h:cI P A Z s kk OO J M gsz w t)(O:j<A.n)(k:(s.w j).work=true)(D:x.work=true)(Q:∀l,l<A.n->(s.w l).owns=true->l=j)(S:x.owns=false)(T:bD A.n (s.aP j x s.sh))(U:jJ (kk (A.b+j)) xo a)(E:A.GI a)(F:x.gh=(s.w j).gh)(V:A.dir=true->(kk (A.b+j)).cell A.fb (A.cell j)=some (A.val j))(W:∀op∈u,op.act.touch?=none/\∀a,op.act≠.mark (.release a)):
 cI P A Z (s.aP j x s.sh) (nf kk Z.lk (A.b+j)) (eG OO Z.lk (A.b+j) A.mb A.fb xo) J M gsz w (t++u):=by
 have X:A.b+j≠Z.lk:=by omega
 have p:x.busy=(s.w j).busy:=by rw[(bj k).2.2.2.2.2.1,(bj D).2.2.2.2.2.1]
 have G:∀l,l≠Z.lk->nf kk Z.lk (A.b+j) l=kk l:=λl d=>aA _ _ d
 have H:nf kk Z.lk (A.b+j) Z.lk=kk (A.b+j):=az _ _ _;have eO:∀l,l≠A.b+j->l≠Z.lk->eG OO Z.lk (A.b+j) A.mb A.fb xo l=OO l:=λl k D=>by unfold eG;rw[aA _ _ D,aA _ _ k]
 have z:eG OO Z.lk (A.b+j) A.mb A.fb xo (A.b+j)=((OO (A.b+j)).del A.mb).del A.fb:=by unfold eG;rw[aA _ _ X,az]
 have f:eG OO Z.lk (A.b+j) A.mb A.fb xo Z.lk=aj.bot.set A.mb xo:=by unfold eG;rw[az]
 have B:bG P A s (A.b+j):=gK h.I O (bj k).2.2.2.2.1
 have C:∀l,l<A.n->((s.aP j x s.sh).w l).owns=false:=λl d=>by
  by_cases e:l=j
  . subst e;rw[aQ];exact S
  . rw[bU e]
    grind
 refine⟨T,h.size,h.dd,h.off,λhd l d=>⟨λr=>?_,λR=>?_⟩,h.yn,h.mu,h.gr,h.tz,h.xC,λi=>?_,λi=>?_,λi y v=>?_,λl d K=>?_,λK=>?_,λc L=>?_,
  λi=>by rw[h.hJ i];exact(na O p i).symm,h.tB u,h.lG u,h.jB u (λop g a N=>by grind),h.m9 u (λop g a N=>by grind),h.oc u,h.iJ u (λop g=>(W op g).2),λi d hb=>?_,h.qN,h.jh,h.dY,h.la,by simp;exact Nat.le_trans h.n0 (Nat.le_add_right _ _)⟩
 . have r:(s.w l).gh=false:=by
    by_cases e:l=j
    . subst e;rw[aQ,F]at r;exact r
    . rw[bU e]at r;exact r
   refine⟨λi=>?_,λm a Y N q q'=>(dB N).elim (λk=>((h.xk hd l d).1 r).2 m a Y k.1 q q') (λ⟨op,g,k⟩=>by grind)⟩
   have k:=((h.xk hd l d).1 r).1
   grind
 . rw[G _ (by omega)]
   by_cases e:l=j
   . grind
   . rw[bU e]at R;exact(h.xk hd l d).2 R
 . by_cases o:i=Z.lk
   . subst o;rw[f];simp only[aj.set,A.d3,A.d6,if_false];exact⟨λ_=>rfl,rfl⟩
   by_cases e:i=A.b+j
   . subst e;rw[z]
     have:=h.fe (A.b+j);simp only[aj.del,A.d1,A.d3,Ne.symm A.d4,A.d6,if_false];exact this
   . rw[eO i e o];exact h.fe i
 . by_cases o:i=Z.lk
   . subst o;rw[H];exact h.dM _
   . rw[G i o];exact h.dM i
 . exfalso
   by_cases o:i=Z.lk
   . subst o;rw[f]at v
     simp only[aj.set,A.d5,if_false]at v;cases v
   by_cases e:i=A.b+j
   . subst e;rw[z]at v;simp[aj.del]at v
   . rw[eO i e o]at v
     obtain⟨l,_,d,h3,ho,_⟩:=h.tok i y v
     grind
 . grind
 . refine⟨xo,a,by rw[f];simp[aj.set],by grind,E⟩
 . rw[f]at L
   refine⟨?_,C⟩
   by_cases e:c=A.mb
   . exact e
   . simp only[aj.set,e,if_false]at L;exact absurd rfl L
 . have e:i≠A.b+j:=λe=>hb (e ▸ B)
   rw[G i d,eO i e d];exact h.Bo i d hb
variable(C:eY P A.nm)(X:eZ P A.nm)
include C X in
theorem M5(D:A.b+A.n+1<=Z.lk)(T:bn (bL P A Fin Z D) Z s f q kk OO J M gs w t)(d:j<A.n){Y:ui P}(p:s.w j=.un .ur Y)(hg:gs[A.b+j]?=some g)(a7:Fc P A j (.un .ur Y) (kk (A.b+j)) (OO (A.b+j)) g)(sl:Option (Nat × Nat)):
 Goes P A Fin Z D s gs w t sl (A.b+j):=by
 have v:cI P A Z s kk OO J M gs.size w t:=T.ex;have B:=aY (P:=P) (A:=A) (Fin:=Fin) (Z:=Z) D;have U:(s.w j).jC=true:=by rw[p];rfl
 have V:=gW U;have a8:(s.w j).pc=.held:=by rw[p];rfl
 have hb:=A.hb;have m:A.b+j≠Z.lk:=by omega
 have a9:(A.b+j==0)=false:=by simp;omega
 have E:∀l,l<A.n->(s.w l).owns=true->l=j:=λl F e=>Bw v.I d a8 F e
 obtain⟨kind,c,rest,hk,hM,hm,ab,b4⟩:=a7;obtain⟨tf,xo,a,b5,xI,ad,al,ar,hN⟩:=ab (.inr rfl);obtain⟨g1,G,hr,g2,⟨k,H⟩,K⟩:=E3 (Wd:=jZ A) (main:=false) (w:=w) C X hM;rw[<-v.la]at G;have av:nf kk Z.lk (A.b+j) (A.b+j)=kk (A.b+j):=aA _ _ m;have ax:eG OO Z.lk (A.b+j) A.mb A.fb xo (A.b+j)=((OO (A.b+j)).del A.mb).del A.fb:=by unfold eG;rw[aA _ _ m,az]
 have L:=runT_crowd_go (P:=P) (sl:=sl) (i:=A.b+j) hg (by rw[a9];exact G)
 have ay:=gX (P:=P) (A:=A) (s:=s) d U
 have r:Deaf t (A.b+j)=0:=by obtain⟨_,_,r,_⟩:=T.walk _ ay;rw[r];show dq P A s (A.b+j)=0;rw[dS d,p];rfl
 have N:∀op∈MemOp.ofEvents (A.b+j) g.frame.fn g.frame.place #[⟨.mark (.releaseMerge Z.la),false,true⟩],op.g=A.b+j:=λop z=>by obtain⟨e,_,rfl⟩:=Go.Conc.mem_ofEvents z;rfl
 have b1:∀op∈MemOp.ofEvents (A.b+j) g.frame.fn g.frame.place #[⟨.mark (.releaseMerge Z.la),false,true⟩],op.act.touch?=none/\∀a,op.act≠.mark (.release a):=λop z=>by obtain⟨e,he,rfl⟩:=Go.Conc.mem_ofEvents z;simp at he;subst he;exact⟨rfl,λa h=>by simp[MemAct.ofEvent]at h⟩
 have Q:A.fb<w.heap.size:=by obtain⟨c,e,U⟩:=v.tz;exact(Array.getElem?_eq_some_iff.1 U).1
 have R:∀c,OO Z.lk c=none:=λc=>by
  cases e:OO Z.lk c with
  |none=>rfl
  | some y=>
    have:=(v.Mg c (by rw[e];simp)).2 j d
    rw[p]at this;cases this
 have hP:=T.cA.RY (fb:=A.fb) m xI R (by rw[v.la];exact Q) r g.frame.fn g.frame.place
 obtain⟨x,o⟩:∃x:ba P,x=.un .ud Y:=⟨_,rfl⟩;have W:x.work=true:=by rw[o];rfl
 have u:((s.aP j x s.sh).w j).jC=true:=by rw[aQ,o];rfl
 have hI:bD A.n (s.aP j x s.sh):=v.I.still d V W (by rw[o];rfl) (by rw[o,p];rfl)
 have hL:MS.eU A.n (s.aP j x s.sh) s:=kR d V W (by rw[o,p];rfl) (by rw[o,p];rfl) (by rw[o,p];simp[ba.ex])
 have b2:=v.give D d V W E (by rw[o];rfl) hI ad al (by rw[o,p];rfl) ar b1
 have b3:Beside (bL P A Fin Z D) s (s.aP j x s.sh) f f q (upd q (A.b+j) k) kk (nf kk Z.lk (A.b+j)) OO (eG OO Z.lk (A.b+j) A.mb A.fb xo) J J w (A.b+j) g g1:=lH D d V W (λi S=>rfl) (λi S=>upd_ne q k S) (λi S ht=>aA _ _ (show i≠Z.lk by omega)) (λi S ht=>by unfold eG;rw[aA _ _ (show i≠Z.lk by omega),aA _ _ S]) (λ_ h=>h) (.inl λh=>h) (λ{i k O y} K=>B.jS (s:=s) (i:=i) (k:=k) (O:=O) (g:=y) K)
 refine⟨_,_,L,s.aP j x s.sh,f,upd q (A.b+j) k,nf kk Z.lk (A.b+j),eG OO Z.lk (A.b+j) A.mb A.fb xo,J,M,_,_,_,rfl,hL,?_⟩;refine bn.step B T hg N hP b2 (λl y F K=>B.qP v F _ _ K) b3 ⟨λF=>absurd F (lI d u),λ_=>⟨lI d u,?_,?_,g2,?_,?_⟩,λhh=>absurd hh (oe d u),λ_ hn _=>absurd (gX d u) hn⟩
 . show A.b+j<A.b+A.n+1;omega
 . rw[Deaf_own,r]
   show _=dq P A (s.aP j x s.sh) (A.b+j);rw[dS d,aQ,o];rfl
 . refine .inr (.inl ⟨j,d,rfl,?_⟩)
   rw[aQ,o,av,ax];exact⟨kind,c,rest,hk,K,hm,λh=>absurd h (by simp),λ_=>hN⟩
 . exact .inr (by rw[upd_same];exact H)
end
section
variable{P:Program}{A:bt}{Fin:ai->aj->Goroutine->Prop}{Z:Base}{s:MS P}{f:Nat->Node P}{q:Nat->Nat}{kk:Nat->ai}{OO:Nat->aj}{J M:Nat->Prop}{gs:Array Goroutine}{w w':World}{t:Trace}{j:Nat}{x:ba P}{sh:Mu.Sh}{g g1:Goroutine}
theorem Bx(n:Nat):20<=zC n:=by unfold zC;omega
theorem oV{X:Node P}{h:Bool}(b:j<A.n)(a:s.w j=.run h X){y:Node P}(c:x.nd=some y)(d:x.work=true)(hu:y=X\/Relation.TransGen nM y X)
 (f:4*Mu.meas A.n (Mu.set (λi=>(s.w i).pc) j x.pc) sh+x.ex A.n<4*Mu.meas A.n (λi=>(s.w i).pc) s.sh+2*zC A.n):MS.eU A.n (s.aP j x sh) s:=by
 have e:(s.w j).work=true:=by rw[a];rfl
 rcases hu with rfl|hu
 . exact uE b e d (by rw[c,a];rfl) (by rw[a];exact f)
 . exact zF b e d ⟨y,X,c,by rw[a];rfl,hu⟩
variable(C:eY P A.nm)(X:eZ P A.nm)(F:lq P A.nm)
include C X F in
theorem Gi(E:A.b+A.n+1<=Z.lk)(K:bn (bL P A Fin Z E) Z s f q kk OO J M gs w t)(d:j<A.n){h:Bool}{X0:Node P}(a:s.w j=.run h X0){Y:ui P}(hf:f (A.b+j)=Y.node)(hl:Od P A j Y.k Y.O Y.g Y.N)(sl:Option (Nat × Nat)):
 Goes P A Fin Z E s gs w t sl (A.b+j):=by
 have D:cI P A Z s kk OO J M gs.size w t:=K.ex;obtain⟨_,l,p,u,v,_,G,_,z⟩:=K.live _ (jD d a);rw[hf]at l p u v z;have l:gs[A.b+j]?=some Y.g:=l;have u:Y.k=kk (A.b+j):=u;have v:Y.O=OO (A.b+j):=v;have p:Y.m=gg P A j:=by have:Y.m=bR P A Fin s (A.b+j):=p;rw[this,mF d a]
 obtain⟨kind,c,rest,e,hk,hg,L,B,H,Q⟩:=hl;rw[u]at B Q;rw[v]at L Q
 have hh:h=false:=by
  cases h with
  |false=>rfl
  |true=>exact absurd L (D.xD j d (by rw[a];rfl))
 subst hh;have R:(s.w j).work=true:=by rw[a];rfl
 have y:(s.w j).pc=.out:=by rw[a];rfl
 have hu:=z j false X0 d rfl a Y.node (.inl rfl) trivial;obtain⟨g2,⟨n,r⟩,S⟩:=pL (P:=P) (n:=A.nm) (b:=A.fb) (o:=A.fo) (kind:=kind) (cs:=c::rest) (Wd:=jZ A) F;rw[<-hg]at r;have ab:=Bx A.n;cases n with
 | zero=>
   have e0:Y.g=g2:=r;rw[<-e0]at S;obtain⟨g1,T,hr,g3,⟨k,U⟩,V⟩:=zv (Wd:=jZ A) (main:=false) (w:=w) C X S;refine Bs (x:=.lk .fZ Y) (sh:=s.sh) E K d R G (ji d a) rfl (by rw[a];rfl) (λ_=>by rw[a];rfl) (D.I.Vh d R rfl rfl y rfl) (oV d a rfl rfl hu ?_) l T (aZ rfl) D.mu (λe he=>by simp at he;subst he;exact .inl (.inl rfl)) rfl ⟨k,g3,U,kind,c,rest,e,hk,V,p,L,B,H,Q⟩ (.inl λW=>W) sl
   show 4*Mu.meas A.n (Mu.set (λi=>(s.w i).pc) j .fZ) s.sh+0<_
   rw[Br d y];unfold zC;omega
 | succ n=>
   obtain⟨g1,⟨ad,a7⟩,a8⟩:=r;have a9:jZ A w:=(aY (P:=P) (A:=A) (Fin:=Fin) (Z:=Z) E).wd D;refine Bs (x:=.lk .ld Y) (sh:=s.sh) E K d R G (ji d a) rfl (by rw[a];rfl) (λ_=>by rw[a];rfl) (D.I.still d R rfl rfl (by rw[y];rfl)) (oV d a rfl rfl hu ?_) l (a7 false w a9) (aZ rfl) D.mu eF rfl ⟨n,g2,a8,kind,c,rest,e,hk,S,p,L,B,H,Q⟩ (.inl λW=>W) sl
   have e1:Mu.set (λi=>(s.w i).pc) j (ba.lk .ld Y).pc=λi=>(s.w i).pc:=by
    have:=iK (λi=>(s.w i).pc) j
    rw[show(s.w j).pc=(ba.lk .ld Y).pc from y]at this
    exact this
   rw[e1];show _+zC A.n<_;omega
end
section
variable{P:Program}{A:bt}{Fin:ai->aj->Goroutine->Prop}{Z:Base}{s:MS P}{f:Nat->Node P}{q:Nat->Nat}{kk:Nat->ai}{OO:Nat->aj}{J M:Nat->Prop}{gs:Array Goroutine}{w w':World}{t:Trace}{j:Nat}{x:ba P}{sh:Mu.Sh}{g g1:Goroutine}
variable(C:eY P A.nm)(X:eZ P A.nm)(F:lq P A.nm)
include C X F in
theorem By(K:A.b+A.n+1<=Z.lk)(S:bn (bL P A Fin Z K) Z s f q kk OO J M gs w t)(e:j<A.n){h:Bool}{X0:Node P}(d:s.w j=.run h X0){Y:ui P}(hf:f (A.b+j)=Y.node)(hl:Fb P A j Y.k Y.O Y.g (CR P A Y.N))(sl:Option (Nat × Nat)):
 Goes P A Fin Z K s gs w t sl (A.b+j):=by
 have E:cI P A Z s kk OO J M gs.size w t:=S.ex;obtain⟨_,p,r,z,B,_,L,_,D⟩:=S.live _ (jD e d);rw[hf]at p r z B D;have p:gs[A.b+j]?=some Y.g:=p;have z:Y.k=kk (A.b+j):=z;have B:Y.O=OO (A.b+j):=B;have r:Y.m=gg P A j:=by have:Y.m=bR P A Fin s (A.b+j):=r;rw[this,mF e d]
 obtain⟨kind,c,rest,tf,xo,a,hk,hg,G,xI,Q,U,R,V⟩:=hl;rw[z]at Q R V;rw[B]at G xI V
 have hh:h=true:=by
  obtain⟨l,_,hl,h2,h3,_⟩:=E.tok _ _ G;obtain rfl:l=j:=by omega
  rw[d]at h3;exact h3
 subst hh;have T:(s.w j).work=true:=by rw[d];rfl
 have H:(s.w j).pc=.held:=by rw[d];rfl
 have hu:=D j true X0 e rfl d Y.node (.inl rfl) trivial;obtain⟨g2,⟨n,u⟩,W⟩:=nJ (P:=P) (n:=A.nm) (b:=A.fb) (o:=A.fo) (kind:=kind) (cs:=c::rest) (Wd:=jZ A) F;rw[<-hg]at u;have ar:=Bx A.n
 have e1:Mu.set (λi=>(s.w i).pc) j .held=λi=>(s.w i).pc:=by
  have:=iK (λi=>(s.w i).pc) j
  rw[show(s.w j).pc=.held from H]at this
  exact this
 have y:∃f x a,OO (A.b+j) A.fb=some (.part f)/\OO (A.b+j) A.mb=some x/\jJ (kk (A.b+j)) x a/\A.GI a/\(A.dir=true->(kk (A.b+j)).cell A.fb (A.cell j)=some (A.val j))/\CR P A Y.N (kk (A.b+j)) (((OO (A.b+j)).del A.mb).del A.fb) (ju kind c rest (.tuple #[])):=⟨tf,xo,a,G,xI,Q,U,R,V⟩;cases n with
 | zero=>
   have e0:Y.g=g2:=u;rw[<-e0]at W;obtain⟨v,hv⟩:=((aY (P:=P) (A:=A) (Fin:=Fin) (Z:=Z) K).wd E).2.2;obtain⟨g1,a7,hr,g3,⟨k,a8⟩,a9⟩:=vC (Wd:=jZ A) (main:=false) (w:=w) C X (λw h=>h.2.2) hv W
   refine Bs (x:=.un .ur Y) (sh:=s.sh) K S e T L (ji e d) rfl (by rw[d];rfl) (λ_=>by rw[d];rfl) (E.I.still e T rfl rfl (by rw[H];rfl)) (oV e d rfl rfl hu ?_) p a7 (aZ rfl) E.mu eF rfl ⟨k,g3,a8,kind,c,rest,hk,a9,r,λ_=>y,λh=>absurd (.inr rfl) h⟩ (.inl λh0=>h0) sl
   show 4*Mu.meas A.n (Mu.set (λi=>(s.w i).pc) j .held) s.sh+4<_
   rw[e1];omega
 | succ n=>
   obtain⟨g1,⟨av,ab⟩,ad⟩:=u;have al:jZ A w:=(aY (P:=P) (A:=A) (Fin:=Fin) (Z:=Z) K).wd E;refine Bs (x:=.un .E0 Y) (sh:=s.sh) K S e T L (ji e d) rfl (by rw[d];rfl) (λ_=>by rw[d];rfl) (E.I.still e T rfl rfl (by rw[H];rfl)) (oV e d rfl rfl hu ?_) p (ab false w al) (aZ rfl) E.mu eF rfl ⟨n,g2,ad,kind,c,rest,hk,W,r,λ_=>y,λh=>absurd (.inl rfl) h⟩ (.inl λh0=>h0) sl
   show 4*Mu.meas A.n (Mu.set (λi=>(s.w i).pc) j .held) s.sh+5<_
   rw[e1];omega
end
section
variable{P:Program}{A:bt}{Z:Base}{s:MS P}{kk:Nat->ai}{OO:Nat->aj}{J M:Nat->Prop}{gsz:Nat}{w w':World}{t:Trace}
theorem cI.RZ(h:cI P A Z s kk OO J M gsz w t)(a:MW A.gb 0 w w'):Calm Z w w':=by obtain⟨d,c,_⟩:=nc a h.xC;have:=h.dY.2.2;exact⟨a.1,λb hb=>c b (by omega)⟩
theorem cI.R1(h:cI P A Z s kk OO J M gsz w t)(d:MW A.gb 0 w w'):∀b,Kept kk OO w w' b:=λb=>by
 obtain⟨p,f,c,e,g,j,k,l,q⟩:=nc d h.xC;by_cases hb:b=A.gb
 . subst hb
   refine .inr (.inr ⟨c,g,e,j,k,l,λi x a=>(by rw[(h.fe i).2]at a;cases a),λn=>?_⟩);by_cases m:n=0
   . subst m;exact .inr λi=>(h.dM i).2.2.1
   . by_cases o:n=1
     . subst o;exact .inr λi=>(h.dM i).2.2.2
     simp_all
 . exact .inl (f b hb)
theorem cI.Oh(h:cI P A Z s kk OO J M gsz w t){n:Nat}(a:n=0\/n=1):ID kk OO w.heap.size (.cell ⟨A.gb,n,none⟩):=by
 have b:A.gb<w.heap.size:=by obtain⟨c,e,d⟩:=h.xC;grind
 refine⟨b,λi=>⟨dE (h.fe i).2,?_⟩⟩
 rcases a with rfl|rfl
 . exact(h.dM i).2.2.1
 . exact(h.dM i).2.2.2
theorem cI.Jk(h:cI P A Z s kk OO J M gsz w t){es:Array Event}(p:EvM A.gb 0 es){i:Nat}(q:bG P A s i)(fn:FuncId)(pos:String):
 zI kk OO w.heap.size t i (MemOp.ofEvents i fn pos es)/\(∀op∈MemOp.ofEvents i fn pos es,op.act.low w.heap.size)/\(∀op∈MemOp.ofEvents i fn pos es,(∀a,op.act.touch?=some a->a.kind=.atomic/\xj A a.loc)/\∀a,op.act≠.mark (.release a))/\
 ∀op∈MemOp.ofEvents i fn pos es,∀a,op.act.touch?=some a->Z.Shun a.loc:=by
 have x:A.gb<w.heap.size:=by obtain⟨c,e,j⟩:=h.xC;grind
 refine⟨λop d a k=>?_,λop d=>?_,λop d=>?_,λop d a k=>?_⟩<;>obtain⟨e,l,rfl⟩:=Go.Conc.mem_ofEvents d<;>obtain⟨o,r,y⟩:=mE (p e l)
 . obtain⟨j,n,f,g⟩:=o a k
   have f:n=0\/n=1:=by omega
   refine⟨j,λ_=>by rw[g];exact h.Oh f,λm b hb u v=>h.quiet m b hb ?_ v i q⟩
   rw[u,g];exact⟨rfl,.inr ⟨rfl,f⟩⟩
 . grind
 . refine⟨λa k=>?_,r⟩
   obtain⟨j,n,f,g⟩:=o a k;exact⟨j,by rw[g];exact⟨rfl,.inr ⟨rfl,by omega⟩⟩⟩
 . obtain⟨j,n,f,g⟩:=o a k
   have f:n=0\/n=1:=by omega
   rw[g];exact h.qN _ ⟨rfl,.inr ⟨rfl,f⟩⟩ ⟨_,rfl,rfl⟩
theorem Gj{Z:Base}{J M:Nat->Prop}{t u:Trace}{i m:Nat}{op:MemOp}{a:Touch}(e:u[m]?=some op)(f:op.act.touch?=some a)(b:Z.Shun a.loc)(c:a.kind=.atomic)(d:¬(t++u).counts (t.size+m)):Told Z J M (t++u) (t.size+m) a:=.inr (.inr (.inr ⟨b,c,λh=>absurd h d⟩))
end
end Go.bu
namespace Go.bu
open Go.Conc
open Go.ConcN (sumTo upd sumTo_upd upd_ne upd_same)
variable{P:Program}
section
variable{s:MS P}{j n:Nat}{x:ba P}{sh:Mu.Sh}
theorem qY(a:j<n)(h:x.bT<(s.w j).bT):MS.eU n (s.aP j x sh) s:=by
 have:=qX (s:=s) (x:=x) (sh:=sh) ba.bT a;refine .inl ?_;show s.ms.bT+sumTo n (λi=>((s.aP j x sh).w i).bT)+s.c.bT s.gc<s.ms.bT+sumTo n (λi=>(s.w i).bT)+s.c.bT s.gc;omega
theorem bD.uG(I:bD n s)(a:j<n)(b:(s.w j).zE=true)(c:x.zE=true)(e:x.gJ=(s.w j).gJ\/s.d=true)(f:x.ok=true)(g:x.pc=(s.w j).pc):bD n (s.aP j x s.sh):=I.same a b c e f (by rw[g,iK (λi=>(s.w i).pc)];exact I.mu)
end
end Go.bu
namespace Go.bu
open Go.Conc
open Go.ConcN (sumTo upd sumTo_upd upd_ne upd_same)
section
variable{P:Program}{A:bt}{Fin:ai->aj->Goroutine->Prop}{Z:Base}{s:MS P}{f f':Nat->Node P}{q q':Nat->Nat}{kk kk':Nat->ai}{OO OO':Nat->aj}{J J' M:Nat->Prop}{gs:Array Goroutine}{w w':World}{t:Trace}{j:Nat}{x:ba P}{sh:Mu.Sh}{g g1:Goroutine}
theorem lJ(a:j<A.n){p:uD}(e:s.w j=.dn p):fa P A s (A.b+j):=.inr (.inl ⟨j,a,rfl,by simp_all⟩)
theorem jE(a:j<A.n){p:uD}(e:s.w j=.dn p):¬c9 P A s (A.b+j):=by
 have:=A.hb;rintro(⟨e,_⟩|⟨l,c,d,f⟩|⟨e,_⟩)
 . omega
 . simp_all
 . omega
theorem og(a:j<A.n){p:uD}(e:s.w j=.dn p):¬ep P A s (A.b+j):=by
 have:=A.hb;rintro(⟨e,_⟩|⟨l,c,d,f⟩)
 . omega
 simp_all
end
section
variable{P:Program}{A:bt}{Fin:ai->aj->Goroutine->Prop}{Z:Base}{s:MS P}{f:Nat->Node P}{q:Nat->Nat}{kk:Nat->ai}{OO:Nat->aj}{J M:Nat->Prop}{gs:Array Goroutine}{gsz:Nat}{w w':World}{t u:Trace}{j:Nat}{x:ba P}{sh:Mu.Sh}{g:Goroutine}
variable(C:fG P A.ng)(X:gF P A.ng)
include C X in
theorem M6(D:A.b+A.n+1<=Z.lk)(N:bn (bL P A Fin Z D) Z s f q kk OO J M gs w t)(c:j<A.n)(o:s.w j=.dn .d2)(hg:gs[A.b+j]?=some g)(Q:Fc P A j (.dn .d2) (kk (A.b+j)) (OO (A.b+j)) g)(sl:Option (Nat × Nat)):
 Goes P A Fin Z D s gs w t sl (A.b+j):=by
 have u:cI P A Z s kk OO J M gs.size w t:=N.ex;have B:=aY (P:=P) (A:=A) (Fin:=Fin) (Z:=Z) D;have hb:=A.hb;have R:(A.b+j==0)=false:=by simp;omega
 obtain⟨fw,fn,tmps,todo,S,E,hM⟩:=Q;obtain⟨g1,T,hr,g2,⟨k,F⟩,G⟩:=TY (Wd:=jZ A) (main:=false) (w:=w) C X hM;obtain⟨x,p⟩:∃x:ba P,x=.dn .d4:=⟨_,rfl⟩;have d:(s.aP j x s.sh).w j=.dn .d4:=by rw[aQ,p]
 have U:=lJ (P:=P) (A:=A) (s:=s) c o
 have v:Deaf t (A.b+j)=0:=by obtain⟨_,_,v,_⟩:=N.walk _ U;rw[v];show dq P A s (A.b+j)=0;rw[dS c,o];rfl
 have H:=runT_crowd_go (P:=P) (sl:=sl) (i:=A.b+j) hg (by rw[R];exact T)
 have K:bG P A s (A.b+j):=gK u.I c (by rw[o];rfl)
 obtain⟨y1,y2,y3,y4⟩:=u.Jk (es:=#[⟨.mark .disable,false,true⟩]) (λe L=>by simp at L;subst L;exact .inl (.inl rfl)) K g.frame.fn g.frame.place
 have r:∀op∈MemOp.ofEvents (A.b+j) g.frame.fn g.frame.place #[⟨.mark .disable,false,true⟩],op.g=A.b+j:=λop z=>by obtain⟨e,_,rfl⟩:=Go.Conc.mem_ofEvents z;rfl
 have V:∀op∈MemOp.ofEvents (A.b+j) g.frame.fn g.frame.place #[⟨.mark .disable,false,true⟩],op.act.touch?=none:=λop z=>by obtain⟨e,L,rfl⟩:=Go.Conc.mem_ofEvents z;simp at L;subst L;rfl
 have hP:=N.cA.Oe (i:=A.b+j) (w':=w) r rfl ⟨⟨.refl _,rfl⟩,λ_ _=>rfl⟩ (λb=>.inl rfl) y2 y1 (λm op a h1 h2 _=>by rw[V op (Array.mem_of_getElem? h1)]at h2;cases h2)
 have hI:bD A.n (s.aP j x s.sh):=u.I.uG c (by rw[o];rfl) (by rw[p];rfl) (.inl (by rw[p,o];rfl)) (by rw[p];rfl) (by rw[p,o];rfl)
 have hL:MS.eU A.n (s.aP j x s.sh) s:=qY c (by rw[p,o];simp[ba.bT])
 have W:=u.vJ (x:=x) (sh:=s.sh) (w':=w) c (by rw[p,o];rfl) (by rw[p,o];rfl) (λ_=>by rw[p,o];rfl) hI u.mu (λ_ _=>rfl) u.tz y3
 have Y:Beside (bL P A Fin Z D) s (s.aP j x s.sh) f f q (upd q (A.b+j) k) kk kk OO OO J J w (A.b+j) g g1:=od D c (by rw[p,o];rfl) (λi hi=>rfl) (λi hi=>upd_ne q k hi) (λ_ _ _=>rfl) (λ_ _ _=>rfl) (λ_ _ h=>h) (.inl λh=>h) (λ{i k O y} G=>B.jS (s:=s) (i:=i) (k:=k) (O:=O) (g:=y) G)
 refine⟨_,_,H,s.aP j x s.sh,f,upd q (A.b+j) k,kk,OO,J,M,_,_,_,rfl,hL,?_⟩;refine bn.step B N hg r hP W (λl y hl G=>B.qP u hl _ _ G) Y ⟨λhl=>absurd hl (jE c d),λ_=>⟨jE c d,?_,?_,g2,?_,?_⟩,λhh=>absurd hh (og c d),λ_ hn _=>absurd (lJ c d) hn⟩
 . show A.b+j<A.b+A.n+1;omega
 . rw[Deaf_own,v]
   show _=dq P A (s.aP j x s.sh) (A.b+j);rw[dS c,d];rfl
 . refine .inr (.inl ⟨j,c,rfl,?_⟩)
   rw[d];exact⟨fw,fn,tmps,todo,S,E,G⟩
 . exact .inr (by rw[upd_same];exact F)
end
section
variable{Z:Base}{kk:Nat->ai}{OO:Nat->aj}{J M:Nat->Prop}{w:World}{t:Trace}
theorem bX.c5(h:bX Z kk OO J M w t){i:Nat}{ad:Addr}(o:ad.block<w.heap.size)(hd:Deaf t i=0)(fn:FuncId)(pos:String):
 bX Z kk OO (λl=>J l/\l≠i) (λp=>M p\/p=t.size) w (t++MemOp.ofEvents i fn pos #[⟨.mark (.releaseMerge ad),false,true⟩]):=by
 obtain⟨u,A⟩:∃u,u=MemOp.ofEvents i fn pos #[⟨.mark (.releaseMerge ad),false,true⟩]:=⟨_,rfl⟩;have d:u=#[⟨i,fn,pos,.mark (.releaseMerge ad)⟩]:=by rw[A,ofEvents_eq];simp[MemAct.ofEvent]
 rw[<-A];have B:∀op∈u,op.act.touch?=none:=λop c=>by rw[d]at c;simp at c;subst c;rfl
 have f:∀op∈u,op.g=i:=λop c=>by grind
 have q:u[0]?=some ⟨i,fn,pos,.mark (.releaseMerge ad)⟩:=by grind
 exact h.r9 (λa b=>a=b) rfl ⟨⟨.refl _,rfl⟩,λ_ _=>rfl⟩ (λb=>.inl rfl) (λop c=>by rw[d]at c;simp at c;subst c;simpa[MemAct.low]using o) (λa b e n y _ _ _ C=>by subst e;exact C.app u)
  (λj b n v h=>⟨j,rfl,h⟩) (λj b s h=>⟨j,rfl,h⟩) (λj b x h=>⟨j,rfl,h,λ_ h=>h⟩) h.iF
  (λsaid=>noRace_append (h.clean said) f λn a r op c b hb _=>by simp_all) (λop c a r=>by simp_all) (λm op a c r=>by grind)
  (fun n a r D h=>h.elim (λ⟨j,z,k⟩=>by
    by_cases e:j=i
    . subst e;exact .inr (.inr (.inl ⟨t.size+0,.inr rfl,kL k q rfl⟩))
    . exact .inr (.inl ⟨j,⟨z,e⟩,k.app _⟩)) (λ⟨p,z,k⟩=>.inr (.inr (.inl ⟨p,.inl z,k.app _⟩))))
end
section
variable{P:Program}{A:bt}{Fin:ai->aj->Goroutine->Prop}{Z:Base}{s:MS P}{f:Nat->Node P}{q:Nat->Nat}{kk:Nat->ai}{OO:Nat->aj}{J M:Nat->Prop}{gs:Array Goroutine}{gsz:Nat}{w w':World}{t u:Trace}{j:Nat}{x:ba P}{sh:Mu.Sh}{g:Goroutine}
theorem cI.c5(h:cI P A Z s kk OO J M gsz w t)(Y:j<A.n)(z:x.busy=false)(B:s.c=.none\/s.c=.dL\/∃q,s.c=.wt q)(hd:Deaf t (A.b+j)=0)(E:∃op,u[0]?=some op/\op.g=A.b+j/\op.act=.mark (.releaseMerge ⟨A.gb,0,none⟩))(C:jK u)(S:x.owns=(s.w j).owns)(F:x.gh=(s.w j).gh)(T:bD A.n (s.aP j x sh))(G:ShM A.fb A.fo w' sh)
 (d:∀b,b≠A.fb->w'.heap[b]?=w.heap[b]?) (H:∃c e,w'.heap[A.fb]?=some (.cells c e (0,0))) (O:∀op∈u,(∀a,op.act.touch?=some a->a.kind=.atomic/\xj A a.loc)/\∀a,op.act≠.mark (.release a)):
 cI P A Z (s.aP j x sh) kk OO (λl=>J l/\l≠A.b+j) (λp=>M p\/p=t.size) gsz w' (t++u):=by
 have hb:=A.hb
 have D:∀l,((s.aP j x sh).w l).owns=(s.w l).owns:=λl=>by
  by_cases e:l=j
  . subst e;rw[aQ,S]
  . rw[bU e]
 refine⟨T,h.size,h.dd,h.off,h.Dn (λhd l _=>⟨?_,D l⟩) (λop k a I=>((O op k).1 a I).2),λhd=>by rw[d _ A.d1];exact h.yn hd,G,h.gr.same (.of_heap (d _ (Ne.symm A.d4))),H,by rw[d _ (Ne.symm A.d4)];exact h.xC,h.fe,h.dM,λi y U=>?_,λl Q K=>h.xD l Q (by simp_all),λK=>h.Mf λl Q=>by simp_all,λc L=>?_,
  λi=>?_,λp N=>?_,λL=>?_,h.jB u (λop k a I _ V=>?_),h.m9 u (λop k a I _ V=>?_),h.oc u,h.iJ u (λop k=>(O op k).2),h.Bo,h.qN,h.jh,h.dY,h.la,by simp;exact Nat.le_trans h.n0 (Nat.le_add_right _ _)⟩
 . by_cases e:l=j
   . subst e;rw[aQ,F]
   . rw[bU e]
 . obtain⟨l,f,o,r,v,W⟩:=h.tok i y U
   exact⟨l,f,o,r,by simp_all,W⟩
 . obtain⟨o,r⟩:=h.Mg c L
   simp_all
 . rw [h.hJ i]
   constructor
   . rintro⟨⟨l,o,r,v⟩|⟨o,r⟩,X⟩
     . exact .inl ⟨l,o,r,by rw[bU (by omega)];exact v⟩
     . exact .inr ⟨o,r⟩
   . rintro (⟨l,o,r,v⟩|⟨o,r⟩)
     . by_cases e:l=j
       . subst e;rw[aQ,z]at v;cases v
       . rw[bU e]at v;exact⟨.inl ⟨l,o,r,v⟩,by omega⟩
     . exact⟨.inr ⟨o,r⟩,by omega⟩
 . rcases N with N|rfl
   . exact h.tB u p N
   . obtain⟨op,R,e2,e3⟩:=E
     refine⟨heard_new (m:=0) C R (by simp_all),h.n0,.inl ⟨?_,B⟩⟩;have e4:=act?_of (cX (t:=t) (m:=0) R)
     simp_all
 . obtain⟨p,o,r,v⟩:=h.lG u L
   grind
 . grind
 grind
variable(C:fG P A.ng)(X:gF P A.ng)
include C X in
theorem M7(F:A.b+A.n+1<=Z.lk)(R:bn (bL P A Fin Z F) Z s f q kk OO J M gs w t)(d:j<A.n)(o:s.w j=.dn .d1)(hg:gs[A.b+j]?=some g)(S:Fc P A j (.dn .d1) (kk (A.b+j)) (OO (A.b+j)) g)(sl:Option (Nat × Nat)):
 Goes P A Fin Z F s gs w t sl (A.b+j):=by
 have z:cI P A Z s kk OO J M gs.size w t:=R.ex;have B:=aY (P:=P) (A:=A) (Fin:=Fin) (Z:=Z) F;have hb:=A.hb;have T:(A.b+j==0)=false:=by simp;omega
 obtain⟨fw,fn,tmps,todo,U,G,hM⟩:=S;obtain⟨g1,V,hr,g2,⟨k,H⟩,K⟩:=TX (Wd:=jZ A) (main:=false) (w:=w) C X hM;obtain⟨x,v⟩:∃x:ba P,x=.dn .d2:=⟨_,rfl⟩;have m:(s.aP j x s.sh).w j=.dn .d2:=by rw[aQ,v]
 have W:=lJ (P:=P) (A:=A) (s:=s) d o
 have r:Deaf t (A.b+j)=0:=by obtain⟨_,_,r,_⟩:=R.walk _ W;rw[r];show dq P A s (A.b+j)=0;rw[dS d,o];rfl
 have L:=runT_crowd_go (P:=P) (sl:=sl) (i:=A.b+j) hg (by rw[T];exact V)
 have a8:bG P A s (A.b+j):=gK z.I d (by rw[o];rfl)
 have N:∀op∈MemOp.ofEvents (A.b+j) g.frame.fn g.frame.place #[⟨.mark (.releaseMerge ⟨A.gb,0,none⟩),false,true⟩],op.g=A.b+j:=λop u=>by obtain⟨e,_,rfl⟩:=Go.Conc.mem_ofEvents u;rfl
 have y3:∀op∈MemOp.ofEvents (A.b+j) g.frame.fn g.frame.place #[⟨.mark (.releaseMerge ⟨A.gb,0,none⟩),false,true⟩],(∀a,op.act.touch?=some a->a.kind=.atomic/\xj A a.loc)/\∀a,op.act≠.mark (.release a):=λop u=>by obtain⟨e,Q,rfl⟩:=Go.Conc.mem_ofEvents u;simp at Q;subst Q;exact⟨λa ha=>by simp[MemAct.ofEvent,MemAct.touch?]at ha,λa h=>by simp[MemAct.ofEvent]at h⟩
 have D:jK (MemOp.ofEvents (A.b+j) g.frame.fn g.frame.place #[⟨.mark (.releaseMerge ⟨A.gb,0,none⟩),false,true⟩]):=λop u=>by obtain⟨e,Q,rfl⟩:=Go.Conc.mem_ofEvents u;simp at Q;subst Q;simp[MemAct.ofEvent]
 have hG:A.gb<w.heap.size:=by obtain⟨c,e,h1⟩:=z.xC;exact(Array.getElem?_eq_some_iff.1 h1).1
 have hP:=R.cA.c5 (i:=A.b+j) (ad:=⟨A.gb,0,none⟩) hG r g.frame.fn g.frame.place
 have E:s.c=.none\/s.c=.dL\/∃q,s.c=.wt q:=by
  cases e:s.c with
  |none=>exact .inl rfl
  |dL=>exact .inr (.inl rfl)
  |wt p=>exact .inr (.inr ⟨p,rfl⟩)
  |iH=>have:=(z.I.g8 (by rw[e];rfl)).2.2.2 j d;rw[o]at this;cases this
  |gone=>have:=(z.I.g8 (by rw[e];rfl)).2.2.2 j d;rw[o]at this;cases this
 have hI:bD A.n (s.aP j x s.sh):=z.I.uG d (by rw[o];rfl) (by rw[v];rfl) (.inl (by rw[v,o];rfl)) (by rw[v];rfl) (by rw[v,o];rfl)
 have hL:MS.eU A.n (s.aP j x s.sh) s:=qY d (by rw[v,o];simp[ba.bT])
 have Y:=z.c5 (x:=x) (sh:=s.sh) (w':=w) d (by rw[v];rfl) E r ⟨⟨A.b+j,g.frame.fn,g.frame.place,.mark (.releaseMerge ⟨A.gb,0,none⟩)⟩,by rw[ofEvents_eq];simp[MemAct.ofEvent],rfl,rfl⟩ D (by rw[v,o];rfl) (by rw[v,o];rfl) hI z.mu (λ_ _=>rfl) z.tz y3
 have a7:Beside (bL P A Fin Z F) s (s.aP j x s.sh) f f q (upd q (A.b+j) k) kk kk OO OO J (λl=>J l/\l≠A.b+j) w (A.b+j) g g1:=od F d (by rw[v,o];rfl) (λi hi=>rfl) (λi hi=>upd_ne q k hi) (λ_ _ _=>rfl) (λ_ _ _=>rfl) (λ_ hn h=>⟨h,hn⟩) (.inl λh=>h) (λ{i k O y} K=>B.jS (s:=s) (i:=i) (k:=k) (O:=O) (g:=y) K)
 refine⟨_,_,L,s.aP j x s.sh,f,upd q (A.b+j) k,kk,OO,(λl=>J l/\l≠A.b+j),(λp=>M p\/p=t.size),_,_,_,rfl,hL,?_⟩
 refine bn.step B R hg N hP Y (λl y hl K=>B.qP z hl _ _ K) a7 ⟨λhl=>absurd hl (jE d m),λ_=>⟨jE d m,?_,?_,g2,?_,?_⟩,λhh=>absurd hh (og d m),λ_ hn _=>absurd (lJ d m) hn⟩
 . show A.b+j<A.b+A.n+1;omega
 . rw[Deaf_own,r]
   show _=dq P A (s.aP j x s.sh) (A.b+j);rw[dS d,m];rfl
 . refine .inr (.inl ⟨j,d,rfl,?_⟩)
   rw[m];exact⟨fw,fn,tmps,todo,U,G,K⟩
 . exact .inr (by rw[upd_same];exact H)
end
section
variable{P:Program}{A:bt}{Fin:ai->aj->Goroutine->Prop}{Z:Base}{s s':MS P}{f f':Nat->Node P}{q q':Nat->Nat}{kk kk':Nat->ai}{OO OO':Nat->aj}{J J' M:Nat->Prop}{gs:Array Goroutine}{gsz:Nat}{w w':World}{t u:Trace}{i:Nat}{g g1:Goroutine}
theorem qh{c:iG}:c.dO=true↔c=.gone:=by cases c<;>simp[iG.dO]
theorem ni{c:iG}:c.isNone=true↔c=.none:=by cases c<;>simp[iG.isNone]
theorem cI.R2{M':Nat->Prop}(h:cI P A Z s kk OO J M gsz w t)(L:dZ A s s' i)(G:∀l,l<A.n->(s'.w l).owns=(s.w l).owns)(O:∀l,l<A.n->(s'.w l).gh=(s.w l).gh)(H:uj P A s')(o:s'.c.dO=s.c.dO)(b:s'.c.isNone=s.c.isNone)
 (Q:∀p,M' p->M p) (al:s.c=.gone->∀p,M p->M' p) (R:(∃p,M' p)->(s.c=.none\/s.c=.dL\/∃q,s.c=.wt q)->(s'.c=.none\/s'.c=.dL\/∃q,s'.c=.wt q)) (S:∀i,dF P A s' i↔dF P A s i) (hI:bD A.n s') (T:s'.sh=s.sh) (U:pJ A.gb w' s'.gc s'.gv s'.gm) (V:MW A.gb 0 w w')
 (W:∀op∈u,(∀a,op.act.touch?=some a->(a.kind=.atomic\/(a.kind=.said/\op.g=(if s.c.isNone then 0 else A.cl)))/\xj A a.loc)/\∀a,op.act≠.mark (.release a)):cI P A Z s' kk OO J M' gsz w' (t++u):=by
 obtain⟨m1,X,c,e,c',m3,m4,_⟩:=nc V h.xC
 have z:∀i,bG P A s' i->bG P A s i:=λi C=>by
  rcases C with Y|⟨j,k,r⟩|⟨k,r⟩
  . exact .inl Y
  . exact .inr (.inl ⟨j,by rw[<-L.sp];exact k,r⟩)
  . refine .inr (.inr ⟨k,λe=>r ?_⟩)
    exact ni.1 (by rw[b];exact ni.2 e)
 have D:∀i,bG P A s i->bG P A s' i:=λi C=>by
  rcases C with Y|⟨j,k,r⟩|⟨k,r⟩
  . exact .inl Y
  . exact .inr (.inl ⟨j,by rw[L.sp];exact k,r⟩)
  . refine .inr (.inr ⟨k,λe=>r ?_⟩)
    exact ni.1 (by rw[<-b];exact ni.2 e)
 have a7:s'.c=.gone↔s.c=.gone:=by rw[<-qh,<-qh,o]
 refine⟨hI,by rw[L.sp,b];exact h.size,by rw[L.d];exact h.dd,H,h.Dn (λ_ l E=>⟨O l E,G l E⟩) (λop v a F=>((W op v).1 a F).2),λhd=>by rw[X _ A.d2,o];exact h.yn hd,by rw[T];exact h.mu.same (.of_heap (X _ A.d4)),U,by rw[X _ A.d4];exact h.tz,⟨c',e,m4⟩,h.fe,h.dM,λi y hy=>?_,λl E a8=>h.xD l E (by simp_all),λa8=>h.Mf λl E=>by simp_all,λc hc=>?_,
  λi=>by rw[h.hJ i];simp_all,λp hp=>?_,λhc=>(by
   obtain⟨p,k,r,B⟩:=h.lG u (a7.1 hc)
   grind),λm a F hs N i C=>h.jB u (λop v a F _ N=>?_) m a F hs N i (z i C),λm a F hs N=>?_,λi C=>h.oc u i (z i C),h.iJ u (λop v=>(W op v).2),λi a9 hn=>h.Bo i a9 (λhb=>hn (D i hb)),h.qN,h.jh,h.dY,h.la,by simp;exact Nat.le_trans h.n0 (Nat.le_add_right _ _)⟩
 . obtain⟨l,f,B,I,h5,h6⟩:=h.tok i y hy
   exact⟨l,f,B,I,by grind,h6⟩
 . obtain⟨B,I⟩:=h.Mg c hc
   simp_all
 . obtain⟨k,r,B⟩:=h.tB u p (Q p hp)
   refine⟨k,r,?_⟩;rcases B with⟨B,I⟩|⟨B,I⟩
   . exact .inl ⟨B,R ⟨p,hp⟩ I⟩
   simp_all
 . grind
 . rw[b]
   obtain⟨x,hx,K⟩:=touch_of F;rcases getElem?_append_cases hx with⟨E,ab⟩|⟨_,ad⟩
   . exact(h.said m a (by rw[touchAt_of ab];exact K) hs N).app u
   . rcases((W x ad).1 a K).1 with k|⟨_,k⟩
     . simp_all
     . rw[<-k];exact⟨m,x,hx,rfl,.inl rfl⟩
theorem cI.WU(h:cI P A Z s kk OO J M gsz w t)(v:dZ A s s' i)(f:∀l,l<A.n->(s'.w l).owns=(s.w l).owns)(k:∀l,l<A.n->(s'.w l).gh=(s.w l).gh)(j:uj P A s')(b:s'.c.dO=s.c.dO)(d:s'.c.isNone=s.c.isNone)
 (m:(s.c=.none\/s.c=.dL\/∃q,s.c=.wt q)->(s'.c=.none\/s'.c=.dL\/∃q,s'.c=.wt q)) (e:∀i,dF P A s' i↔dF P A s i) (x:bD A.n s') (o:s'.sh=s.sh) (p:pJ A.gb w' s'.gc s'.gv s'.gm) (r:MW A.gb 0 w w')
 (y:∀op∈u,(∀a,op.act.touch?=some a->(a.kind=.atomic\/(a.kind=.said/\op.g=(if s.c.isNone then 0 else A.cl)))/\xj A a.loc)/\∀a,op.act≠.mark (.release a)):cI P A Z s' kk OO J M gsz w' (t++u):=
 h.R2 v f k j b d (λ_ h=>h) (λ_ _ h=>h) (λ_=>m) e x o p r y
def Pg(b:Nat)(es:Array Event):Prop:=∀e∈es,((e.loc=.mark .disable\/e.loc=.mark .enable)\/∃i,(i=0\/i=0+1)/\e.loc=.cell ⟨b,i,none⟩/\e.sync=true)\/∃i,(i=0\/i=1)/\(e.loc=.mark (.read ⟨b,i,none⟩)\/e.loc=.mark (.write ⟨b,i,none⟩))
theorem Ph{b:Nat}{es:Array Event}(h:EvM b 0 es):Pg b es:=λe a=>.inl (h e a)
def Jl(kk:Nat->ai)(OO:Nat->aj)(B:Nat)(t:Trace)(i:Nat)(u:Trace):Prop:=∀op∈u,∀a,op.act.touch?=some a->(a.kind=.atomic\/a.kind=.said)/\(a.loc.isMemory=true->ID kk OO B a.loc)/\∀n b,touchAt t n=some b->b.loc=a.loc->(b.kind=.plain\/(a.kind=.said/\b.kind=.said))->Knows t i n
theorem bX.Jk(h:bX Z kk OO J M w t)(d:∀op∈u,op.g=i)(y:w'.heap.size=w.heap.size)(z:Calm Z w w')(hb:∀b,Kept kk OO w w' b)(A:∀op∈u,op.act.low w.heap.size)(q:Jl kk OO w.heap.size t i u)
 (l:∀m op a,u[m]?=some op->op.act.touch?=some a->a.loc.isMemory=true->Told Z J M (t++u) (t.size+m) a):bX Z kk OO J M w' (t++u):=
 h.r9 (λa b=>a=b) y z hb A (λa b e n x _ _ _ B=>by subst e;exact B.app u) (λj b n v h=>⟨j,rfl,h⟩) (λj b s h=>⟨j,rfl,h⟩) (λj b x h=>⟨j,rfl,h,λ_ h=>h⟩) h.iF
  (fun said=>noRace_append (h.clean said) d λn a o op c b hb C=>by
    obtain⟨f,k,D⟩:=q op c b hb;obtain⟨E,_,_,F⟩:=C
    grind)
  (λop c a o r=>(q op c a o).2.1 r) l
  (λn a o r h=>h.elim (λ⟨j,f,k⟩=>.inr (.inl ⟨j,f,k.app _⟩)) (λ⟨p,f,k⟩=>.inr (.inr (.inl ⟨p,f,k.app _⟩))))
theorem ko{b:Nat}{e:Event}(he:((e.loc=.mark .disable\/e.loc=.mark .enable)\/∃i,(i=0\/i=0+1)/\e.loc=.cell ⟨b,i,none⟩/\e.sync=true)\/∃i,(i=0\/i=1)/\(e.loc=.mark (.read ⟨b,i,none⟩)\/e.loc=.mark (.write ⟨b,i,none⟩))):
 (∀a,(MemAct.ofEvent e).touch?=some a->(a.kind=.atomic\/a.kind=.said)/\∃i,(i=0\/i=1)/\a.loc=.cell ⟨b,i,none⟩)/\(∀a,MemAct.ofEvent e≠.mark (.release a))/\∀B,b<B->(MemAct.ofEvent e).low B:=by
 rcases he with he|⟨i,d,he⟩
 . obtain⟨g,h,j⟩:=mE he
   simp_all
 . obtain⟨loc,wr,k⟩:=e
   rcases he with he|he<;>simp only at he<;>subst he
   all_goals
    refine⟨λa c=>?_,by simp[MemAct.ofEvent],λB f=>by simpa[MemAct.ofEvent,MemAct.low]using f⟩;simp only[MemAct.ofEvent,MemAct.touch?,Option.some.injEq]at c;subst c;exact⟨.inr rfl,i,d,rfl⟩
theorem zL(K:A.b+A.n+1<=Z.lk)(Y:bn (bL P A Fin Z K) Z s f q kk OO J M gs w t)(Q:bG P A s i)(a7:¬ep P A s i)(hg:gs[i]?=some g){es:Array Event}(a8:stepG P (i==0) g w=.go g1 w' es)
 (hS:dZ A s s' i) (R:∀l,l<A.n->(s'.w l).owns=(s.w l).owns) (a9:∀l,l<A.n->(s'.w l).gh=(s.w l).gh) (S:uj P A s') (F:s'.c.dO=s.c.dO) (G:s'.c.isNone=s.c.isNone) (ab:(s.c=.none\/s.c=.dL\/∃q,s.c=.wt q)->(s'.c=.none\/s'.c=.dL\/∃q,s'.c=.wt q)) (H:∀i,dF P A s' i↔dF P A s i)
 (hI:bD A.n s') (ad:s'.sh=s.sh) (al:pJ A.gb w' s'.gc s'.gv s'.gm) (C:MW A.gb 0 w w') (u:EvM A.gb 0 es\/(Pg A.gb es/\i=(if s.c.isNone then 0 else A.cl))) (hL:MS.eU A.n s' s)
 (hT:(i=0\/J i)\/(EvM A.gb 0 es/\∀(m:Nat) (op:MemOp) (a:Touch),(MemOp.ofEvents i g.frame.fn g.frame.place es)[m]?=some op->op.act.touch?=some a->Z.Shun a.loc->a.kind=.atomic->Told Z J M (t++MemOp.ofEvents i g.frame.fn g.frame.place es) (t.size+m) a))
 (T:(s.gm=0->s'.gm=0)\/(mayWake P g=true/\(g1.status=.running\/g1.status=.finished))) (hf:∀j,j≠i->f' j=f j) (hq:∀j,j≠i->q' j=q j)
 (hs:Self P (bL P A Fin Z K) s' f' q' kk OO J (t++MemOp.ofEvents i g.frame.fn g.frame.place es) i g1) (sl:Option (Nat × Nat)):Goes P A Fin Z K s gs w t sl i:=by
 have D:cI P A Z s kk OO J M gs.size w t:=Y.ex;have B:=aY (P:=P) (A:=A) (Fin:=Fin) (Z:=Z) K;have U:=runT_crowd_go (P:=P) (sl:=sl) (i:=i) hg a8;have hG:A.gb<w.heap.size:=by obtain⟨c,e,E⟩:=D.xC;grind
 have o:Pg A.gb es:=u.elim Ph (·.1);have p:∀op∈MemOp.ofEvents i g.frame.fn g.frame.place es,op.g=i:=λop d=>by obtain⟨e,_,rfl⟩:=Go.Conc.mem_ofEvents d;rfl
 have v:∀op∈MemOp.ofEvents i g.frame.fn g.frame.place es,∀a,op.act.touch?=some a->a.kind=.atomic\/(a.kind=.said/\op.g=(if s.c.isNone then 0 else A.cl)):=λop d a x=>by
  obtain⟨e,r,rfl⟩:=Go.Conc.mem_ofEvents d
  rcases u with u|⟨_,hi⟩
  . exact .inl ((mE (u e r)).1 a x).1
  . rcases((ko (o e r)).1 a x).1 with h|h
    . exact .inl h
    simp_all
 have y1:Jl kk OO w.heap.size t i (MemOp.ofEvents i g.frame.fn g.frame.place es):=λop d a x=>by
  have av:=v op d a x;have ax:=p op d;obtain⟨e,r,rfl⟩:=Go.Conc.mem_ofEvents d;obtain⟨E,n,L,z⟩:=(ko (o e r)).1 a x;have ay:xj A a.loc:=by rw[z];exact⟨rfl,.inr ⟨rfl,L⟩⟩
  refine⟨E,λ_=>by rw[z];exact D.Oh L,λm b hb X N=>?_⟩
  rcases N with N|⟨b1,ar⟩
  . exact D.quiet m b hb (by simp_all) N i Q
  . have h5:=D.said m b hb (by simp_all) ar
    simp_all
 have y2:∀op∈MemOp.ofEvents i g.frame.fn g.frame.place es,op.act.low w.heap.size:=λop d=>by obtain⟨e,r,rfl⟩:=Go.Conc.mem_ofEvents d;exact(ko (o e r)).2.2 _ hG
 have y3:∀op∈MemOp.ofEvents i g.frame.fn g.frame.place es,(∀a,op.act.touch?=some a->(a.kind=.atomic\/(a.kind=.said/\op.g=(if s.c.isNone then 0 else A.cl)))/\xj A a.loc)/\∀a,op.act≠.mark (.release a):=λop d=>⟨λa x=>⟨v op d a x,by
  obtain⟨e,r,rfl⟩:=Go.Conc.mem_ofEvents d;obtain⟨_,n,L,z⟩:=(ko (o e r)).1 a x;rw[z];exact⟨rfl,.inr ⟨rfl,L⟩⟩⟩,by
  obtain⟨e,r,rfl⟩:=Go.Conc.mem_ofEvents d;exact(ko (o e r)).2.1⟩
 have y4:∀op∈MemOp.ofEvents i g.frame.fn g.frame.place es,∀a,op.act.touch?=some a->Z.Shun a.loc:=λop d a x=>by obtain⟨e,r,rfl⟩:=Go.Conc.mem_ofEvents d;obtain⟨E,n,L,z⟩:=(ko (o e r)).1 a x;rw[z];exact D.qN _ ⟨rfl,.inr ⟨rfl,L⟩⟩ ⟨_,rfl,rfl⟩
 obtain⟨m1,m2,c,e,c',m3,m4,_⟩:=nc C D.xC
 have hP:=Y.cA.Jk (i:=i) p m1 (D.RZ C) (D.R1 C) y2 y1 (λm op a E z _=>by
  rcases hT with hJ|⟨u,hT⟩
  . have N:Knows (t++MemOp.ofEvents i g.frame.fn g.frame.place es) i (t.size+m):=knows_own E (p op (Array.mem_of_getElem? E))
    rcases hJ with rfl|hJ
    . exact .inl N
    . exact .inr (.inl ⟨i,hJ,N⟩)
  . refine hT m op a E z (y4 op (Array.mem_of_getElem? E) a z) ?_
    obtain⟨e,r,rfl⟩:=Go.Conc.mem_ofEvents (Array.mem_of_getElem? E);exact((mE (u e r)).1 a z).1)
 have V:cI P A Z s' kk OO J M gs.size w' (t++MemOp.ofEvents i g.frame.fn g.frame.place es):=D.WU hS R a9 S F G ab H hI ad al C y3
 have I:Beside (bL P A Fin Z K) s s' f f' q q' kk kk OO OO J J w' i g g1:=kS K hS hf hq (λ_ _ _=>rfl) (λ_ _ _=>rfl) (λ_ _ h=>h) (T.imp (λh=>⟨λh0=>by grind,h⟩) id) (λ{i k O y} hA=>B.jS (s:=s) (i:=i) (k:=k) (O:=O) (g:=y) hA)
 refine⟨_,_,U,s',f',q',kk,OO,J,M,_,_,_,rfl,hL,?_⟩;refine bn.step B Y hg p hP V (λl y X hA=>?_) I hs
 have W:l≠i:=λe=>a7 (e ▸ X)
 exact B.qP V ((I.held l W).2 X) _ _ (I.QB l _ _ _ W X hA)
theorem Fg{g:Nat}:∀m,m<=u.size->(∀l op,l<m->u[l]?=some op->op.act≠.mark .enable)->Deaf t g<=(t++u).deaf g (t.size+m)
 |0,_,_=>by show Deaf t g<=(t++u).deaf g t.size;rw[deaf_old (Nat.le_refl _)];exact Nat.le_refl _
 | m+1,h,a=>by
   have b:m<u.size:=by omega
   have c:(t++u)[t.size+m]?=some u[m]:=by simp_all
   have d:=Fg (g:=g) m (by omega) (λl op e=>a l op (by omega));rw[<-Nat.add_assoc,deaf_succ c];have:=a m u[m] (by omega) (by simp[b]);unfold deafStep
   grind
theorem Dr{es:Array Event}{fn:FuncId}{pos:String}(hd:1<=Deaf t i)(o:∀(m:Nat) (op:MemOp) (a:Touch),(MemOp.ofEvents i fn pos es)[m]?=some op->op.act.touch?=some a->∀(l:Nat) (b:MemOp),l<m->(MemOp.ofEvents i fn pos es)[l]?=some b->b.act≠.mark .enable):∀(m:Nat) (op:MemOp) (a:Touch),(MemOp.ofEvents i fn pos es)[m]?=some op->op.act.touch?=some a->Z.Shun a.loc->a.kind=.atomic->Told Z J M (t++MemOp.ofEvents i fn pos es) (t.size+m) a:=λm op a d h p n=>by
 refine Gj (i:=i) d h p n λq=>?_
 obtain⟨x,f,_,c⟩:=q;rw[act?_of (cX d)]at f;have f:op.act.touch?=some x:=f;rw[h]at f;obtain rfl:=Option.some.inj f;rcases c with c|⟨j,r,s⟩
 . exact c n
 . have v:op.g=i:=by obtain⟨e,_,rfl⟩:=Go.Conc.mem_ofEvents (Array.mem_of_getElem? d);rfl
   have:j=i:=by
    have w:(t++MemOp.ofEvents i fn pos es).g? (t.size+m)=some op.g:=by simp[Trace.g?,cX d]
    simp_all
   subst this;have z:=(Array.getElem?_eq_some_iff.1 d).1;have:=Fg (t:=t) (u:=MemOp.ofEvents j fn pos es) (g:=j) m (by omega) (λl b y k=>o m op _ d h l b y k);omega
end
end Go.bu
namespace Go.bu
open Go.Conc
open Go.ConcN (sumTo upd sumTo_upd upd_ne upd_same)
variable{P:Program}
def MS.gk(s:MS P)(j:Nat)(x:ba P)(gc gv gm:Nat):MS P:={s with w:=λi=>if i=j then x else s.w i,gc:=gc,gv:=gv,gm:=gm}
section
variable{s:MS P}{j n:Nat}{x:ba P}{gc gv gm:Nat}
theorem bC:(s.gk j x gc gv gm).w j=x:=by simp[MS.gk]
theorem cY{i:Nat}(h:i≠j):(s.gk j x gc gv gm).w i=s.w i:=by simp[MS.gk,h]
theorem M8:(λi=>((s.gk j x gc gv gm).w i).pc)=Mu.set (λi=>(s.w i).pc) j x.pc:=by
 funext i;by_cases h:i=j
 . subst h;rw[bC,Mu.ao]
 . rw[cY h,Mu.ak _ _ h]
theorem Bz(F:ba P->Nat)(a:j<n):sumTo n (λi=>F ((s.gk j x gc gv gm).w i))+F (s.w j)=sumTo n (λi=>F (s.w i))+F x:=by
 have e:(λi=>F ((s.gk j x gc gv gm).w i))=upd (λi=>F (s.w i)) j (F x):=by
  funext i;by_cases h:i=j
  . subst h;rw[bC,upd_same]
  . rw[cY h,upd_ne _ _ h]
 rw[e];have:=sumTo_upd (λi=>F (s.w i)) (F x) id a
 simp_all
theorem bD.R3(I:bD n s)(d:j<n){p:uD}(f:s.w j=.dn p)(b:x.ok=true)(g:x.iI=false)(k:x≠.wait)(m:x.pc=.out)
 (E:gc+(s.w j).cnt=s.gc+x.cnt) (t:gv<=1) (o:gv=1->s.c.waits=true/\gm=0)
 (u:∀i,i<n->((s.gk j x gc gv gm).w i=.dn .d5\/(s.gk j x gc gv gm).w i=.dn .d6)->gv=1/\gc=0)
 (q:∀i l,i<n->l<n->((s.gk j x gc gv gm).w i).last=true->((s.gk j x gc gv gm).w l).last=true->i=l)
 (v:∀i,i<n->(s.gk j x gc gv gm).w i=.dn .d7->gv=0/\gc=0/\gm=0/\s.c.waits=true)
 (y:gm<=1/\(gm=1->s.c.waits=true/\gv=0/\gc=0/\∀i,i<n->((s.gk j x gc gv gm).w i).last=false))
 (z:s.c.waits=true->gv=0->gm=0->∃i,i<n/\(s.gk j x gc gv gm).w i=.dn .d7)
 (A:gv=1->gc=0->∃i,i<n/\((s.gk j x gc gv gm).w i=.dn .d5\/(s.gk j x gc gv gm).w i=.dn .d6)):bD n (s.gk j x gc gv gm):=by
 refine⟨?_,t,o,u,q,v,y,z,A,λh=>?_,I.g9,λi a=>?_,I.Qz,I.sp,λi a=>?_,?_,λhd h i a=>?_,?_⟩
 . have r:=Bz (s:=s) (x:=x) (gc:=gc) (gv:=gv) (gm:=gm) ba.cnt d
   have:=I.g1;show gc=sumTo n (λi=>((s.gk j x gc gv gm).w i).cnt)+s.ms.pend;omega
 . have:=(I.g8 h).2.2.2 j d
   simp_all
 . by_cases e:i=j
   . subst e;rw[bC];exact b
   . rw[cY e];exact I.ok i a
 . by_cases e:i=j
   . subst e
     rw[bC,g];have:=I.idle i a;rw[f]at this;exact this
   . rw[cY e];exact I.idle i a
 . have:=I.ms
   show match s.ms with
   |.add l=>s.sp+l=n/\s.c=.none
   |.bh l p=>s.sp+l=n/\s.c=.none/\1<=l/\(p=.a0\/p=.a2\/p=.a4\/p=.ae)
   |.spawn l=>s.sp+l+1=n/\s.c=.none
   |.recv=>s.sp=n/\s.c≠.none
   |.parked=>s.sp=n/\s.c≠.none/\s.c≠.gone/\∀i,i<n->(s.gk j x gc gv gm).w i≠.wait
   |.off=>s.sp=n/\s.c≠.none
   cases e:s.ms with
   | parked=>
     rw[e]at this;obtain⟨B,C,D,F⟩:=this;refine⟨B,C,D,λi a=>?_⟩;by_cases e:i=j
     . subst e;rw[bC];exact k
     . rw[cY e];grind
   |_=>rw[e]at this;exact this
 . have:=I.early hd h j d
   rw[f]at this;cases this
 . rw[M8,m]
   have e:=iK (λi=>(s.w i).pc) j;rw[show(s.w j).pc=.out by rw[f];rfl]at e;rw[e];exact I.mu
inductive zM(s:MS P):uD->ba P->Nat->Nat->Nat->Prop
 |Ue:s.gc=1->s.gv=1->zM s .d4 (.dn .d5) 0 1 s.gm
 |d4 (k:Nat):s.gc=k+1 -> ¬(k=0/\s.gv=1)->zM s .d4 .gone k s.gv s.gm
 |d5:zM s .d5 (.dn .d6) s.gc s.gv s.gm
 |d6:zM s .d6 (.dn .d7) s.gc 0 s.gm
 |d7:zM s .d7 .gone s.gc s.gv (s.gm+1)
theorem bD.done(I:bD n s)(f:j<n){p:uD}(b:s.w j=.dn p)(h:zM s p x gc gv gm):bD n (s.gk j x gc gv gm):=by
 have Jm:∀{i:Nat},(s.w i).last=true->s.w i=.dn .d5\/s.w i=.dn .d6\/s.w i=.dn .d7:=λ{i} h=>by
  cases e:s.w i with
  |dn p=>cases p<;>simp_all [ba.last]
  |_=>rw[e]at h;simp[ba.last]at h
 have u:∀{i:Nat},i<n->(s.w i).last=true->s.gc=0:=λ{i} a h=>by
  rcases Jm h with h|h|h
  . exact(I.g3 i a (.inl h)).2
  . exact(I.g3 i a (.inr h)).2
  . exact(I.g4 i a h).2.1
 cases h with
 | Ue v y=>
   refine I.R3 f b rfl rfl (by simp) rfl (by rw[b,v];rfl) (by omega) (λ_=>I.Jd y) (λi a h=>⟨rfl,rfl⟩) (λi l a m h d=>?_) (λi a h=>?_) ⟨I.g5.1,λh=>?_⟩ (λ_ h=>by omega) (λ_ _=>⟨j,f,.inl bC⟩)
   . by_cases e:i=j
     . by_cases r:l=j
       . rw[e,r]
       . rw[cY r]at d;simp_all
     . rw[cY e]at h;simp_all
   . by_cases e:i=j
     . subst e;rw[bC]at h;cases h
     . rw[cY e]at h;have:=(I.g4 i a h).2.1;omega
   . have:=(I.g5.2 h).2.1;omega
 | d4 k v y=>
   refine I.R3 f b rfl rfl (by simp) rfl (by rw[b,v];rfl) I.g2 I.Jd (λi a h=>?_) (λi l a m h d=>?_) (λi a h=>?_) ⟨I.g5.1,λh=>?_⟩ (λh d z=>?_) (λh d=>absurd ⟨d,h⟩ y)
   . by_cases e:i=j
     . subst e;rw[bC]at h;simp_all
     . rw[cY e]at h;have:=(I.g3 i a h).2;omega
   . by_cases e:i=j
     . subst e;rw[bC]at h;cases h
     . rw[cY e]at h;simp_all
   . by_cases e:i=j
     . subst e;rw[bC]at h;cases h
     . rw[cY e]at h;have:=(I.g4 i a h).2.1;omega
   . have:=(I.g5.2 h).2.2.1;omega
   . obtain⟨i,a,B⟩:=I.g6 h d z
     have:=(I.g4 i a B).2.1;omega
 | d5=>
   obtain⟨t,q⟩:=I.g3 j f (.inl b);obtain⟨o,m0⟩:=I.Jd t
   have c:∀{i:Nat},((s.gk j (.dn .d6) s.gc s.gv s.gm).w i).last=(s.w i).last:=λ{i}=>by
    by_cases e:i=j
    . subst e;rw[bC,b];rfl
    . rw[cY e]
   refine I.R3 f b rfl rfl (by simp) rfl (by rw[b];rfl) I.g2 I.Jd (λi a h=>⟨t,q⟩) (λi l a m h d=>?_) (λi a h=>?_) ⟨I.g5.1,λh=>?_⟩ (λh d=>by omega) (λ_ _=>⟨j,f,.inr bC⟩)
   . rw[c]at h d;exact I.H6 i l a m h d
   . by_cases e:i=j
     . subst e;rw[bC]at h;cases h
     . rw[cY e]at h;exact I.g4 i a h
   . omega
 | d6=>
   obtain⟨t,q⟩:=I.g3 j f (.inr b);obtain⟨o,m0⟩:=I.Jd t;have m:(s.w j).last=true:=by rw[b];rfl
   have c:∀{i:Nat},((s.gk j (.dn .d7) s.gc 0 s.gm).w i).last=(s.w i).last:=λ{i}=>by
    by_cases e:i=j
    . subst e;rw[bC,b];rfl
    . rw[cY e]
   refine I.R3 f b rfl rfl (by simp) rfl (by rw[b];rfl) (by omega) (λh=>by omega) (λi a h=>?_) (λi l a m h d=>?_) (λi a h=>⟨rfl,q,m0,o⟩) ⟨I.g5.1,λh=>by omega⟩ (λ_ _ _=>⟨j,f,bC⟩) (λh=>by omega)
   . by_cases e:i=j
     . subst e;rw[bC]at h;simp_all
     . rw[cY e]at h
       have A:(s.w i).last=true:=by rcases h with h|h<;>rw[h]<;>rfl
       exact absurd (I.H6 i j a f A m) e
   . rw[c]at h d;exact I.H6 i l a m h d
 | d7=>
   obtain⟨C,q,m0,o⟩:=I.g4 j f b;have m:(s.w j).last=true:=by rw[b];rfl
   have g:∀{i:Nat},i<n->((s.gk j .gone s.gc s.gv (s.gm+1)).w i).last=false:=λ{i} a=>by
    by_cases e:i=j
    . subst e;rw[bC];rfl
    . rw[cY e]
      cases r:(s.w i).last with
      |false=>rfl
      |true=>exact absurd (I.H6 i j a f r m) e
   refine I.R3 f b rfl rfl (by simp) rfl (by rw[b];rfl) I.g2 (λh=>by omega) (λi a h=>?_) (λi l a m h d=>?_) (λi a h=>?_) ⟨by omega,λh=>⟨o,C,q,λi a=>g a⟩⟩ (λ_ _ h=>by omega) (λh=>by omega)
   . have:=g a
     rcases h with h|h<;>rw[h]at this<;>cases this
   . simp_all
   grind
theorem iG.Pj(c:iG)(a b:Nat):c.bT a<=c.bT b+2:=by
 cases c with
 | wt p=>
   cases p with
   |w2 k=>simp only[iG.bT];grind
   |_=>simp[iG.bT]
 |_=>simp[iG.bT]
theorem Gk(d:j<n){p:uD}(e:s.w j=.dn p)(h:zM s p x gc gv gm):MS.eU n (s.gk j x gc gv gm) s:=by
 have f:=Bz (s:=s) (x:=x) (gc:=gc) (gv:=gv) (gm:=gm) ba.bT d;refine .inl ?_;show s.ms.bT+sumTo n (λi=>((s.gk j x gc gv gm).w i).bT)+s.c.bT gc<s.ms.bT+sumTo n (λi=>(s.w i).bT)+s.c.bT s.gc;rw[e]at f;have:=iG.Pj s.c gc s.gc;cases h with
 |Ue g l=>have a:(ba.dn (P:=P) .d4).bT=10:=rfl;have b:(ba.dn (P:=P) .d5).bT=4:=rfl;omega
 |d4 k g l=>have a:(ba.dn (P:=P) .d4).bT=10:=rfl;have b:(ba.gone (P:=P)).bT=0:=rfl;omega
 |d5=>have a:(ba.dn (P:=P) .d5).bT=4:=rfl;have b:(ba.dn (P:=P) .d6).bT=3:=rfl;omega
 |d6=>have a:(ba.dn (P:=P) .d6).bT=3:=rfl;have b:(ba.dn (P:=P) .d7).bT=2:=rfl;omega
 |d7=>have a:(ba.dn (P:=P) .d7).bT=2:=rfl;have b:(ba.gone (P:=P)).bT=0:=rfl;omega
end
end Go.bu
