import Derived.Test.YtldmpfccgajobaaGreatDoorV13
set_option linter.all false
namespace Go.bG
open Go.Conc
open Go.ConcN (sumTo upd sumTo_upd upd_ne upd_same)
section
variable{P:Program}{A:dk}{Fin:ag->ah->Goroutine->Prop}{Z:Base}{s:MS P}{f:Nat->Node P}{q:Nat->Nat}{kk:Nat->ag}{OO:Nat->ah}{J M:Nat->Prop}{gs:Array Goroutine}{gsz:Nat}{w:World}{t u:Trace}{j:Nat}{g:Goroutine}{x:aW P}{xo:Own}{a:ji}
theorem cz.give(V:A.b+A.n+1<=Z.lk)(h:cz P A Z s kk OO J M gsz w t)(N:j<A.n)(E:(s.w j).work=true)(F:x.work=true)(k:∀l,l<A.n->(s.w l).owns=true->l=j)(Q:x.owns=false)(R:bs A.n (s.aD j x s.sh))(G:kf (kk (A.b+j)) xo a)(H:A.GI a)(K:∀op∈u,op.act.touch?=none/\∀a,op.act≠.mark (.release a)):
 cz P A Z (s.aD j x s.sh) (mi kk Z.lk (A.b+j)) (eo OO Z.lk (A.b+j) A.mb A.fb xo) J M gsz w (t++u):=by
 have S:A.b+j≠Z.lk:=by omega
 have p:x.busy=(s.w j).busy:=by rw[(aS E).2.2.2.2.2.1,(aS F).2.2.2.2.2.1]
 have O:∀l,l≠Z.lk->mi kk Z.lk (A.b+j) l=kk l:=λl d=>ap _ _ d
 have z:mi kk Z.lk (A.b+j) Z.lk=kk (A.b+j):=ak _ _ _;have eO:∀l,l≠A.b+j->l≠Z.lk->eo OO Z.lk (A.b+j) A.mb A.fb xo l=OO l:=λl E F=>by unfold eo;rw[ap _ _ F,ap _ _ E]
 have B:eo OO Z.lk (A.b+j) A.mb A.fb xo (A.b+j)=((OO (A.b+j)).del A.mb).del A.fb:=by unfold eo;rw[ap _ _ S,ak]
 have g:eo OO Z.lk (A.b+j) A.mb A.fb xo Z.lk=ah.bot.set A.mb xo:=by unfold eo;rw[ak]
 have C:bt P A s (A.b+j):=fR h.I N (aS E).2.2.2.2.1
 have m:∀l,l<A.n->((s.aD j x s.sh).w l).owns=false:=λl d=>by
  by_cases e:l=j
  . subst e;rw[aC];exact Q
  . rw[aX e]
    cases q:(s.w l).owns with
    |false=>rfl
    |true=>exact absurd (k l d q) e
 refine⟨R,h.size,h.vq,h.mu,h.gr,h.rR,h.vH,λi=>?_,λi=>?_,λi y r=>?_,λl d v=>?_,λv=>?_,λc L=>?_,
  λi=>by rw[h.hJ i];exact(j8 N p i).symm,h.pQ u,h.jy u,h.hQ u (λop f a D=>by rw[(K op f).1]at D;cases D),h.kA u (λop f a D=>by rw[(K op f).1]at D;cases D),h.mh u,h.fQ u (λop f=>(K op f).2),λi d hb=>?_,h.oO,h.iB,h.dA,h.la,by simp;exact Nat.le_trans h.n0 (Nat.le_add_right _ _)⟩
 . by_cases o:i=Z.lk
   . subst o;rw[g];simp only[ah.set,A.d3,A.d6,if_false];exact⟨rfl,rfl⟩
   by_cases e:i=A.b+j
   . subst e;rw[B]
     have:=h.ew (A.b+j);simp only[ah.del,A.d1,A.d3,Ne.symm A.d4,A.d6,if_false];exact this
   . rw[eO i e o];exact h.ew i
 . by_cases o:i=Z.lk
   . subst o;rw[z];exact h.dg _
   . rw[O i o];exact h.dg i
 . exfalso
   by_cases o:i=Z.lk
   . subst o;rw[g]at r
     simp only[ah.set,A.d5,if_false]at r;cases r
   by_cases e:i=A.b+j
   . subst e;rw[B]at r;simp[ah.del]at r
   . rw[eO i e o]at r
     obtain⟨l,_,d,T,U,_⟩:=h.tok i y r;exact e (by rw[T,k l d U])
 . rw[m l d]at v;cases v
 . refine⟨xo,a,by rw[g];simp[ah.set],by rw[z];exact G,H⟩
 . rw[g]at L
   refine⟨?_,m⟩
   by_cases e:c=A.mb
   . exact e
   . simp only[ah.set,e,if_false]at L;exact absurd rfl L
 . have e:i≠A.b+j:=λe=>hb (e ▸ C)
   rw[O i d,eO i e d];exact h.zt i d hb
variable(C:gu P A.nm)(X:gx P A.nm)
include C X in
theorem JT(D:A.b+A.n+1<=Z.lk)(T:bg (bM P A Fin Z D) Z s f q kk OO J M gs w t)(d:j<A.n){Y:uf P}(u:s.w j=.un .ur Y)(hg:gs[A.b+j]?=some g)(a7:DU P A j (.un .ur Y) (kk (A.b+j)) (OO (A.b+j)) g)(sl:Option (Nat × Nat)):
 Goes P A Fin Z D s gs w t sl (A.b+j):=by
 have v:cz P A Z s kk OO J M gs.size w t:=T.ex;have B:=aR (P:=P) (A:=A) (Fin:=Fin) (Z:=Z) D;have U:(s.w j).iw=true:=by rw[u];rfl
 have V:=fj U;have a8:(s.w j).pc=.held:=by rw[u];rfl
 have hb:=A.hb;have m:A.b+j≠Z.lk:=by omega
 have a9:(A.b+j==0)=false:=by simp;omega
 have E:∀l,l<A.n->(s.w l).owns=true->l=j:=λl F e=>zC v.I d a8 F e
 obtain⟨kind,c,rest,hk,hM,hm,ad,b4⟩:=a7;obtain⟨tf,xo,a,b5,yF,al,av,hN⟩:=ad (.inr rfl);obtain⟨g1,G,hr,g2,⟨k,H⟩,K⟩:=CQ (Wd:=jJ A) (main:=false) (w:=w) C X hM;rw[<-v.la]at G;have ax:mi kk Z.lk (A.b+j) (A.b+j)=kk (A.b+j):=ap _ _ m;have ay:eo OO Z.lk (A.b+j) A.mb A.fb xo (A.b+j)=((OO (A.b+j)).del A.mb).del A.fb:=by unfold eo;rw[ap _ _ m,ak]
 have L:=runT_crowd_go (P:=P) (sl:=sl) (i:=A.b+j) hg (by rw[a9];exact G)
 have b0:=gg (P:=P) (A:=A) (s:=s) d U
 have p:Deaf t (A.b+j)=0:=by obtain⟨_,_,p,_⟩:=T.walk _ b0;rw[p];show cd P A s (A.b+j)=0;rw[dB d,u];rfl
 have N:∀op∈MemOp.ofEvents (A.b+j) g.frame.fn g.frame.place #[⟨.mark (.releaseMerge Z.la),false,true⟩],op.g=A.b+j:=λop z=>by obtain⟨e,_,rfl⟩:=Go.Conc.mem_ofEvents z;rfl
 have b1:∀op∈MemOp.ofEvents (A.b+j) g.frame.fn g.frame.place #[⟨.mark (.releaseMerge Z.la),false,true⟩],op.act.touch?=none/\∀a,op.act≠.mark (.release a):=λop z=>by obtain⟨e,he,rfl⟩:=Go.Conc.mem_ofEvents z;simp at he;subst he;exact⟨rfl,λa h=>by simp[MemAct.ofEvent]at h⟩
 have Q:A.fb<w.heap.size:=by obtain⟨c,e,U⟩:=v.rR;exact(Array.getElem?_eq_some_iff.1 U).1
 have R:∀c,OO Z.lk c=none:=λc=>by
  cases e:OO Z.lk c with
  |none=>rfl
  | some y=>
    have:=(v.FK c (by rw[e];simp)).2 j d
    rw[u]at this;cases this
 have hP:=T.bN.Oj (fb:=A.fb) m yF R (by rw[v.la];exact Q) p g.frame.fn g.frame.place
 obtain⟨x,o⟩:∃x:aW P,x=.un .ud Y:=⟨_,rfl⟩;have W:x.work=true:=by rw[o];rfl
 have r:((s.aD j x s.sh).w j).iw=true:=by rw[aC,o];rfl
 have hI:bs A.n (s.aD j x s.sh):=v.I.still d V W (by rw[o];rfl) (by rw[o,u];rfl)
 have hL:MS.fh A.n (s.aD j x s.sh) s:=j7 d V W (by rw[o,u];rfl) (by rw[o,u];rfl) (by rw[o,u];simp[aW.ex])
 have b2:=v.give D d V W E (by rw[o];rfl) hI al av b1
 have b3:Beside (bM P A Fin Z D) s (s.aD j x s.sh) f f q (upd q (A.b+j) k) kk (mi kk Z.lk (A.b+j)) OO (eo OO Z.lk (A.b+j) A.mb A.fb xo) J J w (A.b+j) g g1:=iY D d V W (λi S=>rfl) (λi S=>upd_ne q k S) (λi S ht=>ap _ _ (show i≠Z.lk by omega)) (λi S ht=>by unfold eo;rw[ap _ _ (show i≠Z.lk by omega),ap _ _ S]) (λ_ h=>h) (.inl λh=>h) (λ{i k O y} K=>B.jX (s:=s) (i:=i) (k:=k) (O:=O) (g:=y) K)
 refine⟨_,_,L,s.aD j x s.sh,f,upd q (A.b+j) k,mi kk Z.lk (A.b+j),eo OO Z.lk (A.b+j) A.mb A.fb xo,J,M,_,_,_,rfl,hL,?_⟩;refine bg.step B T hg N hP b2 (λl y F K=>B.qI v F _ _ K) b3 ⟨λF=>absurd F (gy d r),λ_=>⟨gy d r,?_,?_,g2,?_,?_⟩,λhh=>absurd hh (ni d r),λ_ hn _=>absurd (gg d r) hn⟩
 . show A.b+j<A.b+A.n+1;omega
 . rw[Deaf_own,p]
   show _=cd P A (s.aD j x s.sh) (A.b+j);rw[dB d,aC,o];rfl
 . refine .inr (.inl ⟨j,d,rfl,?_⟩)
   rw[aC,o,ax,ay];exact⟨kind,c,rest,hk,K,hm,λh=>absurd h (by simp),λ_=>hN⟩
 . exact .inr (by rw[upd_same];exact H)
end
section
variable{P:Program}{A:dk}{Fin:ag->ah->Goroutine->Prop}{Z:Base}{s:MS P}{f:Nat->Node P}{q:Nat->Nat}{kk:Nat->ag}{OO:Nat->ah}{J M:Nat->Prop}{gs:Array Goroutine}{w w':World}{t:Trace}{j:Nat}{x:aW P}{sh:Mu.Sh}{g g1:Goroutine}
theorem C1(v:A.b+A.n+1<=Z.lk)(N:bg (bM P A Fin Z v) Z s f q kk OO J M gs w t)(a:j<A.n)(L:(s.w j).work=true){d:Nat}(Q:Deaf t (A.b+j)=d)(R:¬dz P A s (A.b+j))(h2:x.iw=true)(ho:x.owns=(s.w j).owns)(hI:bs A.n (s.aD j x sh))(hL:MS.fh A.n (s.aD j x sh) s)
 (hg:gs[A.b+j]?=some g){es:Array Event}(S:stepG P false g w=.go g1 w' es) (p:MW A.fb A.fo w w') (T:ShM A.fb A.fo w' sh) (U:EvM A.fb A.fo es) (hd:deafBehind d es=x.deaf)
 (hs:∃n g',iV P (jJ A) n g1 g'/\DU P A j x (kk (A.b+j)) (OO (A.b+j)) g') (z:(s.sh.ms=0->sh.ms=0)\/(mayWake P g=true/\g1.status=.running)) (sl:Option (Nat × Nat)):
 ∃ops m',runT P (crowd gs w sl) (A.b+j)=(.next m',ops)/\∃s' f' q' kk' OO' J' M' gs' C V,m'=crowd gs' C V/\MS.fh A.n s' s/\bg (bM P A Fin Z v) Z s' f' q' kk' OO' J' M' gs' C (t++ops):=by
 obtain⟨n,g',D,W⟩:=hs;have hb:=A.hb;have B:=aR (P:=P) (A:=A) (Fin:=Fin) (Z:=Z) v;have w2:=fj h2;have r:cz P A Z s kk OO J M gs.size w t:=N.ex;have X:(A.b+j==0)=false:=by simp;omega
 have E:=runT_crowd_go (P:=P) (sl:=sl) (i:=A.b+j) hg (by rw[X];exact S)
 have F:bt P A s (A.b+j):=fR r.I a (aS L).2.2.2.2.1;obtain⟨y1,y2,y3⟩:=r.GQ U F g.frame.fn g.frame.place;have o:∀op∈MemOp.ofEvents (A.b+j) g.frame.fn g.frame.place es,op.g=A.b+j:=λop Y=>by obtain⟨e,_,rfl⟩:=Go.Conc.mem_ofEvents Y;rfl
 obtain⟨m1,m2,c,e,c',m3,m4,_⟩:=kB p r.rR;have hP:=N.bN.sync (i:=A.b+j) (.inr ((r.hJ _).2 (sR a (aS L).2.2.2.2.2.1))) o m1 (r.calm p) (r.kept p) y2 y1;have G:cz P A Z (s.aD j x sh) kk OO J M gs.size w' (t++MemOp.ofEvents (A.b+j) g.frame.fn g.frame.place es):=r.work a L w2 ho hI T m2 ⟨c',e,m4⟩ y3
 have u:Beside (bM P A Fin Z v) s (s.aD j x sh) f f q (upd q (A.b+j) n) kk kk OO OO J J w' (A.b+j) g g1:=iY v a L w2 (λ_ _=>rfl) (λi hi=>upd_ne q n hi) (λ_ _ _=>rfl) (λ_ _ _=>rfl) (λ_ h=>h) z (λ{i k O y} hA=>B.jX (s:=s) (i:=i) (k:=k) (O:=O) (g:=y) hA)
 have m:((s.aD j x sh).w j).iw=true:=by rw[aC];exact h2
 refine⟨_,_,E,s.aD j x sh,f,upd q (A.b+j) n,kk,OO,J,M,_,_,_,rfl,hL,?_⟩;refine bg.step B N hg o hP G (λl y H hA=>?_) u ⟨λH=>absurd H (gy a m),λ_=>⟨gy a m,?_,?_,g',?_,?_⟩,λhh=>absurd hh (ni a m),λ_ hn _=>absurd (gg a m) hn⟩
 . have K:l≠A.b+j:=λe=>R (e ▸ H)
   exact B.qI G ((u.held l K).2 H) _ _ (u.LS l _ _ _ K H hA)
 . show A.b+j<A.b+A.n+1;omega
 . rw[Deaf_own,Q]
   show deafBehind d es=cd P A (s.aD j x sh) (A.b+j);rw[dB a,aC];exact hd
 . exact .inr (.inl ⟨j,a,rfl,by rw[aC];exact W⟩)
 . exact .inr (by rw[upd_same];exact D)
theorem zE(n:Nat):20<=x5 n:=by unfold x5;omega
theorem nP{X:Node P}{h:Bool}(b:j<A.n)(a:s.w j=.run h X){y:Node P}(c:x.nd=some y)(d:x.work=true)(hu:y=X\/Relation.TransGen mO y X)
 (f:4*Mu.meas A.n (Mu.set (λi=>(s.w i).pc) j x.pc) sh+x.ex A.n<4*Mu.meas A.n (λi=>(s.w i).pc) s.sh+2*x5 A.n):MS.fh A.n (s.aD j x sh) s:=by
 have e:(s.w j).work=true:=by rw[a];rfl
 rcases hu with rfl|hu
 . exact sQ b e d (by rw[c,a];rfl) (by rw[a];exact f)
 . exact x7 b e d ⟨y,X,c,by rw[a];rfl,hu⟩
variable(C:gu P A.nm)(X:gx P A.nm)(F:oT P A.nm)
include C X F in
theorem DX(E:A.b+A.n+1<=Z.lk)(H:bg (bM P A Fin Z E) Z s f q kk OO J M gs w t)(a:j<A.n){h:Bool}{X0:Node P}(d:s.w j=.run h X0){Y:uf P}(hf:f (A.b+j)=Y.node)(hl:Lb P A Y.k Y.O Y.g Y.N)(sl:Option (Nat × Nat)):
 Goes P A Fin Z E s gs w t sl (A.b+j):=by
 have D:cz P A Z s kk OO J M gs.size w t:=H.ex;obtain⟨_,l,p,u,v,_,G,_,z⟩:=H.live _ (iZ a d);rw[hf]at l p u v z;have l:gs[A.b+j]?=some Y.g:=l;have u:Y.k=kk (A.b+j):=u;have v:Y.O=OO (A.b+j):=v;have p:Y.m=jx P A j:=by have:Y.m=bm P A Fin s (A.b+j):=p;rw[this,lE a d]
 obtain⟨kind,c,rest,e,hk,hg,K,B,L⟩:=hl;rw[u]at B L;rw[v]at K L
 have hh:h=false:=by
  cases h with
  |false=>rfl
  |true=>exact absurd K (D.ug j a (by rw[d];rfl))
 subst hh;have Q:(s.w j).work=true:=by rw[d];rfl
 have y:(s.w j).pc=.out:=by rw[d];rfl
 have hu:=z j false X0 a rfl d Y.node (.inl rfl) trivial;obtain⟨g2,⟨n,r⟩,R⟩:=ou (P:=P) (n:=A.nm) (b:=A.fb) (o:=A.fo) (kind:=kind) (cs:=c::rest) (Wd:=jJ A) F;rw[<-hg]at r;have a9:=zE A.n;cases n with
 | zero=>
   have e0:Y.g=g2:=r;rw[<-e0]at R;obtain⟨g1,S,hr,g3,⟨k,T⟩,U⟩:=xW (Wd:=jJ A) (main:=false) (w:=w) C X R;refine C1 (x:=.lk .fF Y) (sh:=s.sh) E H a Q G (iC a d) rfl (by rw[d];rfl) (D.I.Ro a Q rfl rfl y rfl) (nP a d rfl rfl hu ?_) l S (aP rfl) D.mu (λe he=>by simp at he;subst he;exact .inl (.inl rfl)) rfl ⟨k,g3,T,kind,c,rest,e,hk,U,p,K,B,L⟩ (.inl λV=>V) sl
   show 4*Mu.meas A.n (Mu.set (λi=>(s.w i).pc) j .fF) s.sh+0<_
   rw[zw a y];unfold x5;omega
 | succ n=>
   obtain⟨g1,⟨ad,W⟩,a7⟩:=r;have a8:jJ A w:=(aR (P:=P) (A:=A) (Fin:=Fin) (Z:=Z) E).wd D;refine C1 (x:=.lk .ld Y) (sh:=s.sh) E H a Q G (iC a d) rfl (by rw[d];rfl) (D.I.still a Q rfl rfl (by rw[y];rfl)) (nP a d rfl rfl hu ?_) l (W false w a8) (aP rfl) D.mu eh rfl ⟨n,g2,a7,kind,c,rest,e,hk,R,p,K,B,L⟩ (.inl λV=>V) sl
   have e1:Mu.set (λi=>(s.w i).pc) j (aW.lk .ld Y).pc=λi=>(s.w i).pc:=by
    have:=jZ (λi=>(s.w i).pc) j
    rw[show(s.w j).pc=(aW.lk .ld Y).pc from y]at this
    exact this
   rw[e1];show _+x5 A.n<_;omega
end
section
variable{P:Program}{A:dk}{Fin:ag->ah->Goroutine->Prop}{Z:Base}{s:MS P}{f:Nat->Node P}{q:Nat->Nat}{kk:Nat->ag}{OO:Nat->ah}{J M:Nat->Prop}{gs:Array Goroutine}{w w':World}{t:Trace}{j:Nat}{x:aW P}{sh:Mu.Sh}{g g1:Goroutine}
variable(C:gu P A.nm)(X:gx P A.nm)(F:oT P A.nm)
include C X F in
theorem zF(K:A.b+A.n+1<=Z.lk)(R:bg (bM P A Fin Z K) Z s f q kk OO J M gs w t)(e:j<A.n){h:Bool}{X0:Node P}(d:s.w j=.run h X0){Y:uf P}(hf:f (A.b+j)=Y.node)(hl:CY P A Y.k Y.O Y.g Y.N)(sl:Option (Nat × Nat)):
 Goes P A Fin Z K s gs w t sl (A.b+j):=by
 have E:cz P A Z s kk OO J M gs.size w t:=R.ex;obtain⟨_,p,r,z,B,_,L,_,D⟩:=R.live _ (iZ e d);rw[hf]at p r z B D;have p:gs[A.b+j]?=some Y.g:=p;have z:Y.k=kk (A.b+j):=z;have B:Y.O=OO (A.b+j):=B;have r:Y.m=jx P A j:=by have:Y.m=bm P A Fin s (A.b+j):=r;rw[this,lE e d]
 obtain⟨kind,c,rest,tf,xo,a,hk,hg,G,yF,Q,T,U⟩:=hl;rw[z]at Q U;rw[B]at G yF U
 have hh:h=true:=by
  obtain⟨l,_,hl,h2,h3,_⟩:=E.tok _ _ G;obtain rfl:l=j:=by omega
  rw[d]at h3;exact h3
 subst hh;have S:(s.w j).work=true:=by rw[d];rfl
 have H:(s.w j).pc=.held:=by rw[d];rfl
 have hu:=D j true X0 e rfl d Y.node (.inl rfl) trivial;obtain⟨g2,⟨n,u⟩,V⟩:=mK (P:=P) (n:=A.nm) (b:=A.fb) (o:=A.fo) (kind:=kind) (cs:=c::rest) (Wd:=jJ A) F;rw[<-hg]at u;have av:=zE A.n
 have e1:Mu.set (λi=>(s.w i).pc) j .held=λi=>(s.w i).pc:=by
  have:=jZ (λi=>(s.w i).pc) j
  rw[show(s.w j).pc=.held from H]at this
  exact this
 have y:∃f x a,OO (A.b+j) A.fb=some (.part f)/\OO (A.b+j) A.mb=some x/\kf (kk (A.b+j)) x a/\A.GI a/\Y.N (kk (A.b+j)) (((OO (A.b+j)).del A.mb).del A.fb) (jj kind c rest (.tuple #[])):=⟨tf,xo,a,G,yF,Q,T,U⟩;cases n with
 | zero=>
   have e0:Y.g=g2:=u;rw[<-e0]at V;obtain⟨v,hv⟩:=((aR (P:=P) (A:=A) (Fin:=Fin) (Z:=Z) K).wd E).2.2;obtain⟨g1,W,hr,g3,⟨k,a7⟩,a8⟩:=tZ (Wd:=jJ A) (main:=false) (w:=w) C X (λw h=>h.2.2) hv V
   refine C1 (x:=.un .ur Y) (sh:=s.sh) K R e S L (iC e d) rfl (by rw[d];rfl) (E.I.still e S rfl rfl (by rw[H];rfl)) (nP e d rfl rfl hu ?_) p W (aP rfl) E.mu eh rfl ⟨k,g3,a7,kind,c,rest,hk,a8,r,λ_=>y,λh=>absurd (.inr rfl) h⟩ (.inl λh0=>h0) sl
   show 4*Mu.meas A.n (Mu.set (λi=>(s.w i).pc) j .held) s.sh+4<_
   rw[e1];omega
 | succ n=>
   obtain⟨g1,⟨ax,a9⟩,ad⟩:=u;have al:jJ A w:=(aR (P:=P) (A:=A) (Fin:=Fin) (Z:=Z) K).wd E;refine C1 (x:=.un .CK Y) (sh:=s.sh) K R e S L (iC e d) rfl (by rw[d];rfl) (E.I.still e S rfl rfl (by rw[H];rfl)) (nP e d rfl rfl hu ?_) p (a9 false w al) (aP rfl) E.mu eh rfl ⟨n,g2,ad,kind,c,rest,hk,V,r,λ_=>y,λh=>absurd (.inl rfl) h⟩ (.inl λh0=>h0) sl
   show 4*Mu.meas A.n (Mu.set (λi=>(s.w i).pc) j .held) s.sh+5<_
   rw[e1];omega
end
section
variable{P:Program}{A:dk}{Z:Base}{s:MS P}{kk:Nat->ag}{OO:Nat->ah}{J M:Nat->Prop}{gsz:Nat}{w w':World}{t:Trace}
theorem cz.Ok(h:cz P A Z s kk OO J M gsz w t)(a:MW A.gb 0 w w'):Calm Z w w':=by obtain⟨d,c,_⟩:=kB a h.vH;have:=h.dA.2.2;exact⟨a.1,λb hb=>c b (by omega)⟩
theorem cz.Ol(h:cz P A Z s kk OO J M gsz w t)(g:MW A.gb 0 w w'):∀b,Kept kk OO w w' b:=λb=>by
 obtain⟨q,j,c,e,k,l,m,o,p⟩:=kB g h.vH;by_cases hb:b=A.gb
 . subst hb
   refine .inr (.inr ⟨c,k,e,l,m,o,λi x a=>(by rw[(h.ew i).2]at a;cases a),λn=>?_⟩);by_cases d:n=0
   . subst d;exact .inr λi=>(h.dg i).2.2.1
   . by_cases f:n=1
     . subst f;exact .inr λi=>(h.dg i).2.2.2
     . exact .inl (p n d f)
 . exact .inl (j b hb)
theorem cz.Lh(h:cz P A Z s kk OO J M gsz w t){n:Nat}(a:n=0\/n=1):Gb kk OO w.heap.size (.cell ⟨A.gb,n,none⟩):=by
 have b:A.gb<w.heap.size:=by obtain⟨c,e,d⟩:=h.vH;exact(Array.getElem?_eq_some_iff.1 d).1
 refine⟨b,λi=>⟨de (h.ew i).2,?_⟩⟩
 rcases a with rfl|rfl
 . exact(h.dg i).2.2.1
 . exact(h.dg i).2.2.2
theorem cz.GT(h:cz P A Z s kk OO J M gsz w t){es:Array Event}(p:EvM A.gb 0 es){i:Nat}(q:bt P A s i)(fn:FuncId)(pos:String):
 x8 kk OO w.heap.size t i (MemOp.ofEvents i fn pos es)/\(∀op∈MemOp.ofEvents i fn pos es,op.act.low w.heap.size)/\(∀op∈MemOp.ofEvents i fn pos es,(∀a,op.act.touch?=some a->a.kind=.atomic)/\∀a,op.act≠.mark (.release a))/\
 ∀op∈MemOp.ofEvents i fn pos es,∀a,op.act.touch?=some a->Z.Shun a.loc:=by
 have r:A.gb<w.heap.size:=by obtain⟨c,e,j⟩:=h.vH;exact(Array.getElem?_eq_some_iff.1 j).1
 refine⟨λop d a g=>?_,λop d=>?_,λop d=>?_,λop d a g=>?_⟩<;>obtain⟨e,l,rfl⟩:=Go.Conc.mem_ofEvents d<;>obtain⟨o,u,v⟩:=lD (p e l)
 . obtain⟨j,n,f,k⟩:=o a g
   have f:n=0\/n=1:=by simpa using f
   refine⟨j,λ_=>by rw[k];exact h.Lh f,λm b hb x y=>h.quiet m b hb ?_ y i q⟩
   rw[x,k];exact⟨rfl,.inr ⟨rfl,f⟩⟩
 . exact v _ r
 . exact⟨λa g=>(o a g).1,u⟩
 . obtain⟨j,n,f,k⟩:=o a g
   have f:n=0\/n=1:=by simpa using f
   rw[k];exact h.oO _ ⟨rfl,.inr ⟨rfl,f⟩⟩ ⟨_,rfl,rfl⟩
theorem DY{Z:Base}{J M:Nat->Prop}{t u:Trace}{i m:Nat}{op:MemOp}{a:Touch}(e:u[m]?=some op)(f:op.act.touch?=some a)(b:Z.Shun a.loc)(c:a.kind=.atomic)(d:¬(t++u).counts (t.size+m)):Told Z J M (t++u) (t.size+m) a:=.inr (.inr (.inr ⟨b,c,λh=>absurd h d⟩))
end
end Go.bG
namespace Go.bG
open Go.Conc
open Go.ConcN (sumTo upd sumTo_upd upd_ne upd_same)
variable{P:Program}
def aW.BB:aW P->Bool
 |.run ..=>true|.lk ..=>true|.un ..=>true|.wv=>true|.dn .d1=>true|.dn .d2=>true|.dn .d4=>true|_=>false
theorem uk{x:aW P}(h:x.BB=true):x.cnt=1/\x.last=false/\x.gZ=false/\x≠.gone/\x≠.wait/\∀p,(p=.d5\/p=.d6\/p=.d7)->x≠.dn p:=by
 cases x with
 |dn p=>cases p<;>simp_all [aW.BB,aW.cnt,aW.last,aW.gZ]
 |_=>simp_all [aW.BB,aW.cnt,aW.last,aW.gZ]
section
variable{s:MS P}{j n:Nat}{x:aW P}{sh:Mu.Sh}
theorem bs.same(I:bs n s)(v:j<n)(A:(s.w j).BB=true)(B:x.BB=true)(C:x.fH=(s.w j).fH)(D:x.ok=true)(E:Mu.Inv n (Mu.set (λi=>(s.w i).pc) j x.pc) sh):bs n (s.aD j x sh):=by
 obtain⟨M,a4,F,G,N,g⟩:=uk A;obtain⟨O,H,J,Q,K,k⟩:=uk B;have z:=nf (s:=s) (x:=x) (sh:=sh) aW.cnt v
 have look:∀{i:Nat}{y:aW P},(s.aD j x sh).w i=y->x≠y->i≠j/\s.w i=y:=λ{i y} h m=>by
  by_cases e:i=j
  . subst e;rw[aC]at h;exact absurd h m
  . rw[aX e]at h;exact⟨e,h⟩
 have back:∀{i:Nat}{y:aW P},s.w i=y->(s.w j)≠y->(s.aD j x sh).w i=y:=λ{i y} h m=>by
  by_cases e:i=j
  . subst e;exact absurd h m
  . rw[aX e];exact h
 have b:∀{i:Nat},((s.aD j x sh).w i).last=(s.w i).last:=λ{i}=>by
  by_cases e:i=j
  . subst e;rw[aC,a4,H]
  . rw[aX e]
 refine⟨?_,I.g2,I.pP,λi a h=>?_,λi l a L h d=>?_,λi a h=>?_,⟨I.g5.1,λh=>?_⟩,λh d o=>?_,λh d=>?_,λh=>?_,I.g9,λi a=>?_,I.LO,I.sp,λi a=>?_,?_,λh i a=>?_,by rw[x6];exact E⟩
 . have:=I.g1
   show s.gc=sumTo n (λi=>((s.aD j x sh).w i).cnt)+s.ms.pend;omega
 . exact I.g3 i a (h.imp (λh=>(look h (k _ (by simp))).2) (λh=>(look h (k _ (by simp))).2))
 . rw[b]at h d;exact I.pf i l a L h d
 . exact I.g4 i a (look h (k _ (by simp))).2
 . obtain⟨q,r,t,f⟩:=I.g5.2 h
   exact⟨q,r,t,λi a=>by rw[b];exact f i a⟩
 . obtain⟨i,a,u⟩:=I.g6 h d o
   exact⟨i,a,back u (g _ (by simp))⟩
 . obtain⟨i,a,u⟩:=I.g7 h d
   exact⟨i,a,u.imp (λh=>back h (g _ (by simp))) (λh=>back h (g _ (by simp)))⟩
 . obtain⟨_,_,_,f⟩:=I.g8 h
   exact absurd (f j v) G
 . by_cases e:i=j
   . subst e;rw[aC];exact D
   . rw[aX e];exact I.ok i a
 . by_cases e:i=j
   . subst e
     rw[aC,J];have:=I.idle i a;rw[F]at this;exact this
   . rw[aX e];exact I.idle i a
 . have:=I.ms
   show match s.ms with
   |.add l=>s.sp+l=n/\s.c=.none
   |.bb l p=>s.sp+l=n/\s.c=.none/\1<=l/\(p=.a0\/p=.a2\/p=.a4\/p=.ae)
   |.spawn l=>s.sp+l+1=n/\s.c=.none
   |.recv=>s.sp=n/\s.c≠.none
   |.parked=>s.sp=n/\s.c≠.none/\s.c≠.gone/\∀i,i<n->(s.aD j x sh).w i≠.wait
   cases e:s.ms with
   |parked=>rw[e]at this;obtain⟨q,r,t,f⟩:=this;exact⟨q,r,t,λi a h=>f i a (look h K).2⟩
   |_=>rw[e]at this;exact this
 . by_cases e:i=j
   . subst e;rw[aC,C];exact I.early h i a
   . rw[aX e];exact I.early h i a
theorem ul(a:j<n)(h:x.bU<(s.w j).bU):MS.fh n (s.aD j x sh) s:=by
 have:=nf (s:=s) (x:=x) (sh:=sh) aW.bU a;refine .inl ?_;show s.ms.bU+sumTo n (λi=>((s.aD j x sh).w i).bU)+s.c.bU s.gc<s.ms.bU+sumTo n (λi=>(s.w i).bU)+s.c.bU s.gc;omega
theorem bs.yc(I:bs n s)(a:j<n)(b:(s.w j).BB=true)(c:x.BB=true)(d:x.fH=(s.w j).fH)(e:x.ok=true)(f:x.pc=(s.w j).pc):bs n (s.aD j x s.sh):=I.same a b c d e (by rw[f,jZ (λi=>(s.w i).pc)];exact I.mu)
end
end Go.bG
namespace Go.bG
open Go.Conc
open Go.ConcN (sumTo upd sumTo_upd upd_ne upd_same)
section
variable{P:Program}{A:dk}{Fin:ag->ah->Goroutine->Prop}{Z:Base}{s:MS P}{f f':Nat->Node P}{q q':Nat->Nat}{kk kk':Nat->ag}{OO OO':Nat->ah}{J J' M:Nat->Prop}{gs:Array Goroutine}{w w':World}{t:Trace}{j:Nat}{x:aW P}{sh:Mu.Sh}{g g1:Goroutine}
theorem rT(D:A.b+A.n+1<=Z.lk)(W:j<A.n)(E:x.fH=(s.w j).fH)(F:∀i,i≠A.b+j->f' i=f i)(G:∀i,i≠A.b+j->q' i=q i)(H:∀i,i≠A.b+j->i<A.b+A.n+1->kk' i=kk i)(I:∀i,i≠A.b+j->i<A.b+A.n+1->OO' i=OO i)(K:∀i,i≠A.b+j->J i->J' i)
 (m:(s.sh.ms=0->sh.ms=0)\/(mayWake P g=true/\g1.status=.running)) (L:∀{i k O y},Ob P A Fin s i k O y->y.status=.running/\y.offers=none):
 Beside (bM P A Fin Z D) s (s.aD j x sh) f f' q q' kk kk' OO OO' J J' w' (A.b+j) g g1:=by
 have hb:=A.hb;have wl:∀{i l:Nat},i≠A.b+j->i=A.b+l->(s.aD j x sh).w l=s.w l:=λ{i l} h e=>aX (by omega)
 have u:MS.rem P A.n (s.aD j x sh)=MS.rem P A.n s:=zx E
 have live:∀i,i≠A.b+j->(cL P A (s.aD j x sh) i↔cL P A s i):=λi a=>by
  constructor<;>rintro(h|⟨l,p,d,c⟩|h)
  . exact .inl h
  . exact .inr (.inl ⟨l,p,d,by rw[<-wl a d];exact c⟩)
  . exact .inr (.inr h)
  . exact .inl h
  . exact .inr (.inl ⟨l,p,d,by rw[wl a d];exact c⟩)
  . exact .inr (.inr h)
 have walk:∀i,i≠A.b+j->(dV P A (s.aD j x sh) i↔dV P A s i):=λi a=>by
  constructor<;>rintro(h|⟨l,p,d,c⟩|h)
  . exact .inl h
  . exact .inr (.inl ⟨l,p,d,by rw[<-wl a d];exact c⟩)
  . exact .inr (.inr h)
  . exact .inl h
  . exact .inr (.inl ⟨l,p,d,by rw[wl a d];exact c⟩)
  . exact .inr (.inr h)
 have held:∀i,i≠A.b+j->(dz P A (s.aD j x sh) i↔dz P A s i):=λi a=>by
  constructor<;>rintro(h|⟨l,p,d,c⟩)
  . exact .inl h
  . exact .inr ⟨l,p,d,by rw[<-wl a d];exact c⟩
  . exact .inl h
  . exact .inr ⟨l,p,d,by rw[wl a d];exact c⟩
 refine⟨F,G,H,I,λi a _ h=>K i a h,live,walk,held,λi a M=>?_,λi k O y a _ v=>?_,λi a C=>?_,λi a C hd=>?_,λi k O y a _ v=>?_,λi y a _ N=>?_⟩
 . show bm P A Fin (s.aD j x sh) i=bm P A Fin s i
   unfold bm;rw[u]
   rcases M with⟨rfl,_⟩|⟨l,c,rfl,_⟩|⟨rfl,_⟩
   . rfl
   . have e:A.b+l-A.b=l:=by omega
     rw[e,aX (by omega)]
     rfl
   . rw[if_neg (by omega),if_neg (by omega),if_neg (by omega),if_neg (by omega)]
     rfl
 . rcases v with h|⟨l,c,o,r⟩|h
   . exact .inl h
   . exact .inr (.inl ⟨l,c,o,by rw[wl a o];exact r⟩)
   . exact .inr (.inr h)
 . show cd P A (s.aD j x sh) i=cd P A s i
   unfold cd
   rcases C with⟨rfl,_⟩|⟨l,c,rfl,_⟩|⟨rfl,_⟩
   . rfl
   . have e:A.b+l-A.b=l:=by omega
     rw[e,aX (by omega)]
     rfl
   . rw[if_neg (by omega),if_neg (by omega),if_neg (by omega),if_neg (by omega)]
     rfl
 . rcases m with m|⟨Q,u⟩
   . refine .inl ?_
     rcases hd with⟨l,sv,Y,c,o,r,B⟩|h
     . exact .inl ⟨l,sv,Y,c,o,by rw[wl a o];exact r,m B⟩
     . exact .inr h
   . refine .inr λy R=>?_
     obtain⟨S,T⟩:=L R;have U:(mayWake P g && g1.status !=.blocked && g1.status !=.waiting)=true:=by rw[Q,u];rfl
     unfold Go.Conc.woken;rw[if_pos U,nL S T]
 . rcases v with⟨V,t,z,c,o,r,B⟩|h
   . exact .inl ⟨V,t,z,c,o,r,by rw[u];exact B⟩
   . exact .inr h
 . exact λl b X c o r=>N l b X c o (by rw[<-r];exact(wl a o).symm)
theorem kC(a:j<A.n){p:sP}(e:s.w j=.dn p):dV P A s (A.b+j):=.inr (.inl ⟨j,a,rfl,by rw[e];trivial⟩)
theorem i6(c:j<A.n){p:sP}(e:s.w j=.dn p):¬cL P A s (A.b+j):=by
 have:=A.hb;rintro(⟨e,_⟩|⟨l,d,f,a⟩|⟨e,_⟩)
 . omega
 . obtain rfl:l=j:=by omega
   rw[e]at a;exact a
 . omega
theorem nj(c:j<A.n){p:sP}(e:s.w j=.dn p):¬dz P A s (A.b+j):=by
 have:=A.hb;rintro(⟨e,_⟩|⟨l,d,f,a⟩)
 . omega
 . obtain rfl:l=j:=by omega
   rw[e]at a;cases a
end
section
variable{P:Program}{A:dk}{Fin:ag->ah->Goroutine->Prop}{Z:Base}{s:MS P}{f:Nat->Node P}{q:Nat->Nat}{kk:Nat->ag}{OO:Nat->ah}{J M:Nat->Prop}{gs:Array Goroutine}{gsz:Nat}{w w':World}{t u:Trace}{j:Nat}{x:aW P}{sh:Mu.Sh}{g:Goroutine}
theorem cz.GU(h:cz P A Z s kk OO J M gsz w t)(E:j<A.n)(m:x.busy=(s.w j).busy)(F:x.owns=(s.w j).owns)(G:bs A.n (s.aD j x sh))(r:ShM A.fb A.fo w' sh)
 (d:∀b,b≠A.fb->w'.heap[b]?=w.heap[b]?) (v:∃c e,w'.heap[A.fb]?=some (.cells c e (0,0))) (z:∀op∈u,(∀a,op.act.touch?=some a->a.kind=.atomic)/\∀a,op.act≠.mark (.release a)):
 cz P A Z (s.aD j x sh) kk OO J M gsz w' (t++u):=by
 have g:∀l,((s.aD j x sh).w l).owns=(s.w l).owns:=λl=>by
  by_cases e:l=j
  . subst e;rw[aC,F]
  . rw[aX e]
 refine⟨G,h.size,by rw[d _ A.d1];exact h.vq,r,h.gr.same (.of_heap (d _ (Ne.symm A.d4))),v,by rw[d _ (Ne.symm A.d4)];exact h.vH,h.ew,h.dg,λi y H=>?_,λl p o=>h.ug l p (by rw[<-g l];exact o),λo=>h.GN λl p=>by rw[<-g l];exact o l p,λc I=>?_,
  λi=>by rw[h.hJ i];exact(j8 E m i).symm,h.pQ u,h.jy u,h.hQ u (λop k a B _ q=>?_),h.kA u (λop k a B _ q=>?_),h.mh u,h.fQ u (λop k=>(z op k).2),h.zt,h.oO,h.iB,h.dA,h.la,by simp;exact Nat.le_trans h.n0 (Nat.le_add_right _ _)⟩
 . obtain⟨l,f,C,D,K,L⟩:=h.tok i y H
   exact⟨l,f,C,D,by rw[g];exact K,L⟩
 . obtain⟨C,D⟩:=h.FK c I
   exact⟨C,λl p=>by rw[g];exact D l p⟩
 . rw[(z op k).1 a B]at q;cases q
 . rw[(z op k).1 a B]at q;cases q
variable(C:iu P A.ng)(X:jt P A.ng)
include C X in
theorem JU(D:A.b+A.n+1<=Z.lk)(N:bg (bM P A Fin Z D) Z s f q kk OO J M gs w t)(c:j<A.n)(o:s.w j=.dn .d2)(hg:gs[A.b+j]?=some g)(Q:DU P A j (.dn .d2) (kk (A.b+j)) (OO (A.b+j)) g)(sl:Option (Nat × Nat)):
 Goes P A Fin Z D s gs w t sl (A.b+j):=by
 have u:cz P A Z s kk OO J M gs.size w t:=N.ex;have B:=aR (P:=P) (A:=A) (Fin:=Fin) (Z:=Z) D;have hb:=A.hb;have R:(A.b+j==0)=false:=by simp;omega
 obtain⟨fw,fn,tmps,todo,S,E,hM⟩:=Q;obtain⟨g1,T,hr,g2,⟨k,F⟩,G⟩:=PS (Wd:=jJ A) (main:=false) (w:=w) C X hM;obtain⟨x,p⟩:∃x:aW P,x=.dn .d4:=⟨_,rfl⟩;have d:(s.aD j x s.sh).w j=.dn .d4:=by rw[aC,p]
 have U:=kC (P:=P) (A:=A) (s:=s) c o
 have v:Deaf t (A.b+j)=0:=by obtain⟨_,_,v,_⟩:=N.walk _ U;rw[v];show cd P A s (A.b+j)=0;rw[dB c,o];rfl
 have H:=runT_crowd_go (P:=P) (sl:=sl) (i:=A.b+j) hg (by rw[R];exact T)
 have K:bt P A s (A.b+j):=fR u.I c (by rw[o];rfl)
 obtain⟨y1,y2,y3,y4⟩:=u.GT (es:=#[⟨.mark .disable,false,true⟩]) (λe L=>by simp at L;subst L;exact .inl (.inl rfl)) K g.frame.fn g.frame.place
 have r:∀op∈MemOp.ofEvents (A.b+j) g.frame.fn g.frame.place #[⟨.mark .disable,false,true⟩],op.g=A.b+j:=λop z=>by obtain⟨e,_,rfl⟩:=Go.Conc.mem_ofEvents z;rfl
 have V:∀op∈MemOp.ofEvents (A.b+j) g.frame.fn g.frame.place #[⟨.mark .disable,false,true⟩],op.act.touch?=none:=λop z=>by obtain⟨e,L,rfl⟩:=Go.Conc.mem_ofEvents z;simp at L;subst L;rfl
 have hP:=N.bN.Lc (i:=A.b+j) (w':=w) r rfl ⟨⟨.refl _,rfl⟩,λ_ _=>rfl⟩ (λb=>.inl rfl) y2 y1 (λm op a h1 h2 _=>by rw[V op (Array.mem_of_getElem? h1)]at h2;cases h2)
 have hI:bs A.n (s.aD j x s.sh):=u.I.yc c (by rw[o];rfl) (by rw[p];rfl) (by rw[p,o];rfl) (by rw[p];rfl) (by rw[p,o];rfl)
 have hL:MS.fh A.n (s.aD j x s.sh) s:=ul c (by rw[p,o];simp[aW.bU])
 have W:=u.GU (x:=x) (sh:=s.sh) (w':=w) c (by rw[p,o];rfl) (by rw[p,o];rfl) hI u.mu (λ_ _=>rfl) u.rR y3
 have Y:Beside (bM P A Fin Z D) s (s.aD j x s.sh) f f q (upd q (A.b+j) k) kk kk OO OO J J w (A.b+j) g g1:=rT D c (by rw[p,o];rfl) (λi hi=>rfl) (λi hi=>upd_ne q k hi) (λ_ _ _=>rfl) (λ_ _ _=>rfl) (λ_ _ h=>h) (.inl λh=>h) (λ{i k O y} G=>B.jX (s:=s) (i:=i) (k:=k) (O:=O) (g:=y) G)
 refine⟨_,_,H,s.aD j x s.sh,f,upd q (A.b+j) k,kk,OO,J,M,_,_,_,rfl,hL,?_⟩;refine bg.step B N hg r hP W (λl y hl G=>B.qI u hl _ _ G) Y ⟨λhl=>absurd hl (i6 c d),λ_=>⟨i6 c d,?_,?_,g2,?_,?_⟩,λhh=>absurd hh (nj c d),λ_ hn _=>absurd (kC c d) hn⟩
 . show A.b+j<A.b+A.n+1;omega
 . rw[Deaf_own,v]
   show _=cd P A (s.aD j x s.sh) (A.b+j);rw[dB c,d];rfl
 . refine .inr (.inl ⟨j,c,rfl,?_⟩)
   rw[d];exact⟨fw,fn,tmps,todo,S,E,G⟩
 . exact .inr (by rw[upd_same];exact F)
end
section
variable{Z:Base}{kk:Nat->ag}{OO:Nat->ah}{J M:Nat->Prop}{w:World}{t:Trace}
theorem bL.bu(h:bL Z kk OO J M w t){i:Nat}{ad:Addr}(r:ad.block<w.heap.size)(hd:Deaf t i=0)(fn:FuncId)(pos:String):
 bL Z kk OO (λl=>J l/\l≠i) (λp=>M p\/p=t.size) w (t++MemOp.ofEvents i fn pos #[⟨.mark (.releaseMerge ad),false,true⟩]):=by
 obtain⟨u,B⟩:∃u,u=MemOp.ofEvents i fn pos #[⟨.mark (.releaseMerge ad),false,true⟩]:=⟨_,rfl⟩;have d:u=#[⟨i,fn,pos,.mark (.releaseMerge ad)⟩]:=by rw[B,ofEvents_eq];simp[MemAct.ofEvent]
 rw[<-B];have f:∀op∈u,op.act.touch?=none:=λop c=>by rw[d]at c;simp at c;subst c;rfl
 have o:∀op∈u,op.g=i:=λop c=>by rw[d]at c;simp at c;subst c;rfl
 have z:u[0]?=some ⟨i,fn,pos,.mark (.releaseMerge ad)⟩:=by rw[d];rfl
 exact h.qF (λa b=>a=b) rfl ⟨⟨.refl _,rfl⟩,λ_ _=>rfl⟩ (λb=>.inl rfl) (λop c=>by rw[d]at c;simp at c;subst c;simpa[MemAct.low]using r) (λa b e n y _ _ _ C=>by subst e;exact C.app u)
  (λj b n v h=>⟨j,rfl,h⟩) (λj b s h=>⟨j,rfl,h⟩) (λj b x h=>⟨j,rfl,h,λ_ h=>h⟩) h.gY
  (λsaid=>noRace_append (h.clean said) o λn a k op c b hb _=>by rw[f op c]at hb;cases hb) (λop c a k=>by rw[f op c]at k;cases k) (λm op a c k=>by rw[f op (Array.mem_of_getElem? c)]at k;cases k)
  (fun n a k D h=>h.elim (λ⟨j,A,q⟩=>by
    by_cases e:j=i
    . subst e;exact .inr (.inr (.inl ⟨t.size+0,.inr rfl,jT q z rfl⟩))
    . exact .inr (.inl ⟨j,⟨A,e⟩,q.app _⟩)) (λ⟨p,A,q⟩=>.inr (.inr (.inl ⟨p,.inl A,q.app _⟩))))
end
section
variable{P:Program}{A:dk}{Fin:ag->ah->Goroutine->Prop}{Z:Base}{s:MS P}{f:Nat->Node P}{q:Nat->Nat}{kk:Nat->ag}{OO:Nat->ah}{J M:Nat->Prop}{gs:Array Goroutine}{gsz:Nat}{w w':World}{t u:Trace}{j:Nat}{x:aW P}{sh:Mu.Sh}{g:Goroutine}
theorem cz.bu(h:cz P A Z s kk OO J M gsz w t)(hj:j<A.n)(B:x.busy=false)(C:s.c=.none\/s.c=.dH\/∃q,s.c=.wt q)(hd:Deaf t (A.b+j)=0)(H:∃op,u[0]?=some op/\op.g=A.b+j/\op.act=.mark (.releaseMerge ⟨A.gb,0,none⟩))(D:jS u)(T:x.owns=(s.w j).owns)(U:bs A.n (s.aD j x sh))(I:ShM A.fb A.fo w' sh)
 (d:∀b,b≠A.fb->w'.heap[b]?=w.heap[b]?) (K:∃c e,w'.heap[A.fb]?=some (.cells c e (0,0))) (L:∀op∈u,(∀a,op.act.touch?=some a->a.kind=.atomic)/\∀a,op.act≠.mark (.release a)):
 cz P A Z (s.aD j x sh) kk OO (λl=>J l/\l≠A.b+j) (λp=>M p\/p=t.size) gsz w' (t++u):=by
 have k:∀l,((s.aD j x sh).w l).owns=(s.w l).owns:=λl=>by
  by_cases e:l=j
  . subst e;rw[aC,T]
  . rw[aX e]
 refine⟨U,h.size,by rw[d _ A.d1];exact h.vq,I,h.gr.same (.of_heap (d _ (Ne.symm A.d4))),K,by rw[d _ (Ne.symm A.d4)];exact h.vH,h.ew,h.dg,λi y V=>?_,λl F E=>h.ug l F (by rw[<-k l];exact E),λE=>h.GN λl F=>by rw[<-k l];exact E l F,λc N=>?_,
  λi=>?_,λp O=>?_,λN=>?_,h.hQ u (λop v a Q _ G=>?_),h.kA u (λop v a Q _ G=>?_),h.mh u,h.fQ u (λop v=>(L op v).2),h.zt,h.oO,h.iB,h.dA,h.la,by simp;exact Nat.le_trans h.n0 (Nat.le_add_right _ _)⟩
 . obtain⟨l,f,o,r,z,W⟩:=h.tok i y V
   exact⟨l,f,o,r,by rw[k];exact z,W⟩
 . obtain⟨o,r⟩:=h.FK c N
   exact⟨o,λl F=>by rw[k];exact r l F⟩
 . rw [h.hJ i]
   constructor
   . rintro⟨⟨l,o,r,z⟩|⟨o,r⟩,X⟩
     . exact .inl ⟨l,o,r,by rw[aX (by omega)];exact z⟩
     . exact .inr ⟨o,r⟩
   . rintro (⟨l,o,r,z⟩|⟨o,r⟩)
     . by_cases e:l=j
       . subst e;rw[aC,B]at z;cases z
       . rw[aX e]at z;exact⟨.inl ⟨l,o,r,z⟩,by omega⟩
     . exact⟨.inr ⟨o,r⟩,by omega⟩
 . rcases O with O|rfl
   . exact h.pQ u p O
   . obtain⟨op,R,Y,e3⟩:=H
     refine⟨heard_new (m:=0) D R (by rw[Y];exact hd),h.n0,.inl ⟨?_,C⟩⟩;have S:=act?_of (cC (t:=t) (m:=0) R);rw[e3]at S;exact S
 . obtain⟨p,o,r,z⟩:=h.jy u N
   exact⟨p,.inl o,r,z⟩
 . rw[(L op v).1 a Q]at G;cases G
 . rw[(L op v).1 a Q]at G;cases G
variable(C:iu P A.ng)(X:jt P A.ng)
include C X in
theorem JV(F:A.b+A.n+1<=Z.lk)(R:bg (bM P A Fin Z F) Z s f q kk OO J M gs w t)(d:j<A.n)(o:s.w j=.dn .d1)(hg:gs[A.b+j]?=some g)(S:DU P A j (.dn .d1) (kk (A.b+j)) (OO (A.b+j)) g)(sl:Option (Nat × Nat)):
 Goes P A Fin Z F s gs w t sl (A.b+j):=by
 have v:cz P A Z s kk OO J M gs.size w t:=R.ex;have B:=aR (P:=P) (A:=A) (Fin:=Fin) (Z:=Z) F;have hb:=A.hb;have T:(A.b+j==0)=false:=by simp;omega
 obtain⟨fw,fn,tmps,todo,U,G,hM⟩:=S;obtain⟨g1,V,hr,g2,⟨k,H⟩,K⟩:=PR (Wd:=jJ A) (main:=false) (w:=w) C X hM;obtain⟨x,z⟩:∃x:aW P,x=.dn .d2:=⟨_,rfl⟩;have m:(s.aD j x s.sh).w j=.dn .d2:=by rw[aC,z]
 have W:=kC (P:=P) (A:=A) (s:=s) d o
 have r:Deaf t (A.b+j)=0:=by obtain⟨_,_,r,_⟩:=R.walk _ W;rw[r];show cd P A s (A.b+j)=0;rw[dB d,o];rfl
 have L:=runT_crowd_go (P:=P) (sl:=sl) (i:=A.b+j) hg (by rw[T];exact V)
 have a8:bt P A s (A.b+j):=fR v.I d (by rw[o];rfl)
 have N:∀op∈MemOp.ofEvents (A.b+j) g.frame.fn g.frame.place #[⟨.mark (.releaseMerge ⟨A.gb,0,none⟩),false,true⟩],op.g=A.b+j:=λop u=>by obtain⟨e,_,rfl⟩:=Go.Conc.mem_ofEvents u;rfl
 have y3:∀op∈MemOp.ofEvents (A.b+j) g.frame.fn g.frame.place #[⟨.mark (.releaseMerge ⟨A.gb,0,none⟩),false,true⟩],(∀a,op.act.touch?=some a->a.kind=.atomic)/\∀a,op.act≠.mark (.release a):=λop u=>by obtain⟨e,Q,rfl⟩:=Go.Conc.mem_ofEvents u;simp at Q;subst Q;exact⟨λa ha=>by simp[MemAct.ofEvent,MemAct.touch?]at ha,λa h=>by simp[MemAct.ofEvent]at h⟩
 have D:jS (MemOp.ofEvents (A.b+j) g.frame.fn g.frame.place #[⟨.mark (.releaseMerge ⟨A.gb,0,none⟩),false,true⟩]):=λop u=>by obtain⟨e,Q,rfl⟩:=Go.Conc.mem_ofEvents u;simp at Q;subst Q;simp[MemAct.ofEvent]
 have hG:A.gb<w.heap.size:=by obtain⟨c,e,h1⟩:=v.vH;exact(Array.getElem?_eq_some_iff.1 h1).1
 have hP:=R.bN.bu (i:=A.b+j) (ad:=⟨A.gb,0,none⟩) hG r g.frame.fn g.frame.place
 have E:s.c=.none\/s.c=.dH\/∃q,s.c=.wt q:=by
  cases e:s.c with
  |none=>exact .inl rfl
  |dH=>exact .inr (.inl rfl)
  |wt p=>exact .inr (.inr ⟨p,rfl⟩)
  |iX=>have:=(v.I.g8 (by rw[e];rfl)).2.2.2 j d;rw[o]at this;cases this
  |gone=>have:=(v.I.g8 (by rw[e];rfl)).2.2.2 j d;rw[o]at this;cases this
 have hI:bs A.n (s.aD j x s.sh):=v.I.yc d (by rw[o];rfl) (by rw[z];rfl) (by rw[z,o];rfl) (by rw[z];rfl) (by rw[z,o];rfl)
 have hL:MS.fh A.n (s.aD j x s.sh) s:=ul d (by rw[z,o];simp[aW.bU])
 have Y:=v.bu (x:=x) (sh:=s.sh) (w':=w) d (by rw[z];rfl) E r ⟨⟨A.b+j,g.frame.fn,g.frame.place,.mark (.releaseMerge ⟨A.gb,0,none⟩)⟩,by rw[ofEvents_eq];simp[MemAct.ofEvent],rfl,rfl⟩ D (by rw[z,o];rfl) hI v.mu (λ_ _=>rfl) v.rR y3
 have a7:Beside (bM P A Fin Z F) s (s.aD j x s.sh) f f q (upd q (A.b+j) k) kk kk OO OO J (λl=>J l/\l≠A.b+j) w (A.b+j) g g1:=rT F d (by rw[z,o];rfl) (λi hi=>rfl) (λi hi=>upd_ne q k hi) (λ_ _ _=>rfl) (λ_ _ _=>rfl) (λ_ hn h=>⟨h,hn⟩) (.inl λh=>h) (λ{i k O y} K=>B.jX (s:=s) (i:=i) (k:=k) (O:=O) (g:=y) K)
 refine⟨_,_,L,s.aD j x s.sh,f,upd q (A.b+j) k,kk,OO,(λl=>J l/\l≠A.b+j),(λp=>M p\/p=t.size),_,_,_,rfl,hL,?_⟩
 refine bg.step B R hg N hP Y (λl y hl K=>B.qI v hl _ _ K) a7 ⟨λhl=>absurd hl (i6 d m),λ_=>⟨i6 d m,?_,?_,g2,?_,?_⟩,λhh=>absurd hh (nj d m),λ_ hn _=>absurd (kC d m) hn⟩
 . show A.b+j<A.b+A.n+1;omega
 . rw[Deaf_own,r]
   show _=cd P A (s.aD j x s.sh) (A.b+j);rw[dB d,m];rfl
 . refine .inr (.inl ⟨j,d,rfl,?_⟩)
   rw[m];exact⟨fw,fn,tmps,todo,U,G,K⟩
 . exact .inr (by rw[upd_same];exact H)
end
structure dK{P:Program}(A:dk)(s s':MS P)(i:Nat):Prop where
 w:∀l,l<A.n->A.b+l≠i->s'.w l=s.w l
 c:i≠A.b+A.n->s'.c=s.c
 ms:i≠0->s'.ms=s.ms
 sp:s'.sp=s.sp
 fH:∀l,l<A.n->(s'.w l).fH=(s.w l).fH
section
variable{P:Program}{A:dk}{Fin:ag->ah->Goroutine->Prop}{Z:Base}{s s':MS P}{f f':Nat->Node P}{q q':Nat->Nat}{kk kk':Nat->ag}{OO OO':Nat->ah}{J J' M:Nat->Prop}{gs:Array Goroutine}{gsz:Nat}{w w':World}{t u:Trace}{i:Nat}{g g1:Goroutine}
theorem dK.rem(h:dK A s s' i):MS.rem P A.n s'=MS.rem P A.n s:=by
 unfold MS.rem;refine List.filter_congr λl a=>?_
 rw[h.fH l (List.mem_range.1 a)]
theorem dK.live(h:dK A s s' i){j:Nat}(d:j≠i):cL P A s' j↔cL P A s j:=by
 constructor<;>rintro(⟨b,a⟩|⟨l,a,f,g⟩|⟨b,a⟩)
 . exact .inl ⟨b,by rw[<-h.ms (λe=>d (b.trans e.symm))];exact a⟩
 . exact .inr (.inl ⟨l,a,f,by rw[<-h.w l a (λe=>d (f.trans e))];exact g⟩)
 . exact .inr (.inr ⟨b,by rw[<-h.c (λe=>d (b.trans e.symm))];exact a⟩)
 . exact .inl ⟨b,by rw[h.ms (λe=>d (b.trans e.symm))];exact a⟩
 . exact .inr (.inl ⟨l,a,f,by rw[h.w l a (λe=>d (f.trans e))];exact g⟩)
 . exact .inr (.inr ⟨b,by rw[h.c (λe=>d (b.trans e.symm))];exact a⟩)
theorem dK.walk(h:dK A s s' i){j:Nat}(d:j≠i):dV P A s' j↔dV P A s j:=by
 constructor<;>rintro(⟨b,a⟩|⟨l,a,f,g⟩|⟨b,a⟩)
 . exact .inl ⟨b,by rw[<-h.ms (λe=>d (b.trans e.symm))];exact a⟩
 . exact .inr (.inl ⟨l,a,f,by rw[<-h.w l a (λe=>d (f.trans e))];exact g⟩)
 . exact .inr (.inr ⟨b,by rw[<-h.c (λe=>d (b.trans e.symm))];exact a⟩)
 . exact .inl ⟨b,by rw[h.ms (λe=>d (b.trans e.symm))];exact a⟩
 . exact .inr (.inl ⟨l,a,f,by rw[h.w l a (λe=>d (f.trans e))];exact g⟩)
 . exact .inr (.inr ⟨b,by rw[h.c (λe=>d (b.trans e.symm))];exact a⟩)
theorem dK.held(h:dK A s s' i){j:Nat}(b:j≠i):dz P A s' j↔dz P A s j:=by
 constructor<;>rintro(⟨c,a⟩|⟨l,a,d,f⟩)
 . exact .inl ⟨c,by rw[<-h.ms (λe=>b (c.trans e.symm))];exact a⟩
 . exact .inr ⟨l,a,d,by rw[<-h.w l a (λe=>b (d.trans e))];exact f⟩
 . exact .inl ⟨c,by rw[h.ms (λe=>b (c.trans e.symm))];exact a⟩
 . exact .inr ⟨l,a,d,by rw[h.w l a (λe=>b (d.trans e))];exact f⟩
theorem um(K:A.b+A.n+1<=Z.lk)(t:dK A s s' i)(L:∀j,j≠i->f' j=f j)(M:∀j,j≠i->q' j=q j)(N:∀j,j≠i->j<A.b+A.n+1->kk' j=kk j)(Q:∀j,j≠i->j<A.b+A.n+1->OO' j=OO j)(R:∀j,j≠i->J j->J' j)
 (p:((s.sh.ms=0->s'.sh.ms=0)/\(s.gm=0->s'.gm=0))\/(mayWake P g=true/\(g1.status=.running\/g1.status=.finished))) (S:∀{i k O y},Ob P A Fin s i k O y->y.status=.running/\y.offers=none):
 Beside (bM P A Fin Z K) s s' f f' q q' kk kk' OO OO' J J' w' i g g1:=by
 have hb:=A.hb;have u:=t.rem;have wl:∀{j l:Nat},l<A.n->j≠i->j=A.b+l->s'.w l=s.w l:=λ{j l} G a e=>t.w l G (λh=>a (e.trans h))
 have v:∀{j:Nat},j≠i->j=0->s'.ms=s.ms:=λa e=>t.ms (λh=>a (e.trans h.symm))
 have D:∀{j:Nat},j≠i->j=A.b+A.n->s'.c=s.c:=λa e=>t.c (λh=>a (e.trans h.symm))
 refine⟨L,M,N,Q,λj a _ h=>R j a h,λj a=>t.live a,λj a=>t.walk a,λj a=>t.held a,λj a G=>?_,λj k O y a _ H=>?_,λj a I=>?_,λj a I hd=>?_,λj k O y a _ H=>?_,λj y a _ T=>?_⟩
 . show bm P A Fin s' j=bm P A Fin s j
   unfold bm;rw[u]
   rcases G with⟨d,_⟩|⟨l,m,o,_⟩|⟨d,_⟩
   . simp only[if_pos d,v a d]
   . have e:j-A.b=l:=by omega
     have x:¬j=0:=by omega
     have B:j<A.b+A.n:=by omega
     simp only[if_neg x,if_pos B,e,wl m a o]
   . have x:¬j=0:=by omega
     have B:¬j<A.b+A.n:=by omega
     simp only[if_neg x,if_neg B,D a d]
 . rcases H with⟨d,h⟩|⟨l,m,o,r⟩|⟨d,h⟩
   . exact .inl ⟨d,by rw[v a d];exact h⟩
   . exact .inr (.inl ⟨l,m,o,by rw[wl m a o];exact r⟩)
   . exact .inr (.inr ⟨d,by rw[D a d];exact h⟩)
 . show cd P A s' j=cd P A s j
   unfold cd
   rcases I with⟨d,_⟩|⟨l,m,o,_⟩|⟨d,_⟩
   . simp only[if_pos d,v a d]
   . have e:j-A.b=l:=by omega
     have x:¬j=0:=by omega
     have B:j<A.b+A.n:=by omega
     simp only[if_neg x,if_pos B,e,wl m a o]
   . have x:¬j=0:=by omega
     have B:¬j<A.b+A.n:=by omega
     simp only[if_neg x,if_neg B,D a d]
 . rcases p with⟨p,C⟩|⟨U,u⟩
   . refine .inl ?_
     rcases hd with⟨l,sv,Y,m,o,r,E⟩|⟨d,r,E⟩
     . exact .inl ⟨l,sv,Y,m,o,by rw[wl m a o];exact r,p E⟩
     . exact .inr ⟨d,by rw[D a d];exact r,C E⟩
   . refine .inr λy V=>?_
     obtain⟨W,a2⟩:=S V;have D:(mayWake P g && g1.status !=.blocked && g1.status !=.waiting)=true:=by rcases u with u|u<;>rw[U,u]<;>rfl
     unfold Go.Conc.woken;rw[if_pos D,nL W a2]
 . rcases H with⟨d,F,z,m,o,r,E⟩|h
   . exact .inl ⟨d,F,z,m,o,r,by rw[u];exact E⟩
   . exact .inr h
 . exact λl b X m o r=>T l b X m o (by rw[<-r];exact(wl m a o).symm)
theorem oV{c:iv}:c.dp=true↔c=.gone:=by cases c<;>simp[iv.dp]
theorem mj{c:iv}:c.isNone=true↔c=.none:=by cases c<;>simp[iv.isNone]
theorem cz.Om{M':Nat->Prop}(h:cz P A Z s kk OO J M gsz w t)(R:dK A s s' i)(o:∀l,l<A.n->(s'.w l).owns=(s.w l).owns)(v:s'.c.dp=s.c.dp)(d:s'.c.isNone=s.c.isNone)
 (S:∀p,M' p->M p) (T:s.c=.gone->∀p,M p->M' p) (U:(∃p,M' p)->(s.c=.none\/s.c=.dH\/∃q,s.c=.wt q)->(s'.c=.none\/s'.c=.dH\/∃q,s'.c=.wt q)) (E:∀i,dW P A s' i↔dW P A s i) (hI:bs A.n s') (V:s'.sh=s.sh) (W:oq A.gb w' s'.gc s'.gv s'.gm) (X:MW A.gb 0 w w')
 (Y:∀op∈u,(∀a,op.act.touch?=some a->a.kind=.atomic\/(a.kind=.said/\op.g=(if s.c.isNone then 0 else A.b+A.n)))/\∀a,op.act≠.mark (.release a)):cz P A Z s' kk OO J M' gsz w' (t++u):=by
 obtain⟨m1,m2,c,e,c',m3,m4,_⟩:=kB X h.vH
 have C:∀i,bt P A s' i->bt P A s i:=λi F=>by
  rcases F with h0|⟨j,k,z⟩|⟨k,z⟩
  . exact .inl h0
  . exact .inr (.inl ⟨j,by rw[<-R.sp];exact k,z⟩)
  . refine .inr (.inr ⟨k,λe=>z ?_⟩)
    exact mj.1 (by rw[d];exact mj.2 e)
 have G:∀i,bt P A s i->bt P A s' i:=λi F=>by
  rcases F with h0|⟨j,k,z⟩|⟨k,z⟩
  . exact .inl h0
  . exact .inr (.inl ⟨j,by rw[R.sp];exact k,z⟩)
  . refine .inr (.inr ⟨k,λe=>z ?_⟩)
    exact mj.1 (by rw[<-d];exact mj.2 e)
 have H:s'.c=.gone↔s.c=.gone:=by rw[<-oV,<-oV,v]
 refine⟨hI,by rw[R.sp,d];exact h.size,by rw[m2 _ A.d2,v];exact h.vq,by rw[V];exact h.mu.same (.of_heap (m2 _ A.d4)),W,by rw[m2 _ A.d4];exact h.rR,⟨c',e,m4⟩,h.ew,h.dg,λi y hy=>?_,λl B I=>h.ug l B (by rw[<-o l B];exact I),λI=>h.GN λl B=>by rw[<-o l B];exact I l B,λc Q=>?_,
  λi=>by rw[h.hJ i];exact(E i).symm,λp hp=>?_,λQ=>(by obtain⟨p,k,z,r⟩:=h.jy u (H.1 Q);exact⟨p,T (H.1 Q) p k,z,r⟩),λm a N hs D i F=>h.hQ u (λop K a N _ D=>?_) m a N hs D i (C i F),λm a N hs D=>?_,λi F=>h.mh u i (C i F),h.fQ u (λop K=>(Y op K).2),λi a7 hn=>h.zt i a7 (λhb=>hn (G i hb)),h.oO,h.iB,h.dA,h.la,by simp;exact Nat.le_trans h.n0 (Nat.le_add_right _ _)⟩
 . obtain⟨l,f,r,L,h5,h6⟩:=h.tok i y hy
   exact⟨l,f,r,L,by rw[o l r];exact h5,h6⟩
 . obtain⟨r,L⟩:=h.FK c Q
   exact⟨r,λl B=>by rw[o l B];exact L l B⟩
 . obtain⟨k,z,r⟩:=h.pQ u p (S p hp)
   refine⟨k,z,?_⟩;rcases r with⟨r,L⟩|⟨r,L⟩
   . exact .inl ⟨r,U ⟨p,hp⟩ L⟩
   . exact .inr ⟨H.2 r,L⟩
 . rcases(Y op K).1 a N with k|⟨k,_⟩<;>rw[k]at D<;>cases D
 . rw[d]
   obtain⟨x,hx,O⟩:=touch_of N;rcases getElem?_append_cases hx with⟨B,a8⟩|⟨_,a9⟩
   . exact(h.said m a (by rw[touchAt_of a8];exact O) hs D).app u
   . rcases(Y x a9).1 a O with k|⟨_,k⟩
     . rw[k]at D;cases D
     . rw[<-k];exact⟨m,x,hx,rfl,.inl rfl⟩
theorem cz.SA(h:cz P A Z s kk OO J M gsz w t)(r:dK A s s' i)(j:∀l,l<A.n->(s'.w l).owns=(s.w l).owns)(d:s'.c.dp=s.c.dp)(e:s'.c.isNone=s.c.isNone)
 (k:(s.c=.none\/s.c=.dH\/∃q,s.c=.wt q)->(s'.c=.none\/s'.c=.dH\/∃q,s'.c=.wt q)) (f:∀i,dW P A s' i↔dW P A s i) (v:bs A.n s') (m:s'.sh=s.sh) (o:oq A.gb w' s'.gc s'.gv s'.gm) (p:MW A.gb 0 w w')
 (x:∀op∈u,(∀a,op.act.touch?=some a->a.kind=.atomic\/(a.kind=.said/\op.g=(if s.c.isNone then 0 else A.b+A.n)))/\∀a,op.act≠.mark (.release a)):cz P A Z s' kk OO J M gsz w' (t++u):=
 h.Om r j d e (λ_ h=>h) (λ_ _ h=>h) (λ_=>k) f v m o p x
def LV(b:Nat)(es:Array Event):Prop:=∀e∈es,((e.loc=.mark .disable\/e.loc=.mark .enable)\/∃i,(i=0\/i=0+1)/\e.loc=.cell ⟨b,i,none⟩/\e.sync=true)\/∃i,(i=0\/i=1)/\(e.loc=.mark (.read ⟨b,i,none⟩)\/e.loc=.mark (.write ⟨b,i,none⟩))
theorem LW{b:Nat}{es:Array Event}(h:EvM b 0 es):LV b es:=λe a=>.inl (h e a)
def GV(kk:Nat->ag)(OO:Nat->ah)(B:Nat)(t:Trace)(i:Nat)(u:Trace):Prop:=∀op∈u,∀a,op.act.touch?=some a->(a.kind=.atomic\/a.kind=.said)/\(a.loc.isMemory=true->Gb kk OO B a.loc)/\∀n b,touchAt t n=some b->b.loc=a.loc->(b.kind=.plain\/(a.kind=.said/\b.kind=.said))->Knows t i n
theorem bL.GT(h:bL Z kk OO J M w t)(f:∀op∈u,op.g=i)(A:w'.heap.size=w.heap.size)(B:Calm Z w w')(hb:∀b,Kept kk OO w w' b)(C:∀op∈u,op.act.low w.heap.size)(q:GV kk OO w.heap.size t i u)
 (o:∀m op a,u[m]?=some op->op.act.touch?=some a->a.loc.isMemory=true->Told Z J M (t++u) (t.size+m) a):bL Z kk OO J M w' (t++u):=
 h.qF (λa b=>a=b) A B hb C (λa b e n x _ _ _ D=>by subst e;exact D.app u) (λj b n v h=>⟨j,rfl,h⟩) (λj b s h=>⟨j,rfl,h⟩) (λj b x h=>⟨j,rfl,h,λ_ h=>h⟩) h.gY
  (fun said=>noRace_append (h.clean said) f λn a k op d b hb E=>by
    obtain⟨c,l,r⟩:=q op d b hb;obtain⟨y,_,_,c4⟩:=E;rcases c4 with c4|c4|⟨_,c4,F⟩
    . exact r n a k y (.inl c4)
    . rcases c with c|c<;>rw[c]at c4<;>cases c4
    . exact r n a k y (.inr ⟨F,c4⟩))
  (λop d a k z=>(q op d a k).2.1 z) o
  (λn a k z h=>h.elim (λ⟨j,c,l⟩=>.inr (.inl ⟨j,c,l.app _⟩)) (λ⟨p,c,l⟩=>.inr (.inr (.inl ⟨p,c,l.app _⟩))))
theorem lF{b:Nat}{e:Event}(he:((e.loc=.mark .disable\/e.loc=.mark .enable)\/∃i,(i=0\/i=0+1)/\e.loc=.cell ⟨b,i,none⟩/\e.sync=true)\/∃i,(i=0\/i=1)/\(e.loc=.mark (.read ⟨b,i,none⟩)\/e.loc=.mark (.write ⟨b,i,none⟩))):
 (∀a,(MemAct.ofEvent e).touch?=some a->(a.kind=.atomic\/a.kind=.said)/\∃i,(i=0\/i=1)/\a.loc=.cell ⟨b,i,none⟩)/\(∀a,MemAct.ofEvent e≠.mark (.release a))/\∀B,b<B->(MemAct.ofEvent e).low B:=by
 rcases he with he|⟨i,f,he⟩
 . obtain⟨d,g,h⟩:=lD he
   exact⟨λa c=>⟨.inl (d a c).1,by simpa using(d a c).2⟩,g,h⟩
 . obtain⟨loc,wr,k⟩:=e
   rcases he with he|he<;>simp only at he<;>subst he
   all_goals
    refine⟨λa c=>?_,by simp[MemAct.ofEvent],λB j=>by simpa[MemAct.ofEvent,MemAct.low]using j⟩;simp only[MemAct.ofEvent,MemAct.touch?,Option.some.injEq]at c;subst c;exact⟨.inr rfl,i,f,rfl⟩
theorem yd(L:A.b+A.n+1<=Z.lk)(hC:bg (bM P A Fin Z L) Z s f q kk OO J M gs w t)(R:bt P A s i)(a8:¬dz P A s i)(hg:gs[i]?=some g){es:Array Event}(a9:stepG P (i==0) g w=.go g1 w' es)
 (hS:dK A s s' i) (S:∀l,l<A.n->(s'.w l).owns=(s.w l).owns) (F:s'.c.dp=s.c.dp) (G:s'.c.isNone=s.c.isNone) (ad:(s.c=.none\/s.c=.dH\/∃q,s.c=.wt q)->(s'.c=.none\/s'.c=.dH\/∃q,s'.c=.wt q)) (H:∀i,dW P A s' i↔dW P A s i)
 (hI:bs A.n s') (T:s'.sh=s.sh) (al:oq A.gb w' s'.gc s'.gv s'.gm) (C:MW A.gb 0 w w') (r:EvM A.gb 0 es\/(LV A.gb es/\i=(if s.c.isNone then 0 else A.b+A.n))) (hL:MS.fh A.n s' s)
 (hT:(i=0\/J i)\/(EvM A.gb 0 es/\∀(m:Nat) (op:MemOp) (a:Touch),(MemOp.ofEvents i g.frame.fn g.frame.place es)[m]?=some op->op.act.touch?=some a->Z.Shun a.loc->a.kind=.atomic->Told Z J M (t++MemOp.ofEvents i g.frame.fn g.frame.place es) (t.size+m) a))
 (U:(s.gm=0->s'.gm=0)\/(mayWake P g=true/\(g1.status=.running\/g1.status=.finished))) (hf:∀j,j≠i->f' j=f j) (hq:∀j,j≠i->q' j=q j)
 (hs:Self P (bM P A Fin Z L) s' f' q' kk OO J (t++MemOp.ofEvents i g.frame.fn g.frame.place es) i g1) (sl:Option (Nat × Nat)):Goes P A Fin Z L s gs w t sl i:=by
 have D:cz P A Z s kk OO J M gs.size w t:=hC.ex;have B:=aR (P:=P) (A:=A) (Fin:=Fin) (Z:=Z) L;have V:=runT_crowd_go (P:=P) (sl:=sl) (i:=i) hg a9;have hG:A.gb<w.heap.size:=by obtain⟨c,e,z⟩:=D.vH;exact(Array.getElem?_eq_some_iff.1 z).1
 have o:LV A.gb es:=r.elim LW (·.1);have p:∀op∈MemOp.ofEvents i g.frame.fn g.frame.place es,op.g=i:=λop d=>by obtain⟨e,_,rfl⟩:=Go.Conc.mem_ofEvents d;rfl
 have v:∀op∈MemOp.ofEvents i g.frame.fn g.frame.place es,∀a,op.act.touch?=some a->a.kind=.atomic\/(a.kind=.said/\op.g=(if s.c.isNone then 0 else A.b+A.n)):=λop d a I=>by
  obtain⟨e,u,rfl⟩:=Go.Conc.mem_ofEvents d
  rcases r with r|⟨_,hi⟩
  . exact .inl ((lD (r e u)).1 a I).1
  . rcases((lF (o e u)).1 a I).1 with h|h
    . exact .inl h
    . exact .inr ⟨h,hi⟩
 have y1:GV kk OO w.heap.size t i (MemOp.ofEvents i g.frame.fn g.frame.place es):=λop d a I=>by
  have x:=v op d a I;have ax:=p op d;obtain⟨e,u,rfl⟩:=Go.Conc.mem_ofEvents d;obtain⟨z,n,hn,E⟩:=(lF (o e u)).1 a I;have W:GM A a.loc:=by rw[E];exact⟨rfl,.inr ⟨rfl,hn⟩⟩
  refine⟨z,λ_=>by rw[E];exact D.Lh hn,λm b hb N Q=>?_⟩
  rcases Q with Q|⟨X,av⟩
  . exact D.quiet m b hb (by rw[N];exact W) Q i R
  . have h5:=D.said m b hb (by rw[N];exact W) av
    rcases x with x|⟨_,x⟩
    . rw[x]at X;cases X
    . rw[<-x]at h5;exact h5
 have y2:∀op∈MemOp.ofEvents i g.frame.fn g.frame.place es,op.act.low w.heap.size:=λop d=>by obtain⟨e,u,rfl⟩:=Go.Conc.mem_ofEvents d;exact(lF (o e u)).2.2 _ hG
 have y3:∀op∈MemOp.ofEvents i g.frame.fn g.frame.place es,(∀a,op.act.touch?=some a->a.kind=.atomic\/(a.kind=.said/\op.g=(if s.c.isNone then 0 else A.b+A.n)))/\∀a,op.act≠.mark (.release a):=λop d=>⟨v op d,by obtain⟨e,u,rfl⟩:=Go.Conc.mem_ofEvents d;exact(lF (o e u)).2.1⟩
 have y4:∀op∈MemOp.ofEvents i g.frame.fn g.frame.place es,∀a,op.act.touch?=some a->Z.Shun a.loc:=λop d a I=>by obtain⟨e,u,rfl⟩:=Go.Conc.mem_ofEvents d;obtain⟨z,n,hn,E⟩:=(lF (o e u)).1 a I;rw[E];exact D.oO _ ⟨rfl,.inr ⟨rfl,hn⟩⟩ ⟨_,rfl,rfl⟩
 obtain⟨m1,m2,c,e,c',m3,m4,_⟩:=kB C D.vH
 have hP:=hC.bN.GT (i:=i) p m1 (D.Ok C) (D.Ol C) y2 y1 (λm op a z E _=>by
  rcases hT with hJ|⟨r,hT⟩
  . have Q:Knows (t++MemOp.ofEvents i g.frame.fn g.frame.place es) i (t.size+m):=knows_own z (p op (Array.mem_of_getElem? z))
    rcases hJ with rfl|hJ
    . exact .inl Q
    . exact .inr (.inl ⟨i,hJ,Q⟩)
  . refine hT m op a z E (y4 op (Array.mem_of_getElem? z) a E) ?_
    obtain⟨e,u,rfl⟩:=Go.Conc.mem_ofEvents (Array.mem_of_getElem? z);exact((lD (r e u)).1 a E).1)
 have Y:cz P A Z s' kk OO J M gs.size w' (t++MemOp.ofEvents i g.frame.fn g.frame.place es):=D.SA hS S F G ad H hI T al C y3
 have K:Beside (bM P A Fin Z L) s s' f f' q q' kk kk OO OO J J w' i g g1:=um L hS hf hq (λ_ _ _=>rfl) (λ_ _ _=>rfl) (λ_ _ h=>h) (U.imp (λh=>⟨λh0=>by rw[T];exact h0,h⟩) id) (λ{i k O y} hA=>B.jX (s:=s) (i:=i) (k:=k) (O:=O) (g:=y) hA)
 refine⟨_,_,V,s',f',q',kk,OO,J,M,_,_,_,rfl,hL,?_⟩;refine bg.step B hC hg p hP Y (λl y N hA=>?_) K hs
 have a7:l≠i:=λe=>a8 (e ▸ N)
 exact B.qI Y ((K.held l a7).2 N) _ _ (K.LS l _ _ _ a7 N hA)
theorem C2{g:Nat}:∀m,m<=u.size->(∀l op,l<m->u[l]?=some op->op.act≠.mark .enable)->Deaf t g<=(t++u).deaf g (t.size+m)
 |0,_,_=>by show Deaf t g<=(t++u).deaf g t.size;rw[deaf_old (Nat.le_refl _)];exact Nat.le_refl _
 | m+1,h,a=>by
   have b:m<u.size:=by omega
   have c:(t++u)[t.size+m]?=some u[m]:=by rw[Array.getElem?_append_right (by omega)];simp[b]
   have d:=C2 (g:=g) m (by omega) (λl op f=>a l op (by omega))
   rw[<-Nat.add_assoc,deaf_succ c];have:=a m u[m] (by omega) (by simp[b])
   unfold deafStep;split
   . split<;>omega
   . next e=>exact absurd e this
   . exact d
theorem BC{es:Array Event}{fn:FuncId}{pos:String}(hd:1<=Deaf t i)(r:∀(m:Nat) (op:MemOp) (a:Touch),(MemOp.ofEvents i fn pos es)[m]?=some op->op.act.touch?=some a->∀(l:Nat) (b:MemOp),l<m->(MemOp.ofEvents i fn pos es)[l]?=some b->b.act≠.mark .enable):∀(m:Nat) (op:MemOp) (a:Touch),(MemOp.ofEvents i fn pos es)[m]?=some op->op.act.touch?=some a->Z.Shun a.loc->a.kind=.atomic->Told Z J M (t++MemOp.ofEvents i fn pos es) (t.size+m) a:=λm op a d j s q=>by
 refine DY (i:=i) d j s q λv=>?_
 obtain⟨x,f,_,c⟩:=v;rw[act?_of (cC d)]at f;have f:op.act.touch?=some x:=f;rw[j]at f;obtain rfl:=Option.some.inj f;rcases c with c|⟨k,h,w⟩
 . exact c q
 . have n:op.g=i:=by obtain⟨e,_,rfl⟩:=Go.Conc.mem_ofEvents (Array.mem_of_getElem? d);rfl
   have:k=i:=by
    have o:(t++MemOp.ofEvents i fn pos es).g? (t.size+m)=some op.g:=by simp[Trace.g?,cC d]
    rw[o]at h;rw[<-n];exact(Option.some.inj h).symm
   subst this;have z:=(Array.getElem?_eq_some_iff.1 d).1;have:=C2 (t:=t) (u:=MemOp.ofEvents k fn pos es) (g:=k) m (by omega) (λl b y p=>r m op _ d j l b y p);omega
end
end Go.bG
namespace Go.bG
open Go.Conc
open Go.ConcN (sumTo upd sumTo_upd upd_ne upd_same)
variable{P:Program}
def MS.fJ(s:MS P)(j:Nat)(x:aW P)(gc gv gm:Nat):MS P:={s with w:=λi=>if i=j then x else s.w i,gc:=gc,gv:=gv,gm:=gm}
section
variable{s:MS P}{j n:Nat}{x:aW P}{gc gv gm:Nat}
theorem bj:(s.fJ j x gc gv gm).w j=x:=by simp[MS.fJ]
theorem cM{i:Nat}(h:i≠j):(s.fJ j x gc gv gm).w i=s.w i:=by simp[MS.fJ,h]
theorem JW:(λi=>((s.fJ j x gc gv gm).w i).pc)=Mu.set (λi=>(s.w i).pc) j x.pc:=by
 funext i;by_cases h:i=j
 . subst h;rw[bj,Mu.an]
 . rw[cM h,Mu.aj _ _ h]
theorem zI(F:aW P->Nat)(a:j<n):sumTo n (λi=>F ((s.fJ j x gc gv gm).w i))+F (s.w j)=sumTo n (λi=>F (s.w i))+F x:=by
 have e:(λi=>F ((s.fJ j x gc gv gm).w i))=upd (λi=>F (s.w i)) j (F x):=by
  funext i;by_cases h:i=j
  . subst h;rw[bj,upd_same]
  . rw[cM h,upd_ne _ _ h]
 rw[e];have:=sumTo_upd (λi=>F (s.w i)) (F x) id a;simpa using this
theorem bs.On(I:bs n s)(f:j<n){p:sP}(d:s.w j=.dn p)(b:x.ok=true)(g:x.gZ=false)(k:x≠.wait)(m:x.pc=.out)
 (F:gc+(s.w j).cnt=s.gc+x.cnt) (t:gv<=1) (o:gv=1->s.c.waits=true/\gm=0)
 (u:∀i,i<n->((s.fJ j x gc gv gm).w i=.dn .d5\/(s.fJ j x gc gv gm).w i=.dn .d6)->gv=1/\gc=0)
 (q:∀i l,i<n->l<n->((s.fJ j x gc gv gm).w i).last=true->((s.fJ j x gc gv gm).w l).last=true->i=l)
 (v:∀i,i<n->(s.fJ j x gc gv gm).w i=.dn .d7->gv=0/\gc=0/\gm=0/\s.c.waits=true)
 (y:gm<=1/\(gm=1->s.c.waits=true/\gv=0/\gc=0/\∀i,i<n->((s.fJ j x gc gv gm).w i).last=false))
 (z:s.c.waits=true->gv=0->gm=0->∃i,i<n/\(s.fJ j x gc gv gm).w i=.dn .d7)
 (A:gv=1->gc=0->∃i,i<n/\((s.fJ j x gc gv gm).w i=.dn .d5\/(s.fJ j x gc gv gm).w i=.dn .d6)):bs n (s.fJ j x gc gv gm):=by
 refine⟨?_,t,o,u,q,v,y,z,A,λh=>?_,I.g9,λi a=>?_,I.LO,I.sp,λi a=>?_,?_,λh i a=>?_,?_⟩
 . have r:=zI (s:=s) (x:=x) (gc:=gc) (gv:=gv) (gm:=gm) aW.cnt f
   have:=I.g1;show gc=sumTo n (λi=>((s.fJ j x gc gv gm).w i).cnt)+s.ms.pend;omega
 . have:=(I.g8 h).2.2.2 j f
   rw[d]at this;cases this
 . by_cases e:i=j
   . subst e;rw[bj];exact b
   . rw[cM e];exact I.ok i a
 . by_cases e:i=j
   . subst e
     rw[bj,g];have:=I.idle i a;rw[d]at this;exact this
   . rw[cM e];exact I.idle i a
 . have:=I.ms
   show match s.ms with
   |.add l=>s.sp+l=n/\s.c=.none
   |.bb l p=>s.sp+l=n/\s.c=.none/\1<=l/\(p=.a0\/p=.a2\/p=.a4\/p=.ae)
   |.spawn l=>s.sp+l+1=n/\s.c=.none
   |.recv=>s.sp=n/\s.c≠.none
   |.parked=>s.sp=n/\s.c≠.none/\s.c≠.gone/\∀i,i<n->(s.fJ j x gc gv gm).w i≠.wait
   cases e:s.ms with
   | parked=>
     rw[e]at this;obtain⟨B,C,D,E⟩:=this;refine⟨B,C,D,λi a=>?_⟩;by_cases e:i=j
     . subst e;rw[bj];exact k
     . rw[cM e];exact E i a
   |_=>rw[e]at this;exact this
 . have:=I.early h j f
   rw[d]at this;cases this
 . rw[JW,m]
   have e:=jZ (λi=>(s.w i).pc) j;rw[show(s.w j).pc=.out by rw[d];rfl]at e;rw[e];exact I.mu
inductive ye(s:MS P):sP->aW P->Nat->Nat->Nat->Prop
 |P8:s.gc=1->s.gv=1->ye s .d4 (.dn .d5) 0 1 s.gm
 |d4 (k:Nat):s.gc=k+1 -> ¬(k=0/\s.gv=1)->ye s .d4 .gone k s.gv s.gm
 |d5:ye s .d5 (.dn .d6) s.gc s.gv s.gm
 |d6:ye s .d6 (.dn .d7) s.gc 0 s.gm
 |d7:ye s .d7 .gone s.gc s.gv (s.gm+1)
theorem bs.done(I:bs n s)(m:j<n){p:sP}(c:s.w j=.dn p)(h:ye s p x gc gv gm):bs n (s.fJ j x gc gv gm):=by
 have GW:∀{i:Nat},(s.w i).last=true->s.w i=.dn .d5\/s.w i=.dn .d6\/s.w i=.dn .d7:=λ{i} h=>by
  cases e:s.w i with
  |dn p=>cases p<;>simp_all [aW.last]
  |_=>rw[e]at h;simp[aW.last]at h
 have d:∀{i:Nat},i<n->(s.w i).last=true->s.gc=0:=λ{i} a h=>by
  rcases GW h with h|h|h
  . exact(I.g3 i a (.inl h)).2
  . exact(I.g3 i a (.inr h)).2
  . exact(I.g4 i a h).2.1
 cases h with
 | P8 v y=>
   refine I.On m c rfl rfl (by simp) rfl (by rw[c,v];rfl) (by omega) (λ_=>I.pP y) (λi a h=>⟨rfl,rfl⟩) (λi l a o h f=>?_) (λi a h=>?_) ⟨I.g5.1,λh=>?_⟩ (λ_ h=>by omega) (λ_ _=>⟨j,m,.inl bj⟩)
   . by_cases e:i=j
     . by_cases t:l=j
       . rw[e,t]
       . rw[cM t]at f;have:=d o f;omega
     . rw[cM e]at h;have:=d a h;omega
   . by_cases e:i=j
     . subst e;rw[bj]at h;cases h
     . rw[cM e]at h;have:=(I.g4 i a h).2.1;omega
   . have:=(I.g5.2 h).2.1;omega
 | d4 k v y=>
   refine I.On m c rfl rfl (by simp) rfl (by rw[c,v];rfl) I.g2 I.pP (λi a h=>?_) (λi l a o h f=>?_) (λi a h=>?_) ⟨I.g5.1,λh=>?_⟩ (λh f z=>?_) (λh f=>absurd ⟨f,h⟩ y)
   . by_cases e:i=j
     . subst e;rw[bj]at h;rcases h with h|h<;>cases h
     . rw[cM e]at h;have:=(I.g3 i a h).2;omega
   . by_cases e:i=j
     . subst e;rw[bj]at h;cases h
     . rw[cM e]at h;have:=d a h;omega
   . by_cases e:i=j
     . subst e;rw[bj]at h;cases h
     . rw[cM e]at h;have:=(I.g4 i a h).2.1;omega
   . have:=(I.g5.2 h).2.2.1;omega
   . obtain⟨i,a,C⟩:=I.g6 h f z
     have:=(I.g4 i a C).2.1;omega
 | d5=>
   obtain⟨u,r⟩:=I.g3 j m (.inl c);obtain⟨q,A⟩:=I.pP u
   have g:∀{i:Nat},((s.fJ j (.dn .d6) s.gc s.gv s.gm).w i).last=(s.w i).last:=λ{i}=>by
    by_cases e:i=j
    . subst e;rw[bj,c];rfl
    . rw[cM e]
   refine I.On m c rfl rfl (by simp) rfl (by rw[c];rfl) I.g2 I.pP (λi a h=>⟨u,r⟩) (λi l a o h f=>?_) (λi a h=>?_) ⟨I.g5.1,λh=>?_⟩ (λh f=>by omega) (λ_ _=>⟨j,m,.inr bj⟩)
   . rw[g]at h f;exact I.pf i l a o h f
   . by_cases e:i=j
     . subst e;rw[bj]at h;cases h
     . rw[cM e]at h;exact I.g4 i a h
   . omega
 | d6=>
   obtain⟨u,r⟩:=I.g3 j m (.inr c);obtain⟨q,A⟩:=I.pP u;have o:(s.w j).last=true:=by rw[c];rfl
   have g:∀{i:Nat},((s.fJ j (.dn .d7) s.gc 0 s.gm).w i).last=(s.w i).last:=λ{i}=>by
    by_cases e:i=j
    . subst e;rw[bj,c];rfl
    . rw[cM e]
   refine I.On m c rfl rfl (by simp) rfl (by rw[c];rfl) (by omega) (λh=>by omega) (λi a h=>?_) (λi l a o h f=>?_) (λi a h=>⟨rfl,r,A,q⟩) ⟨I.g5.1,λh=>by omega⟩ (λ_ _ _=>⟨j,m,bj⟩) (λh=>by omega)
   . by_cases e:i=j
     . subst e;rw[bj]at h;rcases h with h|h<;>cases h
     . rw[cM e]at h
       have B:(s.w i).last=true:=by rcases h with h|h<;>rw[h]<;>rfl
       exact absurd (I.pf i j a m B o) e
   . rw[g]at h f;exact I.pf i l a o h f
 | d7=>
   obtain⟨D,r,A,q⟩:=I.g4 j m c;have o:(s.w j).last=true:=by rw[c];rfl
   have b:∀{i:Nat},i<n->((s.fJ j .gone s.gc s.gv (s.gm+1)).w i).last=false:=λ{i} a=>by
    by_cases e:i=j
    . subst e;rw[bj];rfl
    . rw[cM e]
      cases t:(s.w i).last with
      |false=>rfl
      |true=>exact absurd (I.pf i j a m t o) e
   refine I.On m c rfl rfl (by simp) rfl (by rw[c];rfl) I.g2 (λh=>by omega) (λi a h=>?_) (λi l a o h f=>?_) (λi a h=>?_) ⟨by omega,λh=>⟨q,D,r,λi a=>b a⟩⟩ (λ_ _ h=>by omega) (λh=>by omega)
   . have:=b a
     rcases h with h|h<;>rw[h]at this<;>cases this
   . rw[b a]at h;cases h
   . have:=b a
     rw[h]at this;cases this
theorem iv.LX(c:iv)(a b:Nat):c.bU a<=c.bU b+2:=by
 cases c with
 | wt p=>
   cases p with
   |w2 k=>simp only[iv.bU];split<;>split<;>omega
   |_=>simp[iv.bU]
 |_=>simp[iv.bU]
theorem DZ(d:j<n){p:sP}(e:s.w j=.dn p)(h:ye s p x gc gv gm):MS.fh n (s.fJ j x gc gv gm) s:=by
 have f:=zI (s:=s) (x:=x) (gc:=gc) (gv:=gv) (gm:=gm) aW.bU d;refine .inl ?_;show s.ms.bU+sumTo n (λi=>((s.fJ j x gc gv gm).w i).bU)+s.c.bU gc<s.ms.bU+sumTo n (λi=>(s.w i).bU)+s.c.bU s.gc;rw[e]at f;have:=iv.LX s.c gc s.gc;cases h with
 |P8 g l=>have a:(aW.dn (P:=P) .d4).bU=10:=rfl;have b:(aW.dn (P:=P) .d5).bU=4:=rfl;omega
 |d4 k g l=>have a:(aW.dn (P:=P) .d4).bU=10:=rfl;have b:(aW.gone (P:=P)).bU=0:=rfl;omega
 |d5=>have a:(aW.dn (P:=P) .d5).bU=4:=rfl;have b:(aW.dn (P:=P) .d6).bU=3:=rfl;omega
 |d6=>have a:(aW.dn (P:=P) .d6).bU=3:=rfl;have b:(aW.dn (P:=P) .d7).bU=2:=rfl;omega
 |d7=>have a:(aW.dn (P:=P) .d7).bU=2:=rfl;have b:(aW.gone (P:=P)).bU=0:=rfl;omega
end
end Go.bG
namespace Go.bG
open Go.Conc
open Go.ConcN (sumTo upd sumTo_upd upd_ne upd_same)
theorem uo{e:Event}(h:MemAct.ofEvent e=.mark .enable):e.loc=.mark .enable:=by
 obtain⟨loc,wr,a⟩:=e;cases loc with
 |mark m=>cases m<;>simp_all [MemAct.ofEvent]
 |cell b=>simp[MemAct.ofEvent]at h
 |obj r=>cases wr<;>cases a<;>simp[MemAct.ofEvent]at h
 |_=>simp[MemAct.ofEvent]at h
theorem kD{i:Nat}{fn:FuncId}{pos:String}{es:Array Event}(h:∀e∈es,e.loc≠.mark .enable):∀(m:Nat) (op:MemOp) (a:Touch),(MemOp.ofEvents i fn pos es)[m]?=some op->op.act.touch?=some a->∀(l:Nat) (b:MemOp),l<m->(MemOp.ofEvents i fn pos es)[l]?=some b->b.act≠.mark .enable:=λm op a _ _ l b _ c d=>by obtain⟨e,f,rfl⟩:=Go.Conc.mem_ofEvents (Array.mem_of_getElem? c);exact h e f (uo d)
theorem D5{i:Nat}{fn:FuncId}{pos:String}{ad:Addr}:∀(m:Nat) (op:MemOp) (a:Touch),(MemOp.ofEvents i fn pos (semEvents ad))[m]?=some op->op.act.touch?=some a->∀(l:Nat) (c:MemOp),l<m->(MemOp.ofEvents i fn pos (semEvents ad))[l]?=some c->c.act≠.mark .enable:=λm op a d f l c e b=>by
 rw[ofEvents_eq]at d b;simp only[semEvents]at d b
 match m,l,e with
 |0,l,e=>omega
 |1,0,_=>simp at b;subst b;simp[MemAct.ofEvent]
 |2,0,_=>simp at b;subst b;simp[MemAct.ofEvent]
 |2,1,_=>simp at b;subst b;simp[MemAct.ofEvent]
 |3,l,_=>simp at d;subst d;simp[MemAct.ofEvent,MemAct.touch?]at f
 |m+4,l,_=>simp at d
theorem mn:∀(n:Nat){F:Nat->Nat},(∀l,l<n->F l<=1)->sumTo n F<=n
 |0,_,_=>Nat.le_refl _
 | n+1,F,h=>by
   have a:=mn n (F:=F) (λl b=>h l (by omega));have c:=h n (by omega);simp only[sumTo];omega
section
variable{P:Program}{A:dk}{Fin:ag->ah->Goroutine->Prop}{Z:Base}{s:MS P}{f:Nat->Node P}{q:Nat->Nat}{kk:Nat->ag}{OO:Nat->ah}{J M:Nat->Prop}{gs:Array Goroutine}{w w':World}{t u:Trace}{j:Nat}{x:aW P}{gc gv gm:Nat}{g g1:Goroutine}
theorem BD{p:sP}(h:ye s p x gc gv gm):x.fH=true/\x.owns=false/\x.busy=false/\(aW.dn (P:=P) p).busy=false/\(aW.dn (P:=P) p).deaf=1/\(x=.gone\/∃a,x=.dn a/\x.deaf=1):=by cases h<;>simp[aW.fH,aW.owns,aW.busy,aW.deaf]
theorem pR(v:A.b+A.n+1<=Z.lk)(H:bg (bM P A Fin Z v) Z s f q kk OO J M gs w t)(d:j<A.n){p:sP}(k:s.w j=.dn p)(hg:gs[A.b+j]?=some g){es:Array Event}(K:stepG P false g w=.go g1 w' es)(L:ye s p x gc gv gm)
 (N:oq A.gb w' gc gv gm) (O:MW A.gb 0 w w') (y:EvM A.gb 0 es) (Q:deafBehind 1 es=1)
 (ha:∀(m:Nat) (op:MemOp) (a:Touch),(MemOp.ofEvents (A.b+j) g.frame.fn g.frame.place es)[m]?=some op->op.act.touch?=some a->∀(l:Nat) (z:MemOp),l<m->(MemOp.ofEvents (A.b+j) g.frame.fn g.frame.place es)[l]?=some z->z.act≠.mark .enable)
 (B:(s.gm=0->gm=0)\/(mayWake P g=true/\(g1.status=.running\/g1.status=.finished)))
 (hs:(∃F,x=.dn F/\∃n G,iV P (jJ A) n g1 G/\DU P A j (.dn F) (kk (A.b+j)) (OO (A.b+j)) G)\/(x=.gone/\∃m,QuitsD P m 1 g1)) (sl:Option (Nat × Nat)):Goes P A Fin Z v s gs w t sl (A.b+j):=by
 have X:cz P A Z s kk OO J M gs.size w t:=H.ex;have hb:=A.hb;have R:(A.b+j==0)=false:=by simp;omega
 obtain⟨f1,f2,f3,f4,f5,C⟩:=BD L;have S:=kC (P:=P) (A:=A) (s:=s) d k
 have T:Deaf t (A.b+j)=1:=by obtain⟨_,_,U,_⟩:=H.walk _ S;rw[U];show cd P A s (A.b+j)=1;rw[dB d,k];exact f5
 have c:(s.fJ j x gc gv gm).w j=x:=bj
 have r:∀l,((s.fJ j x gc gv gm).w l).busy=(s.w l).busy:=λl=>by
  by_cases e:l=j
  . subst e;rw[bj,k,f3,f4]
  . rw[cM e]
 have hS:dK A s (s.fJ j x gc gv gm) (A.b+j):=⟨λl _ Y=>cM (by omega),λ_=>rfl,λ_=>rfl,rfl,λl _=>by
  by_cases e:l=j
  . subst e;rw[bj,k,f1];rfl
  . rw[cM e]⟩
 have hI:=X.I.done d k L;have hL:=DZ d k L;have D:∀fn pos,Deaf (t++MemOp.ofEvents (A.b+j) fn pos es) (A.b+j)=1:=λfn pos=>by rw[Deaf_own,T];exact Q
 have go:∀(V:Nat),Self P (bM P A Fin Z v) (s.fJ j x gc gv gm) f (upd q (A.b+j) V) kk OO J (t++MemOp.ofEvents (A.b+j) g.frame.fn g.frame.place es) (A.b+j) g1->Goes P A Fin Z v s gs w t sl (A.b+j):=λV u=>
  yd v H (fR X.I d (by rw[k];rfl)) (nj d k) hg (by rw[R];exact K) hS (λl _=>by
   by_cases e:l=j
   . subst e;rw[bj,k,f2];rfl
   . rw[cM e]) rfl rfl id (λi=>by unfold dW;simp only[r];rfl) hI rfl N O (.inl y) hL (.inr ⟨y,BC (by omega) ha⟩) B (λ_ _=>rfl) (λi hi=>upd_ne q V hi) u sl
 rcases hs with⟨F,rfl,n,G,E,W⟩|⟨rfl,m,hq⟩
 . refine go n ⟨λY=>absurd Y (i6 d c),λ_=>⟨i6 d c,?_,?_,G,?_,?_⟩,λhh=>absurd hh (nj d c),λ_ hn _=>absurd (kC d c) hn⟩
   . show A.b+j<A.b+A.n+1;omega
   . rw[D]
     show 1=cd P A (s.fJ j (.dn F) gc gv gm) (A.b+j);rw[dB d,c]
     rcases C with C|⟨p2,e,C⟩
     . cases C
     . exact C.symm
   . exact .inr (.inl ⟨j,d,rfl,by rw[c];exact W⟩)
   . exact .inr (by rw[upd_same];exact E)
 . have nl:¬cL P A (s.fJ j .gone gc gv gm) (A.b+j):=by
    rintro(⟨e,_⟩|⟨l,h1,h2,o⟩|⟨e,_⟩)
    . omega
    . obtain rfl:l=j:=by omega
      rw[c]at o;exact o
    . omega
   have nw:¬dV P A (s.fJ j .gone gc gv gm) (A.b+j):=by
    rintro(⟨e,_⟩|⟨l,h1,h2,o⟩|⟨e,_⟩)
    . omega
    . obtain rfl:l=j:=by omega
      rw[c]at o;exact o
    . omega
   have nh:¬dz P A (s.fJ j .gone gc gv gm) (A.b+j):=by
    rintro(⟨e,_⟩|⟨l,h1,h2,o⟩)
    . omega
    . obtain rfl:l=j:=by omega
      rw[c]at o;cases o
   exact go m ⟨λh=>absurd h nl,λh=>absurd h nw,λh=>absurd h nh,λ_ _ _=>⟨by omega,by rw[upd_same,D];exact hq⟩⟩
variable(C:iu P A.ng)(X:jt P A.ng)
theorem JX{n:FJ}{b:Nat}{kind:CallKind}{cs:List Frame}{g:Goroutine}(C:iu P n)(X:jt P n)(h:ot P n b kind .d7 cs g):mayWake P g=true:=by
 obtain⟨c,y,fr,f,⟨rfl,i⟩,m,j,k,rfl⟩:=h;have d:=Bv (y:=y) (a:=true) (by simpa using i);obtain⟨e,l⟩:=C.d9 b (Fl.of y);rw[d]at e l;exact x9 j e X.mf
include C X in
theorem JY(z:A.b+A.n+1<=Z.lk)(D:bg (bM P A Fin Z z) Z s f q kk OO J M gs w t)(r:j<A.n){p:sP}(u:s.w j=.dn p)(F:gs[A.b+j]?=some g)(N:DU P A j (.dn p) (kk (A.b+j)) (OO (A.b+j)) g)(sl:Option (Nat × Nat)):Goes P A Fin Z z s gs w t sl (A.b+j):=by
 have B:cz P A Z s kk OO J M gs.size w t:=D.ex;have O:=B.I.ok j r;rw[u]at O;have E:=N;obtain⟨fw,fn,tmps,todo,G,v,Q⟩:=N;have x:=B.gr;have hn:=A.hn;have nx:∀{p' g1},fP P A.ng A.gb .deferred (jJ A) p' [jq P fw tmps todo,ck P] g1->∃n g2,iV P (jJ A) n g1 g2/\DU P A j (.dn p') (kk (A.b+j)) (OO (A.b+j)) g2:=λ⟨_,g2,⟨n,hs⟩,hA⟩=>⟨n,g2,hs,fw,fn,tmps,todo,G,v,hA⟩
 have cell:∀(i:Nat),(i=0\/i=1)->∀wr,EvM A.gb 0 #[⟨.cell ⟨A.gb,i,none⟩,wr,true⟩]:=λi hi wr e d=>by simp at d;subst d;exact .inr ⟨i,by simpa using hi,rfl,rfl⟩
 have y:EvM A.gb 0 #[⟨.cell ⟨A.gb,0,none⟩,false,true⟩,⟨.cell ⟨A.gb,0,none⟩,true,true⟩]:=λe d=>by simp at d;rcases d with rfl|rfl<;>exact .inr ⟨0,.inl rfl,rfl,rfl⟩
 have R:EvM A.gb 0 (semEvents ⟨A.gb,1,none⟩):=λe d=>by
  simp[semEvents]at d
  rcases d with rfl|rfl|rfl|rfl
  . exact .inl (.inl rfl)
  . exact .inr ⟨1,.inr rfl,rfl,rfl⟩
  . exact .inr ⟨1,.inr rfl,rfl,rfl⟩
  . exact .inl (.inr rfl)
 have S:∀l,l<A.n->(s.w l).cnt<=1:=λl _=>by
  cases e:s.w l with
  |dn p=>cases p<;>simp[aW.cnt]
  |_=>simp[aW.cnt]
 cases p<;>simp only[aW.ok,Bool.false_eq_true]at O
 case d1=>exact JV C X z D r u F E sl
 case d2=>exact JU C X z D r u F E sl
 case d4=>
  have a7:1<=s.gc:=by
   have h1:=B.I.g1;have:(s.w j).cnt<=sumTo A.n (λj=>(s.w j).cnt):=Go.ConcN.le_sumTo (f:=λj=>(s.w j).cnt) r
   rw[u]at this;have e:(aW.dn (P:=P) .d4).cnt=1:=rfl;omega
  have a8:s.gc<=A.n+1:=by
   have h1:=B.I.g1;have h2:sumTo A.n (λj=>(s.w j).cnt)<=A.n:=mn A.n S
   have h3:s.ms.pend<=1:=by cases s.ms<;>simp[mP.pend];split<;>omega
   omega
  obtain⟨k,V⟩:∃k,s.gc=k+1:=⟨s.gc-1,by omega⟩
  have a:=x;rw[V]at a;obtain⟨g1,w',o,rfl,c,H⟩:=PT (Wd:=jJ A) (main:=false) C X G v a (by omega) B.I.g2 Q
  have K:MW A.gb 0 w (w.setCell ⟨A.gb,0,none⟩ (.int .u64 (dm k s.gv))):=⟨⟨.refl _,rfl⟩,.inr ⟨0,_,.inl rfl,rfl,rfl⟩⟩
  rcases H with⟨W,hv,T⟩|⟨Y,hG⟩
  . subst W
    rw[hv]at c o K;exact pR z D r u F o (.P8 V hv) c K y rfl (kD (λe d=>by simp at d;rcases d with rfl|rfl<;>simp)) (.inl id) (.inl ⟨_,rfl,nx T⟩) sl
  . exact pR z D r u F o (.d4 k V Y) c K y rfl (kD (λe d=>by simp at d;rcases d with rfl|rfl<;>simp)) (.inl id) (.inr ⟨rfl,hG⟩) sl
 case d5=>obtain⟨v1,L⟩:=B.I.g3 j r (.inl u);have a:=x;rw[v1,L]at a;obtain⟨g1,o,T⟩:=PU (Wd:=jJ A) (main:=false) C X a Q;exact pR z D r u F o .d5 x (aP rfl) (cell 0 (.inl rfl) false) rfl (kD (λe d=>by simp at d;subst d;simp)) (.inl id) (.inl ⟨_,rfl,nx T⟩) sl
 case d6=>obtain⟨v1,L⟩:=B.I.g3 j r (.inr u);have a:=x;rw[v1,L]at a;obtain⟨g1,w',o,rfl,c,T⟩:=PV (Wd:=jJ A) (main:=false) C X a Q;exact pR z D r u F o .d6 (by rw[L];exact c) (⟨⟨.refl _,rfl⟩,.inr ⟨0,_,.inl rfl,rfl,rfl⟩⟩) (cell 0 (.inl rfl) true) rfl (kD (λe d=>by simp at d;subst d;simp)) (.inl id) (.inl ⟨_,rfl,nx T⟩) sl
 case d7=>
  obtain⟨v0,L,m0,a9⟩:=B.I.g4 j r u;have a:=x;rw[v0,L]at a;have ad:=B.I.g5.1;obtain⟨g1,w',o,rfl,c,hG⟩:=PW (Wd:=jJ A) (main:=false) C X G v a (by omega) Q
  obtain⟨m,hq⟩:=hG;have U:g1.status=.running\/g1.status=.finished:=by rcases hq.status with h|h<;>simp[h]
  exact pR z D r u F o .d7 (by rw[L,v0];exact c) (⟨⟨.refl _,rfl⟩,.inr ⟨1,_,.inr rfl,rfl,rfl⟩⟩) R rfl D5 (.inr ⟨JX C X Q,U⟩) (.inr ⟨rfl,m,hq⟩) sl
end
end Go.bG
namespace Go.bG
open Go.Conc
open Go.ConcN (sumTo upd sumTo_upd upd_ne upd_same)
variable{P:Program}
def MS.qU(s:MS P)(c:iv)(gv gm:Nat):MS P:={s with c:=c,gv:=gv,gm:=gm}
section
variable{s:MS P}{n:Nat}{c:iv}{gv gm:Nat}
theorem GW{x:aW P}(h:x.last=true):x=.dn .d5\/x=.dn .d6\/x=.dn .d7:=by
 cases x with
 |dn p=>cases p<;>simp_all [aW.last]
 |_=>simp[aW.last]at h
theorem bs.calm(I:bs n s)(h:s.c.waits=false):s.gv=0/\s.gm=0/\∀j,j<n->(s.w j).last=false:=by
 have b:s.gv=0:=by
  have:=I.g2;by_cases e:s.gv=1
  . have:=(I.pP e).1;rw[h]at this;cases this
  . omega
 refine⟨b,?_,λj a=>?_⟩
 . have:=I.g5.1
   by_cases e:s.gm=1
   . have:=(I.g5.2 e).1;rw[h]at this;cases this
   . omega
 . cases e:(s.w j).last with
   |false=>rfl
   | true=>
     rcases GW e with e|e|e
     . have:=(I.g3 j a (.inl e)).1;omega
     . have:=(I.g3 j a (.inr e)).1;omega
     . have:=(I.g4 j a e).2.2.2;rw[h]at this;cases this
theorem bs.Oo(I:bs n s)(h:s.c≠.none):s.sp=n:=by have:=I.ms;cases e:s.ms<;>rw[e]at this<;>first|exact this.1|exact absurd this.2 h|exact absurd this.2.1 h
theorem bs.zJ(I:bs n s)(h:s.c≠.none)(l:s.gc=0)(g:∀j,j<n->(s.w j).last=false):∀j,j<n->s.w j=.gone:=λj a=>by
 have m:=I.g1;have o:(s.w j).cnt<=sumTo n (λj=>(s.w j).cnt):=Go.ConcN.le_sumTo (f:=λj=>(s.w j).cnt) a;have b:=I.idle j a;rw[I.Oo h]at b;have i:=g j a;have k:=I.ok j a;have d:(s.w j).cnt=0:=by omega
 cases e:s.w j with
 |idle=>rw[e]at b;have:=b.1 rfl;omega
 |dn p=>rw[e]at i k d;cases p<;>simp_all [aW.last,aW.ok,aW.cnt]
 |gone=>rfl
 |_=>rw[e]at d;simp[aW.cnt]at d
inductive oW(s:MS P):iv->iv->Nat->Nat->Prop
 |call:oW s .dH (.wt .w0) s.gv s.gm
 |w0:oW s (.wt .w0) (.wt .w1) s.gv s.gm
 |Rq:s.gc=0->oW s (.wt .w1) (.wt .we) s.gv s.gm
 |w1:s.gc≠0->oW s (.wt .w1) (.wt (.w2 s.gc)) s.gv s.gm
 |Rr:oW s (.wt (.w2 s.gc)) (.wt .w3) 1 s.gm
 |P9 (k:Nat):s.gc≠k->oW s (.wt (.w2 k)) (.wt .w1) s.gv s.gm
 |w3:oW s (.wt .w3) (.wt .w4) s.gv s.gm
 |w4:s.gm≠0->oW s (.wt .w4) (.wt .w5) s.gv (s.gm-1)
 |w5:oW s (.wt .w5) (.wt .we) s.gv s.gm
 |we:oW s (.wt .we) (.wt .wa) s.gv s.gm
 |wa:oW s (.wt .wa) .iX s.gv s.gm
theorem bs.JZ(I:bs n s)(b:s.c≠.none)(a:c≠.none)(d:c≠.gone)(f:c.ok=true)(m:gv<=1)(g:gv=1->c.waits=true/\gm=0)
 (o:∀j,j<n->(s.w j=.dn .d5\/s.w j=.dn .d6)->gv=1/\s.gc=0) (q:∀j,j<n->s.w j=.dn .d7->gv=0/\s.gc=0/\gm=0/\c.waits=true)
 (r:gm<=1/\(gm=1->c.waits=true/\gv=0/\s.gc=0/\∀j,j<n->(s.w j).last=false)) (t:c.waits=true->gv=0->gm=0->∃j,j<n/\s.w j=.dn .d7)
 (u:gv=1->s.gc=0->∃j,j<n/\(s.w j=.dn .d5\/s.w j=.dn .d6)) (v:c.GL=true->s.gc=0/\gv=0/\gm=0/\∀j,j<n->s.w j=.gone) (x:∀k,c=.wt (.w2 k)->k≠0):bs n (s.qU c gv gm):=by
 refine⟨I.g1,m,g,o,I.pf,q,r,t,u,v,x,I.ok,f,I.sp,I.idle,?_,λh=>absurd h a,I.mu⟩;have:=I.ms
 show match s.ms with
  |.add l=>s.sp+l=n/\c=.none
  |.bb l p=>s.sp+l=n/\c=.none/\1<=l/\(p=.a0\/p=.a2\/p=.a4\/p=.ae)
  |.spawn l=>s.sp+l+1=n/\c=.none
  |.recv=>s.sp=n/\c≠.none
  |.parked=>s.sp=n/\c≠.none/\c≠.gone/\∀i,i<n->s.w i≠.wait
 cases e:s.ms with
 |add l=>rw[e]at this;exact absurd this.2 b
 |bb l p=>rw[e]at this;exact absurd this.2.1 b
 |spawn l=>rw[e]at this;exact absurd this.2 b
 |recv=>rw[e]at this;exact⟨this.1,a⟩
 |parked=>rw[e]at this;exact⟨this.1,a,d,this.2.2.2⟩
theorem bs.Rs(I:bs n s){e:iv}(a:s.c=e)(h:oW s e c gv gm):bs n (s.qU c gv gm):=by
 have calm:e.waits=false->c.waits=false->e≠.none->c≠.none->c≠.gone->c.ok=true->gv=s.gv->gm=s.gm->(c.GL=true->s.gc=0)->(∀k,c=.wt (.w2 k)->k≠0)->bs n (s.qU c gv gm):=by
  intro r t u v w x y z q m;subst y z;obtain⟨l,o,d⟩:=I.calm (by rw[a];exact r)
  have f:s.c≠.none:=by rw[a];exact u
  refine I.JZ f v w x I.g2 (λh=>by omega) I.g3 (λj b h=>?_) ⟨by omega,λh=>by omega⟩ (λh=>by rw[t]at h;cases h) I.g7 (λh=>⟨q h,l,o,I.zJ f (q h) d⟩) m
  have:=d j b;rw[h]at this;cases this
 have g8:e.GL=true->s.gc=0:=λh=>(I.g8 (by rw[a];exact h)).1
 cases h with
 |call=>exact calm rfl rfl (by simp) (by simp) (by simp) rfl rfl rfl (λh=>by cases h) (λk h=>by cases h)
 |w0=>exact calm rfl rfl (by simp) (by simp) (by simp) rfl rfl rfl (λh=>by cases h) (λk h=>by cases h)
 |Rq g=>exact calm rfl rfl (by simp) (by simp) (by simp) rfl rfl rfl (λ_=>g) (λk h=>by cases h)
 |w1 g=>exact calm rfl rfl (by simp) (by simp) (by simp) rfl rfl rfl (λh=>by cases h) (λk h=>by cases h;exact g)
 |P9 k g=>exact calm rfl rfl (by simp) (by simp) (by simp) rfl rfl rfl (λh=>by cases h) (λk h=>by cases h)
 |w5=>exact calm rfl rfl (by simp) (by simp) (by simp) rfl rfl rfl (λ_=>g8 rfl) (λk h=>by cases h)
 |we=>exact calm rfl rfl (by simp) (by simp) (by simp) rfl rfl rfl (λ_=>g8 rfl) (λk h=>by cases h)
 |wa=>exact calm rfl rfl (by simp) (by simp) (by simp) rfl rfl rfl (λ_=>g8 rfl) (λk h=>by cases h)
 | Rr=>
   obtain⟨l,o,d⟩:=I.calm (by rw[a];rfl)
   have A:=I.g9 s.gc a;refine I.JZ (by rw[a];simp) (by simp) (by simp) rfl (by omega) (λ_=>⟨rfl,o⟩) (λj b h=>?_) (λj b h=>?_) ⟨by omega,λh=>by omega⟩ (λ_ h=>by omega) (λ_ h=>absurd h A) (λh=>by cases h) (λk h=>by cases h)
   . have:=(I.g3 j b h).1;omega
   . have:=d j b;rw[h]at this;cases this
 | w3=>
   have B:s.c.waits=true:=by rw[a];rfl
   refine I.JZ (by rw[a];simp) (by simp) (by simp) rfl I.g2 (λh=>⟨rfl,(I.pP h).2⟩) I.g3 (λj b h=>?_) ⟨I.g5.1,λh=>⟨rfl,(I.g5.2 h).2⟩⟩ (λ_=>I.g6 B) I.g7 (λh=>by cases h) (λk h=>by cases h)
   have:=I.g4 j b h;exact⟨this.1,this.2.1,this.2.2.1,rfl⟩
 | w4 g=>
   have p:s.gm=1:=by have:=I.g5.1;omega
   obtain⟨C,l,i,d⟩:=I.g5.2 p;have f:s.c≠.none:=by rw[a];simp
   refine I.JZ f (by simp) (by simp) rfl I.g2 (λh=>by omega) I.g3 (λj b h=>?_) ⟨by omega,λh=>by omega⟩ (λh=>by cases h) I.g7 (λ_=>⟨i,l,by omega,I.zJ f i d⟩) (λk h=>by cases h)
   have:=d j b;rw[h]at this;cases this
theorem zK{a:iv}(b:s.c=a)(h:oW s a c gv gm):MS.fh n (s.qU c gv gm) s:=by
 refine .inl ?_;show s.ms.bU+sumTo n (λi=>(s.w i).bU)+c.bU s.gc<s.ms.bU+sumTo n (λi=>(s.w i).bU)+s.c.bU s.gc;rw[b]
 have:c.bU s.gc<a.bU s.gc:=by
  cases h with
  |P9 k d=>simp only[iv.bU];rw[if_neg d];omega
  |_=>simp[iv.bU]
 omega
end
end Go.bG
namespace Go.bG
open Go.Conc
open Go.ConcN (sumTo upd sumTo_upd upd_ne upd_same)
section
variable{P:Program}{A:dk}{Fin:ag->ah->Goroutine->Prop}{Z:Base}{s:MS P}{f:Nat->Node P}{q:Nat->Nat}{kk:Nat->ag}{OO:Nat->ah}{J M:Nat->Prop}{gs:Array Goroutine}{w w':World}{t u:Trace}{c:iv}{p:sP}{gv gm:Nat}{g g1:Goroutine}
theorem yf(e:s.c=.wt p):dV P A s (A.b+A.n):=.inr (.inr ⟨rfl,by rw[e];trivial⟩)
theorem C3(e:s.c=.wt p):¬cL P A s (A.b+A.n):=by
 have:=A.hb;rintro(⟨e,_⟩|⟨l,d,f,a⟩|⟨_,a⟩)
 . omega
 . omega
 . rw[e]at a;exact a
theorem pS:¬dz P A s (A.b+A.n):=by
 have:=A.hb;rintro(⟨e,_⟩|⟨l,a,c,d⟩)<;>omega
theorem yg(e:s.c=.wt p):cd P A s (A.b+A.n)=rQ p:=by have:=A.hb;unfold cd;rw[if_neg (by omega),if_neg (by omega),e]
theorem C4(h:s.c≠.none):bt P A s (A.b+A.n):=.inr (.inr ⟨rfl,h⟩)
theorem D9{a:iv}(h:oW s a c gv gm):a.dp=false/\c.dp=false/\a.isNone=false/\c.isNone=false/\a.busy=true/\c.busy=true:=by cases h<;>simp[iv.dp,iv.isNone,iv.busy]
theorem GX:dK A s (s.qU c gv gm) (A.b+A.n):=⟨λ_ _ _=>rfl,λh=>absurd rfl h,λ_=>rfl,rfl,λ_ _=>rfl⟩
theorem kS(o:A.b+A.n+1<=Z.lk)(E:bg (bM P A Fin Z o) Z s f q kk OO J M gs w t){F:iv}(h:s.c=F)(r:oW s F (.wt p) gv gm){d:Nat}(hd:Deaf t (A.b+A.n)=d)(L:gs[A.b+A.n]?=some g){es:Array Event}(u:stepG P false g w=.go g1 w' es)
 (v:oq A.gb w' s.gc gv gm) (x:MW A.gb 0 w w') (y:LV A.gb es) (z:deafBehind d es=rQ p) (j:s.gm=0->gm=0)
 (N:∃n m,iV P (jJ A) n g1 m/\Oa P A (.wt p) (kk (A.b+A.n)) (OO (A.b+A.n)) m) (sl:Option (Nat × Nat)):Goes P A Fin Z o s gs w t sl (A.b+A.n):=by
 have G:cz P A Z s kk OO J M gs.size w t:=E.ex;have hb:=A.hb;have B:(A.b+A.n==0)=false:=by simp;omega
 obtain⟨f1,S,H,T,K,U⟩:=D9 r;have k:s.c.isNone=false:=by rw[h];exact H
 have C:s.c≠.none:=λe=>by rw[e]at k;cases k
 obtain⟨n,m,l,D⟩:=N;have a:(s.qU (.wt p) gv gm).c=.wt p:=rfl;have hJ:J (A.b+A.n):=(G.hJ _).2 (.inr ⟨rfl,by rw[h];exact K⟩)
 refine yd (s':=s.qU (.wt p) gv gm) (f':=f) (q':=upd q (A.b+A.n) n) o E (C4 C) pS L (by rw[B];exact u) GX (λ_ _=>rfl) (by rw[h,f1];rfl) (by rw[h,H];rfl) (λ_=>.inr (.inr ⟨p,rfl⟩)) (λi=>?_) (G.I.Rs h r) rfl v x (.inr ⟨y,by rw[k];rfl⟩) (zK h r) (.inl (.inr hJ)) (.inl j) (λ_ _=>rfl) (λi O=>upd_ne q n O) ?_ sl
 . unfold dW
   rw[h,K];rfl
 . refine⟨λQ=>absurd Q (C3 a),λ_=>⟨C3 a,?_,?_,m,?_,?_⟩,λR=>absurd R pS,λ_ k _=>absurd (yf a) k⟩
   . show A.b+A.n<A.b+A.n+1;omega
   . rw[Deaf_own,hd,z]
     show _=cd P A (s.qU (.wt p) gv gm) (A.b+A.n);rw[yg a]
   . exact .inr (.inr ⟨rfl,D⟩)
   . exact .inr (by rw[upd_same];exact l)
variable(C:iu P A.ng)(X:jt P A.ng)
include C X in
theorem J0(x:A.b+A.n+1<=Z.lk)(y:bg (bM P A Fin Z x) Z s f q kk OO J M gs w t)(v:s.c=.wt p)(R:p≠.wa)(D:gs[A.b+A.n]?=some g)(S:Oa P A (.wt p) (kk (A.b+A.n)) (OO (A.b+A.n)) g)(sl:Option (Nat × Nat)):
 Goes P A Fin Z x s gs w t sl (A.b+A.n)\/BA P A s gs w sl (A.b+A.n) g:=by
 have G:cz P A Z s kk OO J M gs.size w t:=y.ex;have H:=G.I.LO;rw[v]at H;obtain⟨c0,rest,E,hT⟩:=S;have m:=G.gr;have hn:=A.hn;have hb:=A.hb;have T:(A.b+A.n==0)=false:=by simp;omega
 have O:CallKind.normal≠CallKind.early:=by decide
 have nx:∀{p' g1},fP P A.ng A.gb .normal (jJ A) p' (c0::rest) g1->∃n Q,iV P (jJ A) n g1 Q/\Oa P A (.wt p') (kk (A.b+A.n)) (OO (A.b+A.n)) Q:=λ⟨_,Q,⟨n,hs⟩,hA⟩=>⟨n,Q,hs,c0,rest,hA,hT⟩
 have cell:∀wr,LV A.gb #[⟨.cell ⟨A.gb,0,none⟩,wr,true⟩]:=λwr e u=>by simp at u;subst u;exact .inl (.inr ⟨0,.inl rfl,rfl,rfl⟩)
 have hd:Deaf t (A.b+A.n)=rQ p:=by obtain⟨_,_,U,_⟩:=y.walk _ (yf v);rw[U];show cd P A s (A.b+A.n)=_;rw[yg v]
 have z:s.c.waits=false->s.gv=0:=λh=>(G.I.calm h).1
 have K:∀l,l<A.n->(s.w l).cnt<=1:=λl _=>by
  cases e:s.w l with
  |dn p=>cases p<;>simp[aW.cnt]
  |_=>simp[aW.cnt]
 have a7:s.gc<=A.n+1:=by
  have h1:=G.I.g1;have h2:sumTo A.n (λj=>(s.w j).cnt)<=A.n:=mn A.n K
  have h3:s.ms.pend<=1:=by cases s.ms<;>simp[mP.pend];split<;>omega
  omega
 cases p<;>simp only[iv.ok,Bool.false_eq_true]at H
 case w0=>obtain⟨g1,a,r⟩:=PX (Wd:=jJ A) (main:=false) (w:=w) C X E O;exact .inl (kS x y v .w0 hd D a m (aP rfl) (λe u=>by simp at u;subst u;exact .inl (.inl (.inl rfl))) rfl id (nx r) sl)
 case w1=>
  have L:=z (by rw[v];rfl)
  have d:=m;rw[L]at d;obtain⟨g1,a,r⟩:=PY (Wd:=jJ A) (main:=false) C X d (by omega) E
  rcases r with⟨V,r⟩|⟨V,r⟩
  . exact .inl (kS x y v (.Rq V) hd D a m (aP rfl) (cell false) rfl id (nx r) sl)
  . exact .inl (kS x y v (.w1 V) hd D a m (aP rfl) (cell false) rfl id (nx r) sl)
 case we=>
  obtain⟨g1,a,r⟩:=PZ (Wd:=jJ A) (main:=false) (w:=w) C X (λw h=>h.1) E O
  exact .inl (kS x y v .we hd D a m (aP rfl) (λe u=>by simp at u;subst u;exact .inl (.inl (.inr rfl))) rfl id (nx r) sl)
 case wa=>exact absurd rfl R
 case w2 k=>
  have L:=z (by rw[v];rfl)
  have d:=m;rw[L]at d
  rcases P2 (Wd:=jJ A) (main:=false) C X (λw h=>h.2.1) d E with⟨F,g1,w',a,rfl,B,r⟩|⟨F,g1,a,r⟩
  . subst F
    exact .inl (kS x y v .Rr hd D a B (⟨⟨.refl _,rfl⟩,.inr ⟨0,_,.inl rfl,rfl,rfl⟩⟩) (λe u=>by simp at u;rcases u with rfl|rfl<;>exact .inl (.inr ⟨0,.inl rfl,rfl,rfl⟩)) rfl id (nx r) sl)
  . exact .inl (kS x y v (.P9 k F) hd D a m (aP rfl) (cell false) rfl id (nx r) sl)
 case w3=>obtain⟨g1,a,r⟩:=P3 (Wd:=jJ A) (main:=false) (w:=w) C X E O;exact .inl (kS x y v .w3 hd D a m (aP rfl) (λe u=>by simp at u;subst u;exact .inr ⟨1,.inr rfl,.inr rfl⟩) rfl id (nx r) sl)
 case w4=>
  by_cases N:s.gm=0
  . right
    have d:=m;rw[N]at d;have a:=N9 (main:=false) C X d E;refine⟨.inr ⟨rfl,v,N⟩,?_⟩;have h:=runT_crowd_go (P:=P) (sl:=sl) (i:=A.b+A.n) D (by rw[T];exact a)
    have W:woken P g {g with status:=.blocked} w=id:=funext λo=>by unfold Go.Conc.woken;simp
    rw[W,Array.map_id]at h;exact h
  . left
    obtain⟨g1,w',a,rfl,B,r⟩:=P4 (Wd:=jJ A) (main:=false) C X m N E O
    exact kS x y v (.w4 N) hd D a B (⟨⟨.refl _,rfl⟩,.inr ⟨1,_,.inr rfl,rfl,rfl⟩⟩) (λe u=>by
     simp[semEvents]at u
     rcases u with rfl|rfl|rfl|rfl
     . exact .inl (.inl (.inl rfl))
     . exact .inl (.inr ⟨1,.inr rfl,rfl,rfl⟩)
     . exact .inl (.inr ⟨1,.inr rfl,rfl,rfl⟩)
     . exact .inl (.inl (.inr rfl))) rfl (λh=>absurd h N) (nx r) sl
 case w5=>
  obtain⟨Y,L,m0,_⟩:=G.I.g8 (by rw[v];rfl)
  have d:=m;rw[Y,L]at d;obtain⟨g1,a,r⟩:=P5 (Wd:=jJ A) (main:=false) C X d E;exact .inl (kS x y v .w5 hd D a m (aP rfl) (cell false) rfl id (nx r) sl)
end
section
variable{Z:Base}{kk:Nat->ag}{OO:Nat->ah}{J M:Nat->Prop}{w:World}{t:Trace}
theorem bL.Oq(h:bL Z kk OO J M w t){i:Nat}{ad:Addr}(G:J i)(B:ad.block<w.heap.size)(hd:Deaf t i=0)(H:∀p,M p->t.heard p/\Z.N0<=p/\t.act? p=some (.mark (.releaseMerge ad)))
 (C:∀m a,Z.N0<=m->t.act? m≠some (.mark (.release a))) (fn:FuncId) (pos:String):
 bL Z kk OO J (λ_=>False) w (t++MemOp.ofEvents i fn pos #[⟨.mark (.acquire ad),false,true⟩]):=by
 obtain⟨u,F⟩:∃u,u=MemOp.ofEvents i fn pos #[⟨.mark (.acquire ad),false,true⟩]:=⟨_,rfl⟩;have d:u=#[⟨i,fn,pos,.mark (.acquire ad)⟩]:=by rw[F,ofEvents_eq];simp[MemAct.ofEvent]
 rw[<-F];have f:∀op∈u,op.act.touch?=none:=λop c=>by rw[d]at c;simp at c;subst c;rfl
 have r:∀op∈u,op.g=i:=λop c=>by rw[d]at c;simp at c;subst c;rfl
 have D:u[0]?=some ⟨i,fn,pos,.mark (.acquire ad)⟩:=by rw[d];rfl
 have l:jS u:=λop c=>by rw[d]at c;simp at c;subst c;simp
 have z:∀k,Z.N0<=k->∀a,(t++u).act? k≠some (.mark (.release a)):=λk A a e=>by
  rcases qR e with⟨o,_⟩|⟨op,c,o⟩
  . exact C k a A o
  . rw[d]at c;simp at c;subst c;cases o
 exact h.qF (λa b=>a=b) rfl ⟨⟨.refl _,rfl⟩,λ_ _=>rfl⟩ (λb=>.inl rfl) (λop c=>by rw[d]at c;simp at c;subst c;simpa[MemAct.low]using B) (λa b e n y _ _ _ A=>by subst e;exact A.app u)
  (λj b n v h=>⟨j,rfl,h⟩) (λj b s h=>⟨j,rfl,h⟩) (λj b x h=>⟨j,rfl,h,λ_ h=>h⟩) h.gY
  (λsaid=>noRace_append (h.clean said) r λn a q op c b hb _=>by rw[f op c]at hb;cases hb) (λop c a q=>by rw[f op c]at q;cases q) (λm op a c q=>by rw[f op (Array.mem_of_getElem? c)]at q;cases q)
  (λn a q L h=>h.elim (λ⟨j,o,E⟩=>.inr (.inl ⟨j,o,E.app _⟩)) (λ⟨p,o,E⟩=>by obtain⟨I,N,K⟩:=H p o;exact .inr (.inl ⟨i,G,ol (y:=⟨i,fn,pos,.mark (.acquire ad)⟩) l D rfl hd K I (λk A=>z k (by omega) ad) E⟩)))
end
section
variable{P:Program}{A:dk}{Fin:ag->ah->Goroutine->Prop}{Z:Base}{s:MS P}{f:Nat->Node P}{q:Nat->Nat}{kk:Nat->ag}{OO:Nat->ah}{J M:Nat->Prop}{gs:Array Goroutine}{w w':World}{t u:Trace}{c:iv}{p:sP}{gv gm:Nat}{g g1:Goroutine}
theorem qV(e:s.c=.iX\/s.c=.dH):cL P A s (A.b+A.n):=.inr (.inr ⟨rfl,by rcases e with e|e<;>rw[e]<;>trivial⟩)
theorem C5(e:s.c=.iX\/s.c=.dH):¬dV P A s (A.b+A.n):=by
 have:=A.hb;rintro(⟨e,_⟩|⟨l,d,f,a⟩|⟨_,a⟩)
 . omega
 . omega
 . rcases e with e|e<;>rw[e]at a<;>exact a
theorem C6(e:s.c≠.dH):bm P A Fin s (A.b+A.n)=oU P A:=by
 have:=A.hb;unfold bm;rw[if_neg (by omega),if_neg (by omega)];cases h:s.c<;>first|rfl|exact absurd h e
theorem C7(e:s.c=.dH):bm P A Fin s (A.b+A.n)=uc P A:=by have:=A.hb;unfold bm;rw[if_neg (by omega),if_neg (by omega),e]
theorem Li{x:Node P}:JL P A s (A.b+A.n) x:=λj h X a c _=>by omega
variable(C:iu P A.ng)(X:jt P A.ng)
include C X in
theorem J1(u:A.b+A.n+1<=Z.lk)(E:bg (bM P A Fin Z u) Z s f q kk OO J M gs w t)(d:s.c=.wt .wa)(U:gs[A.b+A.n]?=some g)(F:Oa P A (.wt .wa) (kk (A.b+A.n)) (OO (A.b+A.n)) g)(sl:Option (Nat × Nat)):
 Goes P A Fin Z u s gs w t sl (A.b+A.n):=by
 have j:cz P A Z s kk OO J M gs.size w t:=E.ex;have B:=aR (P:=P) (A:=A) (Fin:=Fin) (Z:=Z) u;obtain⟨c0,rest,hM,W⟩:=F;have hb:=A.hb;have G:(A.b+A.n==0)=false:=by simp;omega
 obtain⟨g1,H,Y,⟨k,v⟩⟩:=P1 (Wd:=λ_=>True) (main:=false) (w:=w) C X hM (by decide)
 obtain⟨tr⟩:=T.tree (P:=P) (m:=oU P A) rfl (W _ (ag.Le.refl _));obtain⟨T,_⟩:=TT.pre v tr;have x:=runT_crowd_go (P:=P) (sl:=sl) (i:=A.b+A.n) U (by rw[G];exact H)
 have K:=yf (P:=P) (A:=A) d
 have hd:Deaf t (A.b+A.n)=0:=by obtain⟨_,_,L,_⟩:=E.walk _ K;rw[L];show cd P A s (A.b+A.n)=_;rw[yg d];rfl
 have hJ:J (A.b+A.n):=(j.hJ _).2 (.inr ⟨rfl,by rw[d];rfl⟩)
 have hG:A.gb<w.heap.size:=by obtain⟨c,e,N⟩:=j.vH;exact(Array.getElem?_eq_some_iff.1 N).1
 have hP:=E.bN.Oq (i:=A.b+A.n) (ad:=⟨A.gb,0,none⟩) hJ hG hd (λp z=>by
  obtain⟨N,h2,r⟩:=j.hM p z
  rcases r with⟨r,_⟩|⟨r,_⟩
  . exact⟨N,h2,r⟩
  . rw[d]at r;cases r) j.norel g.frame.fn g.frame.place
 have D:∀op∈MemOp.ofEvents (A.b+A.n) g.frame.fn g.frame.place #[⟨.mark (.acquire ⟨A.gb,0,none⟩),false,true⟩],op.g=A.b+A.n:=λop o=>by obtain⟨e,_,rfl⟩:=Go.Conc.mem_ofEvents o;rfl
 have Q:cz P A Z (s.qU .iX s.gv s.gm) kk OO J (λ_=>False) gs.size w (t++MemOp.ofEvents (A.b+A.n) g.frame.fn g.frame.place #[⟨.mark (.acquire ⟨A.gb,0,none⟩),false,true⟩]):=
  j.Om (GX (s:=s) (c:=.iX)) (λ_ _=>rfl) (by rw[d];rfl) (by rw[d];rfl) (λp z=>z.elim) (λe=>by rw[d]at e;cases e) (λ⟨p,z⟩=>z.elim) (λi=>by unfold dW;rw[d];rfl) (j.I.Rs d .wa) rfl j.gr (aP rfl) (λop o=>by obtain⟨e,V,rfl⟩:=Go.Conc.mem_ofEvents o;simp at V;subst V;exact⟨λa ha=>by simp[MemAct.ofEvent,MemAct.touch?]at ha,λa h=>by simp[MemAct.ofEvent]at h⟩)
 have R:Beside (bM P A Fin Z u) s (s.qU .iX s.gv s.gm) f (bo f (A.b+A.n) ⟨oU P A,kk (A.b+A.n),OO (A.b+A.n),g1,T⟩) q q kk kk OO OO J J w (A.b+A.n) g g1:=um u GX (λi hi=>ap _ _ hi) (λ_ _=>rfl) (λ_ _ _=>rfl) (λ_ _ _=>rfl) (λ_ _ h=>h) (.inl ⟨id,id⟩) (λ{i k O y} S=>B.jX (s:=s) (i:=i) (k:=k) (O:=O) (g:=y) S)
 refine⟨_,_,x,s.qU .iX s.gv s.gm,bo f (A.b+A.n) ⟨oU P A,kk (A.b+A.n),OO (A.b+A.n),g1,T⟩,q,kk,OO,J,(λ_=>False),_,_,_,rfl,zK d .wa,?_⟩
 refine bg.step B E U D hP Q (λl y hl S=>B.qI j hl _ _ S) R ⟨λ_=>?_,λh=>absurd h (C5 (.inl rfl)),λh=>absurd h pS,λh=>absurd (qV (.inl rfl)) h⟩
 rw[ak];refine⟨by show A.b+A.n<A.b+A.n+1;omega,rfl,?_,rfl,rfl,Y,?_,.inr hJ,Li⟩
 . show oU P A=bm P A Fin (s.qU .iX s.gv s.gm) (A.b+A.n)
   rw[C6 (by simp[MS.qU])]
 . rw[Deaf_own,hd];rfl
end
theorem qW {P:Program} {y:Sy} {s:iq} {fr:Frame} {x:FuncId × List SV} {f:FuncId} {cT:Array Value} {kind:CallKind} (a:FR y s fr) (h:aM s=some x):fr≠Frame.enter P f cT kind:=fun e=>by
 obtain⟨ops,i,rest,kk,o,as,b,d,g,j,k,c,l⟩:=cx (f:=x.1) (svs:=x.2) a h;have:fr.todo = .inRegion ops (i :: rest) :: kk:=by rw[c];rfl
 rw[e] at this;simp[Frame.enter] at this
theorem yh{fr a:Frame}{cs b:List Frame}(h:G fr cs=G a b):fr=a:=by have:=congrArg Goroutine.frame h;exact this
section
variable{P:Program}{A:dk}{Fin:ag->ah->Goroutine->Prop}{Z:Base}{s:MS P}{f:Nat->Node P}{q:Nat->Nat}{kk:Nat->ag}{OO:Nat->ah}{J M:Nat->Prop}{gs:Array Goroutine}{w w':World}{t u:Trace}{j:Nat}{c:iv}{p:sP}{gv gm:Nat}{g g1:Goroutine}
variable(C:iu P A.ng)(X:jt P A.ng)
include C in
theorem GY{b:Nat}{kind a:CallKind}{cs:List Frame}{f:FuncId}{cT:Array Value}{n:Nat}{Wd:World->Prop}{d:Goroutine}(h:iV P Wd n (G (Frame.enter P f cT a) cs) d)(g:ot P A.ng b kind .w0 cs d):n≠0:=λe=>by subst e;obtain⟨c,y,fr,i,rfl,l,j,k,rfl⟩:=g;exact qW j (C.w0 b kind).1 (yh h).symm
include C in
theorem GZ{b:Nat}{kind a:CallKind}{cs:List Frame}{f:FuncId}{cT:Array Value}{n:Nat}{Wd:World->Prop}{d:Goroutine}(h:iV P Wd n (G (Frame.enter P f cT a) cs) d)(g:ot P A.ng b kind .a0 cs d):n≠0:=λe=>by subst e;obtain⟨c,y,fr,i,rfl,l,j,k,rfl⟩:=g;exact qW j (C.a0 b kind).1 (yh h).symm
include C in
theorem G1{b:Nat}{kind a:CallKind}{cs:List Frame}{f:FuncId}{cT:Array Value}{n:Nat}{Wd:World->Prop}{d:Goroutine}(h:iV P Wd n (G (Frame.enter P f cT a) cs) d)(g:ot P A.ng b kind .d1 cs d):n≠0:=λe=>by subst e;obtain⟨c,y,fr,i,rfl,l,j,k,rfl⟩:=g;exact qW j (C.d1 b).1 (yh h).symm
include C X in
theorem Ea(d:A.b+A.n+1<=Z.lk)(h:bg (bM P A Fin Z d) Z s f q kk OO J M gs w t)(r:s.c=.dH){k:ag}{O:ah}{N:ag->ah->Goroutine->Prop}(i:k=kk (A.b+A.n))(j:O=OO (A.b+A.n))(y:gs[A.b+A.n]?=some g)(z:(uc P A).cJ k O g N)(sl:Option (Nat × Nat)):
 Goes P A Fin Z d s gs w t sl (A.b+A.n):=by
 have u:cz P A Z s kk OO J M gs.size w t:=h.ex;obtain⟨_,_,_,_,_,_,l,_⟩:=h.live _ (qV (.inr r));obtain⟨rfl,v,rest,rfl,B⟩:=z;subst i j;obtain⟨D,⟨n,a⟩,x⟩:=t9 (P:=P) (n:=A.ng) (b:=A.gb) (kind:=.normal) (cs:=v::rest) (Wd:=jJ A) X C;cases n with
 |zero=>exact absurd rfl (GY C a x)
 |succ n=>obtain⟨g1,⟨E,m⟩,o⟩:=a;have p:jJ A w:=(aR (P:=P) (A:=A) (Fin:=Fin) (Z:=Z) d).wd u;exact kS d h r .call l y (m false w p) u.gr (aP rfl) (λe F=>by simp at F) rfl id ⟨n,D,o,v,rest,x,B⟩ sl
theorem uq(a:j<A.n)(e:s.w j=.wv):cL P A s (A.b+j):=.inr (.inl ⟨j,a,rfl,by rw[e];trivial⟩)
theorem ww(c:j<A.n)(e:s.w j=.wv):¬dz P A s (A.b+j):=by
 have:=A.hb;rintro(⟨e,_⟩|⟨l,d,f,a⟩)
 . omega
 . obtain rfl:l=j:=by omega
   rw[e]at a;cases a
theorem GU(a:j<A.n){x:aW P}{sh:Mu.Sh}(h:x.fH=(s.w j).fH):dK A s (s.aD j x sh) (A.b+j):=⟨λl _ c=>aX (by omega),λ_=>rfl,λ_=>rfl,rfl,λl _=>by
 by_cases e:l=j
 . subst e;rw[aC,h]
 . rw[aX e]⟩
include C X in
theorem Eb(u:A.b+A.n+1<=Z.lk)(v:bg (bM P A Fin Z u) Z s f q kk OO J M gs w t)(a:j<A.n)(d:s.w j=.wv){k:ag}{O:ah}{N:ag->ah->Goroutine->Prop}(K:gs[A.b+j]?=some g)(L:(oc P A).cJ k O g N)(sl:Option (Nat × Nat)):
 Goes P A Fin Z u s gs w t sl (A.b+j):=by
 have p:cz P A Z s kk OO J M gs.size w t:=v.ex;have hb:=A.hb;obtain⟨_,_,_,_,_,_,y,_⟩:=v.live _ (uq a d);obtain⟨rfl,G,fn,tmps,todo,z,r,rfl⟩:=L;have B:(A.b+j==0)=false:=by simp;omega
 obtain⟨Q,⟨n,o⟩,H⟩:=ua (P:=P) (n:=A.ng) (b:=A.gb) (kind:=.deferred) (cs:=[jq P G tmps todo,ck P]) (Wd:=jJ A) X (λw h=>h.1) C
 cases n with
 |zero=>exact absurd rfl (G1 C o H)
 | succ n=>
   obtain⟨g1,⟨R,D⟩,E⟩:=o;have F:jJ A w:=(aR (P:=P) (A:=A) (Fin:=Fin) (Z:=Z) u).wd p;obtain⟨x,m⟩:∃x:aW P,x=.dn .d1:=⟨_,rfl⟩;have c:(s.aD j x s.sh).w j=.dn .d1:=by rw[aC,m]
   have S:bs A.n (s.aD j x s.sh):=p.I.yc a (by rw[d];rfl) (by rw[m];rfl) (by rw[m,d];rfl) (by rw[m];rfl) (by rw[m,d];rfl)
   have T:MS.fh A.n (s.aD j x s.sh) s:=ul a (by rw[m,d];simp[aW.bU])
   have hJ:J (A.b+j):=(p.hJ _).2 (.inl ⟨j,a,rfl,by rw[d];rfl⟩)
   refine yd (s':=s.aD j x s.sh) (f':=f) (q':=upd q (A.b+j) n) (es:=#[]) u v (fR p.I a (by rw[d];rfl)) (ww a d) K (by rw[B];exact D false w F) (GU a (by rw[m,d];rfl)) (λl _=>?_) rfl rfl id (j8 a (by rw[m,d];rfl)) S rfl p.gr (aP rfl) (.inl eh) T (.inl (.inr hJ)) (.inl id) (λ_ _=>rfl) (λi U=>upd_ne q n U) ?_ sl
   . by_cases e:l=j
     . subst e;rw[aC,m,d];rfl
     . rw[aX e]
   . refine⟨λV=>absurd V (i6 a c),λ_=>⟨i6 a c,?_,?_,Q,?_,?_⟩,λW=>absurd W (nj a c),λ_ Y _=>absurd (kC a c) Y⟩
     . show A.b+j<A.b+A.n+1;omega
     . rw[Deaf_own,y]
       show _=cd P A (s.aD j x s.sh) (A.b+j);rw[dB a,c];rfl
     . refine .inr (.inl ⟨j,a,rfl,?_⟩)
       rw[c];exact⟨G,fn,tmps,todo,z,r,H⟩
     . exact .inr (by rw[upd_same];exact E)
end
end Go.bG
