/- Part 21 of the proof. -/
import Derived.Test.YtigilmjkokbblaaGreatDoorC20
set_option linter.all false
namespace Go.bd
open Go.Conc
open Go.ConcN (sumTo upd sumTo_upd upd_ne upd_same)
section
variable{P:Program}{A:eu}{Fin:ah->ai->Goroutine->Prop}{Z:Base}{s:MS P}{f:Nat->Node P}{q:Nat->Nat}{kk:Nat->ah}{OO:Nat->ai}{J M:Nat->Prop}{gs:Array Goroutine}{w w':World}{t:Trace}{j:Nat}{x:bt P}{sh:Mu.Sh}{g g1:Goroutine}
theorem G5(v:A.b+A.n+1<=Z.lk)(N:bJ (cB P A Fin Z v) Z s f q kk OO J M gs w t)(a:j<A.n)(L:(s.w j).work=true){d:Nat}(Q:Deaf t (A.b+j)=d)(R:¬eM P A s (A.b+j))(h2:x.jJ=true)(ho:x.owns=(s.w j).owns)(hI:bT A.n (s.aO j x sh))(hL:MS.gM A.n (s.aO j x sh) s)
 (hg:gs[A.b+j]?=some g){es:Array Event}(S:stepG P false g w=.go g1 w' es) (p:MW A.fb A.fo w w') (T:ShM A.fb A.fo w' sh) (U:EvM A.fb A.fo es) (hd:deafBehind d es=x.deaf)
 (hs:∃n g',kD P (lN A) n g1 g'/\Ih P A j x (kk (A.b+j)) (OO (A.b+j)) g') (z:(s.sh.ms=0->sh.ms=0)\/(mayWake P g=true/\g1.status=.running)) (sl:Option (Nat × Nat)):
 ∃ops m',runT P (crowd gs w sl) (A.b+j)=(.next m',ops)/\∃s' f' q' kk' OO' J' M' gs' C V,m'=crowd gs' C V/\MS.gM A.n s' s/\bJ (cB P A Fin Z v) Z s' f' q' kk' OO' J' M' gs' C (t++ops):=by
 obtain⟨n,g',D,W⟩:=hs;have hb:=A.hb;have B:=bm (P:=P) (A:=A) (Fin:=Fin) (Z:=Z) v;have w2:=gN h2;have r:dt P A Z s kk OO J M gs.size w t:=N.ex;have X:(A.b+j==0)=false:=by simp;omega
 have E:=runT_crowd_go (P:=P) (sl:=sl) (i:=A.b+j) hg (by rw[X];exact S)
 have F:bU P A s (A.b+j):=iz r.I a (bn L).2.2.2.2.1;obtain⟨y1,y2,y3⟩:=r.Li U F g.frame.fn g.frame.place;have o:∀op∈MemOp.ofEvents (A.b+j) g.frame.fn g.frame.place es,op.g=A.b+j:=λop Y=>by obtain⟨e,_,rfl⟩:=Go.Conc.mem_ofEvents Y;rfl
 obtain⟨m1,m2,c,e,c',m3,m4,_⟩:=mS p r.vg;have hP:=N.cE.sync (i:=A.b+j) (.inr ((r.hJ _).2 (vP a (bn L).2.2.2.2.2.1))) o m1 (r.calm p) (r.kept p) y2 y1;have G:dt P A Z (s.aO j x sh) kk OO J M gs.size w' (t++MemOp.ofEvents (A.b+j) g.frame.fn g.frame.place es):=r.work a L w2 ho hI T m2 ⟨c',e,m4⟩ y3
 have u:Beside (cB P A Fin Z v) s (s.aO j x sh) f f q (upd q (A.b+j) n) kk kk OO OO J J w' (A.b+j) g g1:=kG v a L w2 (λ_ _=>rfl) (λi hi=>upd_ne q n hi) (λ_ _ _=>rfl) (λ_ _ _=>rfl) (λ_ h=>h) z (λ{i k O y} hA=>B.me (s:=s) (i:=i) (k:=k) (O:=O) (g:=y) hA)
 have m:((s.aO j x sh).w j).jJ=true:=by rw[aN];exact h2
 refine⟨_,_,E,s.aO j x sh,f,upd q (A.b+j) n,kk,OO,J,M,_,_,_,rfl,hL,?_⟩;refine bJ.step B N hg o hP G (λl y H hA=>?_) u ⟨λH=>absurd H (iV a m),λ_=>⟨iV a m,?_,?_,g',?_,?_⟩,λhh=>absurd hh (pW a m),λ_ hn _=>absurd (iN a m) hn⟩
 . have K:l≠A.b+j:=λe=>R (e ▸ H)
   exact B.ub G ((u.held l K).2 H) _ _ (u.QC l _ _ _ K H hA)
 . show A.b+j<A.b+A.n+1;omega
 . rw[Deaf_own,Q]
   show deafBehind d es=dc P A (s.aO j x sh) (A.b+j);rw[eP a,aN];exact hd
 . exact .inr (.inl ⟨j,a,rfl,by rw[aN];exact W⟩)
 . exact .inr (by rw[upd_same];exact D)
theorem Dv(n:Nat):20<=BD n:=by unfold BD;omega
theorem qB{X:Node P}{h:Bool}(b:j<A.n)(a:s.w j=.run h X){y:Node P}(c:x.nd=some y)(d:x.work=true)(hu:y=X\/Relation.TransGen po y X)
 (f:4*Mu.meas A.n (Mu.set (λi=>(s.w i).pc) j x.pc) sh+x.ex A.n<4*Mu.meas A.n (λi=>(s.w i).pc) s.sh+2*BD A.n):MS.gM A.n (s.aO j x sh) s:=by
 have e:(s.w j).work=true:=by rw[a];rfl
 rcases hu with rfl|hu
 . exact vO b e d (by rw[c,a];rfl) (by rw[a];exact f)
 . exact BF b e d ⟨y,X,c,by rw[a];rfl,hu⟩
variable(C:iT P A.nm)(X:iU P A.nm)(F:rK P A.nm)
include C X F in
theorem Ik(E:A.b+A.n+1<=Z.lk)(H:bJ (cB P A Fin Z E) Z s f q kk OO J M gs w t)(a:j<A.n){h:Bool}{X0:Node P}(d:s.w j=.run h X0){Y:xI P}(hf:f (A.b+j)=Y.node)(hl:PE P A Y.k Y.O Y.g Y.N)(sl:Option (Nat × Nat)):
 Goes P A Fin Z E s gs w t sl (A.b+j):=by
 have D:dt P A Z s kk OO J M gs.size w t:=H.ex;obtain⟨_,l,p,u,v,_,G,_,z⟩:=H.live _ (kH a d);rw[hf]at l p u v z;have l:gs[A.b+j]?=some Y.g:=l;have u:Y.k=kk (A.b+j):=u;have v:Y.O=OO (A.b+j):=v;have p:Y.m=lC P A j:=by have:Y.m=bP P A Fin s (A.b+j):=p;rw[this,nR a d]
 obtain⟨kind,c,rest,e,hk,hg,K,B,L⟩:=hl;rw[u]at B L;rw[v]at K L
 have hh:h=false:=by
  cases h with
  |false=>rfl
  |true=>exact absurd K (D.xJ j a (by rw[d];rfl))
 subst hh;have Q:(s.w j).work=true:=by rw[d];rfl
 have y:(s.w j).pc=.out:=by rw[d];rfl
 have hu:=z j false X0 a rfl d Y.node (.inl rfl) trivial;obtain⟨g2,⟨n,r⟩,R⟩:=qU (P:=P) (n:=A.nm) (b:=A.fb) (o:=A.fo) (kind:=kind) (cs:=c::rest) (Wd:=lN A) F;rw[<-hg]at r;have a9:=Dv A.n;cases n with
 | zero=>
   have e0:Y.g=g2:=r;rw[<-e0]at R;obtain⟨g1,S,hr,g3,⟨k,T⟩,U⟩:=By (Wd:=lN A) (main:=false) (w:=w) C X R;refine G5 (x:=.lk .ig Y) (sh:=s.sh) E H a Q G (jW a d) rfl (by rw[d];rfl) (D.I.Wx a Q rfl rfl y rfl) (qB a d rfl rfl hu ?_) l S (bh rfl) D.mu (λe he=>by simp at he;subst he;exact .inl (.inl rfl)) rfl ⟨k,g3,T,kind,c,rest,e,hk,U,p,K,B,L⟩ (.inl λV=>V) sl
   show 4*Mu.meas A.n (Mu.set (λi=>(s.w i).pc) j .ig) s.sh+0<_
   rw[Dp a y];unfold BD;omega
 | succ n=>
   obtain⟨g1,⟨ad,W⟩,a7⟩:=r;have a8:lN A w:=(bm (P:=P) (A:=A) (Fin:=Fin) (Z:=Z) E).wd D;refine G5 (x:=.lk .ld Y) (sh:=s.sh) E H a Q G (jW a d) rfl (by rw[d];rfl) (D.I.still a Q rfl rfl (by rw[y];rfl)) (qB a d rfl rfl hu ?_) l (W false w a8) (bh rfl) D.mu fL rfl ⟨n,g2,a7,kind,c,rest,e,hk,R,p,K,B,L⟩ (.inl λV=>V) sl
   have e1:Mu.set (λi=>(s.w i).pc) j (bt.lk .ld Y).pc=λi=>(s.w i).pc:=by
    have:=mg (λi=>(s.w i).pc) j
    rw[show(s.w j).pc=(bt.lk .ld Y).pc from y]at this
    exact this
   rw[e1];show _+BD A.n<_;omega
end
section
variable{P:Program}{A:eu}{Fin:ah->ai->Goroutine->Prop}{Z:Base}{s:MS P}{f:Nat->Node P}{q:Nat->Nat}{kk:Nat->ah}{OO:Nat->ai}{J M:Nat->Prop}{gs:Array Goroutine}{w w':World}{t:Trace}{j:Nat}{x:bt P}{sh:Mu.Sh}{g g1:Goroutine}
variable(C:iT P A.nm)(X:iU P A.nm)(F:rK P A.nm)
include C X F in
theorem Dw(K:A.b+A.n+1<=Z.lk)(R:bJ (cB P A Fin Z K) Z s f q kk OO J M gs w t)(e:j<A.n){h:Bool}{X0:Node P}(d:s.w j=.run h X0){Y:xI P}(hf:f (A.b+j)=Y.node)(hl:G2 P A Y.k Y.O Y.g Y.N)(sl:Option (Nat × Nat)):
 Goes P A Fin Z K s gs w t sl (A.b+j):=by
 have E:dt P A Z s kk OO J M gs.size w t:=R.ex;obtain⟨_,p,r,z,B,_,L,_,D⟩:=R.live _ (kH e d);rw[hf]at p r z B D;have p:gs[A.b+j]?=some Y.g:=p;have z:Y.k=kk (A.b+j):=z;have B:Y.O=OO (A.b+j):=B;have r:Y.m=lC P A j:=by have:Y.m=bP P A Fin s (A.b+j):=r;rw[this,nR e d]
 obtain⟨kind,c,rest,tf,xo,a,hk,hg,G,vy,Q,T,U⟩:=hl;rw[z]at Q U;rw[B]at G vy U
 have hh:h=true:=by
  obtain⟨l,_,hl,h2,h3,_⟩:=E.tok _ _ G;obtain rfl:l=j:=by omega
  rw[d]at h3;exact h3
 subst hh;have S:(s.w j).work=true:=by rw[d];rfl
 have H:(s.w j).pc=.held:=by rw[d];rfl
 have hu:=D j true X0 e rfl d Y.node (.inl rfl) trivial;obtain⟨g2,⟨n,u⟩,V⟩:=pe (P:=P) (n:=A.nm) (b:=A.fb) (o:=A.fo) (kind:=kind) (cs:=c::rest) (Wd:=lN A) F;rw[<-hg]at u;have av:=Dv A.n
 have e1:Mu.set (λi=>(s.w i).pc) j .held=λi=>(s.w i).pc:=by
  have:=mg (λi=>(s.w i).pc) j
  rw[show(s.w j).pc=.held from H]at this
  exact this
 have y:∃f x a,OO (A.b+j) A.fb=some (.part f)/\OO (A.b+j) A.mb=some x/\mr (kk (A.b+j)) x a/\A.GI a/\Y.N (kk (A.b+j)) (((OO (A.b+j)).del A.mb).del A.fb) (kR kind c rest (.tuple #[])):=⟨tf,xo,a,G,vy,Q,T,U⟩;cases n with
 | zero=>
   have e0:Y.g=g2:=u;rw[<-e0]at V;obtain⟨v,hv⟩:=((bm (P:=P) (A:=A) (Fin:=Fin) (Z:=Z) K).wd E).2.2;obtain⟨g1,W,hr,g3,⟨k,a7⟩,a8⟩:=xA (Wd:=lN A) (main:=false) (w:=w) C X (λw h=>h.2.2) hv V
   refine G5 (x:=.un .ur Y) (sh:=s.sh) K R e S L (jW e d) rfl (by rw[d];rfl) (E.I.still e S rfl rfl (by rw[H];rfl)) (qB e d rfl rfl hu ?_) p W (bh rfl) E.mu fL rfl ⟨k,g3,a7,kind,c,rest,hk,a8,r,λ_=>y,λh=>absurd (.inr rfl) h⟩ (.inl λh0=>h0) sl
   show 4*Mu.meas A.n (Mu.set (λi=>(s.w i).pc) j .held) s.sh+4<_
   rw[e1];omega
 | succ n=>
   obtain⟨g1,⟨ax,a9⟩,ad⟩:=u;have al:lN A w:=(bm (P:=P) (A:=A) (Fin:=Fin) (Z:=Z) K).wd E;refine G5 (x:=.un .GN Y) (sh:=s.sh) K R e S L (jW e d) rfl (by rw[d];rfl) (E.I.still e S rfl rfl (by rw[H];rfl)) (qB e d rfl rfl hu ?_) p (a9 false w al) (bh rfl) E.mu fL rfl ⟨n,g2,ad,kind,c,rest,hk,V,r,λ_=>y,λh=>absurd (.inl rfl) h⟩ (.inl λh0=>h0) sl
   show 4*Mu.meas A.n (Mu.set (λi=>(s.w i).pc) j .held) s.sh+5<_
   rw[e1];omega
end
section
variable{P:Program}{A:eu}{Z:Base}{s:MS P}{kk:Nat->ah}{OO:Nat->ai}{J M:Nat->Prop}{gsz:Nat}{w w':World}{t:Trace}
theorem dt.TA(h:dt P A Z s kk OO J M gsz w t)(a:MW A.gb 0 w w'):Calm Z w w':=by obtain⟨d,c,_⟩:=mS a h.yX;have:=h.eN.2.2;exact⟨a.1,λb hb=>c b (by omega)⟩
theorem dt.TB(h:dt P A Z s kk OO J M gsz w t)(g:MW A.gb 0 w w'):∀b,Kept kk OO w w' b:=λb=>by
 obtain⟨q,j,c,e,k,l,m,o,p⟩:=mS g h.yX;by_cases hb:b=A.gb
 . subst hb
   refine .inr (.inr ⟨c,k,e,l,m,o,λi x a=>(by rw[(h.fV i).2]at a;cases a),λn=>?_⟩);by_cases d:n=0
   . subst d;exact .inr λi=>(h.dZ i).2.2.1
   . by_cases f:n=1
     . subst f;exact .inr λi=>(h.dZ i).2.2.2
     . exact .inl (p n d f)
 . exact .inl (j b hb)
theorem dt.PI(h:dt P A Z s kk OO J M gsz w t){n:Nat}(a:n=0\/n=1):KA kk OO w.heap.size (.cell ⟨A.gb,n,none⟩):=by
 have b:A.gb<w.heap.size:=by obtain⟨c,e,d⟩:=h.yX;exact(Array.getElem?_eq_some_iff.1 d).1
 refine⟨b,λi=>⟨dY (h.fV i).2,?_⟩⟩
 rcases a with rfl|rfl
 . exact(h.dZ i).2.2.1
 . exact(h.dZ i).2.2.2
theorem dt.Ll(h:dt P A Z s kk OO J M gsz w t){es:Array Event}(p:EvM A.gb 0 es){i:Nat}(q:bU P A s i)(fn:FuncId)(pos:String):
 BG kk OO w.heap.size t i (MemOp.ofEvents i fn pos es)/\(∀op∈MemOp.ofEvents i fn pos es,op.act.low w.heap.size)/\(∀op∈MemOp.ofEvents i fn pos es,(∀a,op.act.touch?=some a->a.kind=.atomic)/\∀a,op.act≠.mark (.release a))/\
 ∀op∈MemOp.ofEvents i fn pos es,∀a,op.act.touch?=some a->Z.Shun a.loc:=by
 have r:A.gb<w.heap.size:=by obtain⟨c,e,j⟩:=h.yX;exact(Array.getElem?_eq_some_iff.1 j).1
 refine⟨λop d a g=>?_,λop d=>?_,λop d=>?_,λop d a g=>?_⟩<;>obtain⟨e,l,rfl⟩:=Go.Conc.mem_ofEvents d<;>obtain⟨o,u,v⟩:=nQ (p e l)
 . obtain⟨j,n,f,k⟩:=o a g
   have f:n=0\/n=1:=by simpa using f
   refine⟨j,λ_=>by rw[k];exact h.PI f,λm b hb x y=>h.quiet m b hb ?_ y i q⟩
   rw[x,k];exact⟨rfl,.inr ⟨rfl,f⟩⟩
 . exact v _ r
 . exact⟨λa g=>(o a g).1,u⟩
 . obtain⟨j,n,f,k⟩:=o a g
   have f:n=0\/n=1:=by simpa using f
   rw[k];exact h.rE _ ⟨rfl,.inr ⟨rfl,f⟩⟩ ⟨_,rfl,rfl⟩
theorem Il{Z:Base}{J M:Nat->Prop}{t u:Trace}{i m:Nat}{op:MemOp}{a:Touch}(e:u[m]?=some op)(f:op.act.touch?=some a)(b:Z.Shun a.loc)(c:a.kind=.atomic)(d:¬(t++u).counts (t.size+m)):Told Z J M (t++u) (t.size+m) a:=.inr (.inr (.inr ⟨b,c,λh=>absurd h d⟩))
end
end Go.bd
namespace Go.bd
open Go.Conc
open Go.ConcN (sumTo upd sumTo_upd upd_ne upd_same)
variable{P:Program}
def bt.FB:bt P->Bool
 |.run ..=>true|.lk ..=>true|.un ..=>true|.Ah=>true|.dn .d1=>true|.dn .d2=>true|.dn .d4=>true|_=>false
theorem xO{x:bt P}(h:x.FB=true):x.cnt=1/\x.last=false/\x.jv=false/\x≠.gone/\x≠.wait/\∀p,(p=.d5\/p=.d6\/p=.d7)->x≠.dn p:=by
 cases x with
 |dn p=>cases p<;>simp_all [bt.FB,bt.cnt,bt.last,bt.jv]
 |_=>simp_all [bt.FB,bt.cnt,bt.last,bt.jv]
section
variable{s:MS P}{j n:Nat}{x:bt P}{sh:Mu.Sh}
theorem bT.same(I:bT n s)(v:j<n)(A:(s.w j).FB=true)(B:x.FB=true)(C:x.ik=(s.w j).ik)(D:x.ok=true)(E:Mu.Inv n (Mu.set (λi=>(s.w i).pc) j x.pc) sh):bT n (s.aO j x sh):=by
 obtain⟨M,a4,F,G,N,g⟩:=xO A;obtain⟨O,H,J,Q,K,k⟩:=xO B;have z:=pV (s:=s) (x:=x) (sh:=sh) bt.cnt v
 have look:∀{i:Nat}{y:bt P},(s.aO j x sh).w i=y->x≠y->i≠j/\s.w i=y:=λ{i y} h m=>by
  by_cases e:i=j
  . subst e;rw[aN]at h;exact absurd h m
  . rw[bu e]at h;exact⟨e,h⟩
 have back:∀{i:Nat}{y:bt P},s.w i=y->(s.w j)≠y->(s.aO j x sh).w i=y:=λ{i y} h m=>by
  by_cases e:i=j
  . subst e;exact absurd h m
  . rw[bu e];exact h
 have b:∀{i:Nat},((s.aO j x sh).w i).last=(s.w i).last:=λ{i}=>by
  by_cases e:i=j
  . subst e;rw[aN,a4,H]
  . rw[bu e]
 refine⟨?_,I.g2,I.tE,λi a h=>?_,λi l a L h d=>?_,λi a h=>?_,⟨I.g5.1,λh=>?_⟩,λh d o=>?_,λh d=>?_,λh=>?_,I.g9,λi a=>?_,I.Qy,I.sp,λi a=>?_,?_,λh i a=>?_,by rw[BE];exact E⟩
 . have:=I.g1
   show s.gc=sumTo n (λi=>((s.aO j x sh).w i).cnt)+s.ms.pend;omega
 . exact I.g3 i a (h.imp (λh=>(look h (k _ (by simp))).2) (λh=>(look h (k _ (by simp))).2))
 . rw[b]at h d;exact I.zw i l a L h d
 . exact I.g4 i a (look h (k _ (by simp))).2
 . obtain⟨q,r,t,f⟩:=I.g5.2 h
   exact⟨q,r,t,λi a=>by rw[b];exact f i a⟩
 . obtain⟨i,a,u⟩:=I.g6 h d o
   exact⟨i,a,back u (g _ (by simp))⟩
 . obtain⟨i,a,u⟩:=I.g7 h d
   exact⟨i,a,u.imp (λh=>back h (g _ (by simp))) (λh=>back h (g _ (by simp)))⟩
 . obtain⟨_,_,_,f⟩:=I.g8 h
   exact absurd (f j v) G
 . by_cases e:i=j
   . subst e;rw[aN];exact D
   . rw[bu e];exact I.ok i a
 . by_cases e:i=j
   . subst e
     rw[aN,J];have:=I.idle i a;rw[F]at this;exact this
   . rw[bu e];exact I.idle i a
 . have:=I.ms
   show match s.ms with
   |.add l=>s.sp+l=n/\s.c=.none
   |.bD l p=>s.sp+l=n/\s.c=.none/\1<=l/\(p=.a0\/p=.a2\/p=.a4\/p=.ae)
   |.spawn l=>s.sp+l+1=n/\s.c=.none
   |.recv=>s.sp=n/\s.c≠.none
   |.parked=>s.sp=n/\s.c≠.none/\s.c≠.gone/\∀i,i<n->(s.aO j x sh).w i≠.wait
   cases e:s.ms with
   |parked=>rw[e]at this;obtain⟨q,r,t,f⟩:=this;exact⟨q,r,t,λi a h=>f i a (look h K).2⟩
   |_=>rw[e]at this;exact this
 . by_cases e:i=j
   . subst e;rw[aN,C];exact I.early h i a
   . rw[bu e];exact I.early h i a
theorem xP(a:j<n)(h:x.cS<(s.w j).cS):MS.gM n (s.aO j x sh) s:=by
 have:=pV (s:=s) (x:=x) (sh:=sh) bt.cS a;refine .inl ?_;show s.ms.cS+sumTo n (λi=>((s.aO j x sh).w i).cS)+s.c.cS s.gc<s.ms.cS+sumTo n (λi=>(s.w i).cS)+s.c.cS s.gc;omega
theorem bT.BJ(I:bT n s)(a:j<n)(b:(s.w j).FB=true)(c:x.FB=true)(d:x.ik=(s.w j).ik)(e:x.ok=true)(f:x.pc=(s.w j).pc):bT n (s.aO j x s.sh):=I.same a b c d e (by rw[f,mg (λi=>(s.w i).pc)];exact I.mu)
end
end Go.bd
namespace Go.bd
open Go.Conc
open Go.ConcN (sumTo upd sumTo_upd upd_ne upd_same)
section
variable{P:Program}{A:eu}{Fin:ah->ai->Goroutine->Prop}{Z:Base}{s:MS P}{f f':Nat->Node P}{q q':Nat->Nat}{kk kk':Nat->ah}{OO OO':Nat->ai}{J J' M:Nat->Prop}{gs:Array Goroutine}{w w':World}{t:Trace}{j:Nat}{x:bt P}{sh:Mu.Sh}{g g1:Goroutine}
theorem vi(D:A.b+A.n+1<=Z.lk)(W:j<A.n)(E:x.ik=(s.w j).ik)(F:∀i,i≠A.b+j->f' i=f i)(G:∀i,i≠A.b+j->q' i=q i)(H:∀i,i≠A.b+j->i<A.b+A.n+1->kk' i=kk i)(I:∀i,i≠A.b+j->i<A.b+A.n+1->OO' i=OO i)(K:∀i,i≠A.b+j->J i->J' i)
 (m:(s.sh.ms=0->sh.ms=0)\/(mayWake P g=true/\g1.status=.running)) (L:∀{i k O y},Tr P A Fin s i k O y->y.status=.running/\y.offers=none):
 Beside (cB P A Fin Z D) s (s.aO j x sh) f f' q q' kk kk' OO OO' J J' w' (A.b+j) g g1:=by
 have hb:=A.hb;have wl:∀{i l:Nat},i≠A.b+j->i=A.b+l->(s.aO j x sh).w l=s.w l:=λ{i l} h e=>bu (by omega)
 have u:MS.rem P A.n (s.aO j x sh)=MS.rem P A.n s:=Dq E
 have live:∀i,i≠A.b+j->(dH P A (s.aO j x sh) i↔dH P A s i):=λi a=>by
  constructor<;>rintro(h|⟨l,p,d,c⟩|h)
  . exact .inl h
  . exact .inr (.inl ⟨l,p,d,by rw[<-wl a d];exact c⟩)
  . exact .inr (.inr h)
  . exact .inl h
  . exact .inr (.inl ⟨l,p,d,by rw[wl a d];exact c⟩)
  . exact .inr (.inr h)
 have walk:∀i,i≠A.b+j->(fE P A (s.aO j x sh) i↔fE P A s i):=λi a=>by
  constructor<;>rintro(h|⟨l,p,d,c⟩|h)
  . exact .inl h
  . exact .inr (.inl ⟨l,p,d,by rw[<-wl a d];exact c⟩)
  . exact .inr (.inr h)
  . exact .inl h
  . exact .inr (.inl ⟨l,p,d,by rw[wl a d];exact c⟩)
  . exact .inr (.inr h)
 have held:∀i,i≠A.b+j->(eM P A (s.aO j x sh) i↔eM P A s i):=λi a=>by
  constructor<;>rintro(h|⟨l,p,d,c⟩)
  . exact .inl h
  . exact .inr ⟨l,p,d,by rw[<-wl a d];exact c⟩
  . exact .inl h
  . exact .inr ⟨l,p,d,by rw[wl a d];exact c⟩
 refine⟨F,G,H,I,λi a _ h=>K i a h,live,walk,held,λi a M=>?_,λi k O y a _ v=>?_,λi a C=>?_,λi a C hd=>?_,λi k O y a _ v=>?_,λi y a _ N=>?_⟩
 . show bP P A Fin (s.aO j x sh) i=bP P A Fin s i
   unfold bP;rw[u]
   rcases M with⟨rfl,_⟩|⟨l,c,rfl,_⟩|⟨rfl,_⟩
   . rfl
   . have e:A.b+l-A.b=l:=by omega
     rw[e,bu (by omega)]
     rfl
   . rw[if_neg (by omega),if_neg (by omega),if_neg (by omega),if_neg (by omega)]
     rfl
 . rcases v with h|⟨l,c,o,r⟩|h
   . exact .inl h
   . exact .inr (.inl ⟨l,c,o,by rw[wl a o];exact r⟩)
   . exact .inr (.inr h)
 . show dc P A (s.aO j x sh) i=dc P A s i
   unfold dc
   rcases C with⟨rfl,_⟩|⟨l,c,rfl,_⟩|⟨rfl,_⟩
   . rfl
   . have e:A.b+l-A.b=l:=by omega
     rw[e,bu (by omega)]
     rfl
   . rw[if_neg (by omega),if_neg (by omega),if_neg (by omega),if_neg (by omega)]
     rfl
 . rcases m with m|⟨Q,u⟩
   . refine .inl ?_
     rcases hd with⟨l,sv,Y,c,o,r,B⟩|h
     . exact .inl ⟨l,sv,Y,c,o,by rw[wl a o];exact r,m B⟩
     . exact .inr h
   . refine .inr λy R=>?_
     obtain⟨S,T⟩:=L R;have U:(mayWake P g && g1.status !=.blocked && g1.status !=.waiting)=true:=by rw[Q,u];rfl
     unfold Go.Conc.woken;rw[if_pos U,qx S T]
 . rcases v with⟨V,t,z,c,o,r,B⟩|h
   . exact .inl ⟨V,t,z,c,o,r,by rw[u];exact B⟩
   . exact .inr h
 . exact λl b X c o r=>N l b X c o (by rw[<-r];exact(wl a o).symm)
theorem mT(a:j<A.n){p:vN}(e:s.w j=.dn p):fE P A s (A.b+j):=.inr (.inl ⟨j,a,rfl,by rw[e];trivial⟩)
theorem kI(c:j<A.n){p:vN}(e:s.w j=.dn p):¬dH P A s (A.b+j):=by
 have:=A.hb;rintro(⟨e,_⟩|⟨l,d,f,a⟩|⟨e,_⟩)
 . omega
 . obtain rfl:l=j:=by omega
   rw[e]at a;exact a
 . omega
theorem pX(c:j<A.n){p:vN}(e:s.w j=.dn p):¬eM P A s (A.b+j):=by
 have:=A.hb;rintro(⟨e,_⟩|⟨l,d,f,a⟩)
 . omega
 . obtain rfl:l=j:=by omega
   rw[e]at a;cases a
end
section
variable{P:Program}{A:eu}{Fin:ah->ai->Goroutine->Prop}{Z:Base}{s:MS P}{f:Nat->Node P}{q:Nat->Nat}{kk:Nat->ah}{OO:Nat->ai}{J M:Nat->Prop}{gs:Array Goroutine}{gsz:Nat}{w w':World}{t u:Trace}{j:Nat}{x:bt P}{sh:Mu.Sh}{g:Goroutine}
theorem dt.Lm(h:dt P A Z s kk OO J M gsz w t)(E:j<A.n)(m:x.busy=(s.w j).busy)(F:x.owns=(s.w j).owns)(G:bT A.n (s.aO j x sh))(r:ShM A.fb A.fo w' sh)
 (d:∀b,b≠A.fb->w'.heap[b]?=w.heap[b]?) (v:∃c e,w'.heap[A.fb]?=some (.cells c e (0,0))) (z:∀op∈u,(∀a,op.act.touch?=some a->a.kind=.atomic)/\∀a,op.act≠.mark (.release a)):
 dt P A Z (s.aO j x sh) kk OO J M gsz w' (t++u):=by
 have g:∀l,((s.aO j x sh).w l).owns=(s.w l).owns:=λl=>by
  by_cases e:l=j
  . subst e;rw[aN,F]
  . rw[bu e]
 refine⟨G,h.size,by rw[d _ A.d1];exact h.yE,r,h.gr.same (.of_heap (d _ (Ne.symm A.d4))),v,by rw[d _ (Ne.symm A.d4)];exact h.yX,h.fV,h.dZ,λi y H=>?_,λl p o=>h.xJ l p (by rw[<-g l];exact o),λo=>h.Lf λl p=>by rw[<-g l];exact o l p,λc I=>?_,
  λi=>by rw[h.hJ i];exact(mi E m i).symm,h.sY u,h.lD u,h.jw u (λop k a B _ q=>?_),h.mR u (λop k a B _ q=>?_),h.oJ u,h.iy u (λop k=>(z op k).2),h.Dl,h.rE,h.jV,h.eN,h.la,by simp;exact Nat.le_trans h.n0 (Nat.le_add_right _ _)⟩
 . obtain⟨l,f,C,D,K,L⟩:=h.tok i y H
   exact⟨l,f,C,D,by rw[g];exact K,L⟩
 . obtain⟨C,D⟩:=h.JF c I
   exact⟨C,λl p=>by rw[g];exact D l p⟩
 . rw[(z op k).1 a B]at q;cases q
 . rw[(z op k).1 a B]at q;cases q
variable(C:jH P A.ng)(X:ll P A.ng)
include C X in
theorem OI(D:A.b+A.n+1<=Z.lk)(N:bJ (cB P A Fin Z D) Z s f q kk OO J M gs w t)(c:j<A.n)(o:s.w j=.dn .d2)(hg:gs[A.b+j]?=some g)(Q:Ih P A j (.dn .d2) (kk (A.b+j)) (OO (A.b+j)) g)(sl:Option (Nat × Nat)):
 Goes P A Fin Z D s gs w t sl (A.b+j):=by
 have u:dt P A Z s kk OO J M gs.size w t:=N.ex;have B:=bm (P:=P) (A:=A) (Fin:=Fin) (Z:=Z) D;have hb:=A.hb;have R:(A.b+j==0)=false:=by simp;omega
 obtain⟨fw,fn,tmps,todo,S,E,hM⟩:=Q;obtain⟨g1,T,hr,g2,⟨k,F⟩,G⟩:=Vr (Wd:=lN A) (main:=false) (w:=w) C X hM;obtain⟨x,p⟩:∃x:bt P,x=.dn .d4:=⟨_,rfl⟩;have d:(s.aO j x s.sh).w j=.dn .d4:=by rw[aN,p]
 have U:=mT (P:=P) (A:=A) (s:=s) c o
 have v:Deaf t (A.b+j)=0:=by obtain⟨_,_,v,_⟩:=N.walk _ U;rw[v];show dc P A s (A.b+j)=0;rw[eP c,o];rfl
 have H:=runT_crowd_go (P:=P) (sl:=sl) (i:=A.b+j) hg (by rw[R];exact T)
 have K:bU P A s (A.b+j):=iz u.I c (by rw[o];rfl)
 obtain⟨y1,y2,y3,y4⟩:=u.Ll (es:=#[⟨.mark .disable,false,true⟩]) (λe L=>by simp at L;subst L;exact .inl (.inl rfl)) K g.frame.fn g.frame.place
 have r:∀op∈MemOp.ofEvents (A.b+j) g.frame.fn g.frame.place #[⟨.mark .disable,false,true⟩],op.g=A.b+j:=λop z=>by obtain⟨e,_,rfl⟩:=Go.Conc.mem_ofEvents z;rfl
 have V:∀op∈MemOp.ofEvents (A.b+j) g.frame.fn g.frame.place #[⟨.mark .disable,false,true⟩],op.act.touch?=none:=λop z=>by obtain⟨e,L,rfl⟩:=Go.Conc.mem_ofEvents z;simp at L;subst L;rfl
 have hP:=N.cE.PF (i:=A.b+j) (w':=w) r rfl ⟨⟨.refl _,rfl⟩,λ_ _=>rfl⟩ (λb=>.inl rfl) y2 y1 (λm op a h1 h2 _=>by rw[V op (Array.mem_of_getElem? h1)]at h2;cases h2)
 have hI:bT A.n (s.aO j x s.sh):=u.I.BJ c (by rw[o];rfl) (by rw[p];rfl) (by rw[p,o];rfl) (by rw[p];rfl) (by rw[p,o];rfl)
 have hL:MS.gM A.n (s.aO j x s.sh) s:=xP c (by rw[p,o];simp[bt.cS])
 have W:=u.Lm (x:=x) (sh:=s.sh) (w':=w) c (by rw[p,o];rfl) (by rw[p,o];rfl) hI u.mu (λ_ _=>rfl) u.vg y3
 have Y:Beside (cB P A Fin Z D) s (s.aO j x s.sh) f f q (upd q (A.b+j) k) kk kk OO OO J J w (A.b+j) g g1:=vi D c (by rw[p,o];rfl) (λi hi=>rfl) (λi hi=>upd_ne q k hi) (λ_ _ _=>rfl) (λ_ _ _=>rfl) (λ_ _ h=>h) (.inl λh=>h) (λ{i k O y} G=>B.me (s:=s) (i:=i) (k:=k) (O:=O) (g:=y) G)
 refine⟨_,_,H,s.aO j x s.sh,f,upd q (A.b+j) k,kk,OO,J,M,_,_,_,rfl,hL,?_⟩;refine bJ.step B N hg r hP W (λl y hl G=>B.ub u hl _ _ G) Y ⟨λhl=>absurd hl (kI c d),λ_=>⟨kI c d,?_,?_,g2,?_,?_⟩,λhh=>absurd hh (pX c d),λ_ hn _=>absurd (mT c d) hn⟩
 . show A.b+j<A.b+A.n+1;omega
 . rw[Deaf_own,v]
   show _=dc P A (s.aO j x s.sh) (A.b+j);rw[eP c,d];rfl
 . refine .inr (.inl ⟨j,c,rfl,?_⟩)
   rw[d];exact⟨fw,fn,tmps,todo,S,E,G⟩
 . exact .inr (by rw[upd_same];exact F)
end
section
variable{Z:Base}{kk:Nat->ah}{OO:Nat->ai}{J M:Nat->Prop}{w:World}{t:Trace}
theorem cA.bI(h:cA Z kk OO J M w t){i:Nat}{ad:Addr}(r:ad.block<w.heap.size)(hd:Deaf t i=0)(fn:FuncId)(pos:String):
 cA Z kk OO (λl=>J l/\l≠i) (λp=>M p\/p=t.size) w (t++MemOp.ofEvents i fn pos #[⟨.mark (.releaseMerge ad),false,true⟩]):=by
 obtain⟨u,B⟩:∃u,u=MemOp.ofEvents i fn pos #[⟨.mark (.releaseMerge ad),false,true⟩]:=⟨_,rfl⟩;have d:u=#[⟨i,fn,pos,.mark (.releaseMerge ad)⟩]:=by rw[B,ofEvents_eq];simp[MemAct.ofEvent]
 rw[<-B];have f:∀op∈u,op.act.touch?=none:=λop c=>by rw[d]at c;simp at c;subst c;rfl
 have o:∀op∈u,op.g=i:=λop c=>by rw[d]at c;simp at c;subst c;rfl
 have z:u[0]?=some ⟨i,fn,pos,.mark (.releaseMerge ad)⟩:=by rw[d];rfl
 exact h.tY (λa b=>a=b) rfl ⟨⟨.refl _,rfl⟩,λ_ _=>rfl⟩ (λb=>.inl rfl) (λop c=>by rw[d]at c;simp at c;subst c;simpa[MemAct.low]using r) (λa b e n y _ _ _ C=>by subst e;exact C.app u)
  (λj b n v h=>⟨j,rfl,h⟩) (λj b s h=>⟨j,rfl,h⟩) (λj b x h=>⟨j,rfl,h,λ_ h=>h⟩) h.ju
  (λsaid=>noRace_append (h.clean said) o λn a k op c b hb _=>by rw[f op c]at hb;cases hb) (λop c a k=>by rw[f op c]at k;cases k) (λm op a c k=>by rw[f op (Array.mem_of_getElem? c)]at k;cases k)
  (fun n a k D h=>h.elim (λ⟨j,A,q⟩=>by
    by_cases e:j=i
    . subst e;exact .inr (.inr (.inl ⟨t.size+0,.inr rfl,l8 q z rfl⟩))
    . exact .inr (.inl ⟨j,⟨A,e⟩,q.app _⟩)) (λ⟨p,A,q⟩=>.inr (.inr (.inl ⟨p,.inl A,q.app _⟩))))
end
section
variable{P:Program}{A:eu}{Fin:ah->ai->Goroutine->Prop}{Z:Base}{s:MS P}{f:Nat->Node P}{q:Nat->Nat}{kk:Nat->ah}{OO:Nat->ai}{J M:Nat->Prop}{gs:Array Goroutine}{gsz:Nat}{w w':World}{t u:Trace}{j:Nat}{x:bt P}{sh:Mu.Sh}{g:Goroutine}
theorem dt.bI(h:dt P A Z s kk OO J M gsz w t)(hj:j<A.n)(B:x.busy=false)(C:s.c=.none\/s.c=.eU\/∃q,s.c=.wt q)(hd:Deaf t (A.b+j)=0)(H:∃op,u[0]?=some op/\op.g=A.b+j/\op.act=.mark (.releaseMerge ⟨A.gb,0,none⟩))(D:lZ u)(T:x.owns=(s.w j).owns)(U:bT A.n (s.aO j x sh))(I:ShM A.fb A.fo w' sh)
 (d:∀b,b≠A.fb->w'.heap[b]?=w.heap[b]?) (K:∃c e,w'.heap[A.fb]?=some (.cells c e (0,0))) (L:∀op∈u,(∀a,op.act.touch?=some a->a.kind=.atomic)/\∀a,op.act≠.mark (.release a)):
 dt P A Z (s.aO j x sh) kk OO (λl=>J l/\l≠A.b+j) (λp=>M p\/p=t.size) gsz w' (t++u):=by
 have k:∀l,((s.aO j x sh).w l).owns=(s.w l).owns:=λl=>by
  by_cases e:l=j
  . subst e;rw[aN,T]
  . rw[bu e]
 refine⟨U,h.size,by rw[d _ A.d1];exact h.yE,I,h.gr.same (.of_heap (d _ (Ne.symm A.d4))),K,by rw[d _ (Ne.symm A.d4)];exact h.yX,h.fV,h.dZ,λi y V=>?_,λl F E=>h.xJ l F (by rw[<-k l];exact E),λE=>h.Lf λl F=>by rw[<-k l];exact E l F,λc N=>?_,
  λi=>?_,λp O=>?_,λN=>?_,h.jw u (λop v a Q _ G=>?_),h.mR u (λop v a Q _ G=>?_),h.oJ u,h.iy u (λop v=>(L op v).2),h.Dl,h.rE,h.jV,h.eN,h.la,by simp;exact Nat.le_trans h.n0 (Nat.le_add_right _ _)⟩
 . obtain⟨l,f,o,r,z,W⟩:=h.tok i y V
   exact⟨l,f,o,r,by rw[k];exact z,W⟩
 . obtain⟨o,r⟩:=h.JF c N
   exact⟨o,λl F=>by rw[k];exact r l F⟩
 . rw [h.hJ i]
   constructor
   . rintro⟨⟨l,o,r,z⟩|⟨o,r⟩,X⟩
     . exact .inl ⟨l,o,r,by rw[bu (by omega)];exact z⟩
     . exact .inr ⟨o,r⟩
   . rintro (⟨l,o,r,z⟩|⟨o,r⟩)
     . by_cases e:l=j
       . subst e;rw[aN,B]at z;cases z
       . rw[bu e]at z;exact⟨.inl ⟨l,o,r,z⟩,by omega⟩
     . exact⟨.inr ⟨o,r⟩,by omega⟩
 . rcases O with O|rfl
   . exact h.sY u p O
   . obtain⟨op,R,Y,e3⟩:=H
     refine⟨heard_new (m:=0) D R (by rw[Y];exact hd),h.n0,.inl ⟨?_,C⟩⟩;have S:=act?_of (dw (t:=t) (m:=0) R);rw[e3]at S;exact S
 . obtain⟨p,o,r,z⟩:=h.lD u N
   exact⟨p,.inl o,r,z⟩
 . rw[(L op v).1 a Q]at G;cases G
 . rw[(L op v).1 a Q]at G;cases G
variable(C:jH P A.ng)(X:ll P A.ng)
include C X in
theorem OJ(F:A.b+A.n+1<=Z.lk)(R:bJ (cB P A Fin Z F) Z s f q kk OO J M gs w t)(d:j<A.n)(o:s.w j=.dn .d1)(hg:gs[A.b+j]?=some g)(S:Ih P A j (.dn .d1) (kk (A.b+j)) (OO (A.b+j)) g)(sl:Option (Nat × Nat)):
 Goes P A Fin Z F s gs w t sl (A.b+j):=by
 have v:dt P A Z s kk OO J M gs.size w t:=R.ex;have B:=bm (P:=P) (A:=A) (Fin:=Fin) (Z:=Z) F;have hb:=A.hb;have T:(A.b+j==0)=false:=by simp;omega
 obtain⟨fw,fn,tmps,todo,U,G,hM⟩:=S;obtain⟨g1,V,hr,g2,⟨k,H⟩,K⟩:=Vq (Wd:=lN A) (main:=false) (w:=w) C X hM;obtain⟨x,z⟩:∃x:bt P,x=.dn .d2:=⟨_,rfl⟩;have m:(s.aO j x s.sh).w j=.dn .d2:=by rw[aN,z]
 have W:=mT (P:=P) (A:=A) (s:=s) d o
 have r:Deaf t (A.b+j)=0:=by obtain⟨_,_,r,_⟩:=R.walk _ W;rw[r];show dc P A s (A.b+j)=0;rw[eP d,o];rfl
 have L:=runT_crowd_go (P:=P) (sl:=sl) (i:=A.b+j) hg (by rw[T];exact V)
 have a8:bU P A s (A.b+j):=iz v.I d (by rw[o];rfl)
 have N:∀op∈MemOp.ofEvents (A.b+j) g.frame.fn g.frame.place #[⟨.mark (.releaseMerge ⟨A.gb,0,none⟩),false,true⟩],op.g=A.b+j:=λop u=>by obtain⟨e,_,rfl⟩:=Go.Conc.mem_ofEvents u;rfl
 have y3:∀op∈MemOp.ofEvents (A.b+j) g.frame.fn g.frame.place #[⟨.mark (.releaseMerge ⟨A.gb,0,none⟩),false,true⟩],(∀a,op.act.touch?=some a->a.kind=.atomic)/\∀a,op.act≠.mark (.release a):=λop u=>by obtain⟨e,Q,rfl⟩:=Go.Conc.mem_ofEvents u;simp at Q;subst Q;exact⟨λa ha=>by simp[MemAct.ofEvent,MemAct.touch?]at ha,λa h=>by simp[MemAct.ofEvent]at h⟩
 have D:lZ (MemOp.ofEvents (A.b+j) g.frame.fn g.frame.place #[⟨.mark (.releaseMerge ⟨A.gb,0,none⟩),false,true⟩]):=λop u=>by obtain⟨e,Q,rfl⟩:=Go.Conc.mem_ofEvents u;simp at Q;subst Q;simp[MemAct.ofEvent]
 have hG:A.gb<w.heap.size:=by obtain⟨c,e,h1⟩:=v.yX;exact(Array.getElem?_eq_some_iff.1 h1).1
 have hP:=R.cE.bI (i:=A.b+j) (ad:=⟨A.gb,0,none⟩) hG r g.frame.fn g.frame.place
 have E:s.c=.none\/s.c=.eU\/∃q,s.c=.wt q:=by
  cases e:s.c with
  |none=>exact .inl rfl
  |eU=>exact .inr (.inl rfl)
  |wt p=>exact .inr (.inr ⟨p,rfl⟩)
  |kF=>have:=(v.I.g8 (by rw[e];rfl)).2.2.2 j d;rw[o]at this;cases this
  |gone=>have:=(v.I.g8 (by rw[e];rfl)).2.2.2 j d;rw[o]at this;cases this
 have hI:bT A.n (s.aO j x s.sh):=v.I.BJ d (by rw[o];rfl) (by rw[z];rfl) (by rw[z,o];rfl) (by rw[z];rfl) (by rw[z,o];rfl)
 have hL:MS.gM A.n (s.aO j x s.sh) s:=xP d (by rw[z,o];simp[bt.cS])
 have Y:=v.bI (x:=x) (sh:=s.sh) (w':=w) d (by rw[z];rfl) E r ⟨⟨A.b+j,g.frame.fn,g.frame.place,.mark (.releaseMerge ⟨A.gb,0,none⟩)⟩,by rw[ofEvents_eq];simp[MemAct.ofEvent],rfl,rfl⟩ D (by rw[z,o];rfl) hI v.mu (λ_ _=>rfl) v.vg y3
 have a7:Beside (cB P A Fin Z F) s (s.aO j x s.sh) f f q (upd q (A.b+j) k) kk kk OO OO J (λl=>J l/\l≠A.b+j) w (A.b+j) g g1:=vi F d (by rw[z,o];rfl) (λi hi=>rfl) (λi hi=>upd_ne q k hi) (λ_ _ _=>rfl) (λ_ _ _=>rfl) (λ_ hn h=>⟨h,hn⟩) (.inl λh=>h) (λ{i k O y} K=>B.me (s:=s) (i:=i) (k:=k) (O:=O) (g:=y) K)
 refine⟨_,_,L,s.aO j x s.sh,f,upd q (A.b+j) k,kk,OO,(λl=>J l/\l≠A.b+j),(λp=>M p\/p=t.size),_,_,_,rfl,hL,?_⟩
 refine bJ.step B R hg N hP Y (λl y hl K=>B.ub v hl _ _ K) a7 ⟨λhl=>absurd hl (kI d m),λ_=>⟨kI d m,?_,?_,g2,?_,?_⟩,λhh=>absurd hh (pX d m),λ_ hn _=>absurd (mT d m) hn⟩
 . show A.b+j<A.b+A.n+1;omega
 . rw[Deaf_own,r]
   show _=dc P A (s.aO j x s.sh) (A.b+j);rw[eP d,m];rfl
 . refine .inr (.inl ⟨j,d,rfl,?_⟩)
   rw[m];exact⟨fw,fn,tmps,todo,U,G,K⟩
 . exact .inr (by rw[upd_same];exact H)
end
structure eX{P:Program}(A:eu)(s s':MS P)(i:Nat):Prop where
 w:∀l,l<A.n->A.b+l≠i->s'.w l=s.w l
 c:i≠A.b+A.n->s'.c=s.c
 ms:i≠0->s'.ms=s.ms
 sp:s'.sp=s.sp
 ik:∀l,l<A.n->(s'.w l).ik=(s.w l).ik
section
variable{P:Program}{A:eu}{Fin:ah->ai->Goroutine->Prop}{Z:Base}{s s':MS P}{f f':Nat->Node P}{q q':Nat->Nat}{kk kk':Nat->ah}{OO OO':Nat->ai}{J J' M:Nat->Prop}{gs:Array Goroutine}{gsz:Nat}{w w':World}{t u:Trace}{i:Nat}{g g1:Goroutine}
theorem eX.rem(h:eX A s s' i):MS.rem P A.n s'=MS.rem P A.n s:=by
 unfold MS.rem;refine List.filter_congr λl a=>?_
 rw[h.ik l (List.mem_range.1 a)]
theorem eX.live(h:eX A s s' i){j:Nat}(d:j≠i):dH P A s' j↔dH P A s j:=by
 constructor<;>rintro(⟨b,a⟩|⟨l,a,f,g⟩|⟨b,a⟩)
 . exact .inl ⟨b,by rw[<-h.ms (λe=>d (b.trans e.symm))];exact a⟩
 . exact .inr (.inl ⟨l,a,f,by rw[<-h.w l a (λe=>d (f.trans e))];exact g⟩)
 . exact .inr (.inr ⟨b,by rw[<-h.c (λe=>d (b.trans e.symm))];exact a⟩)
 . exact .inl ⟨b,by rw[h.ms (λe=>d (b.trans e.symm))];exact a⟩
 . exact .inr (.inl ⟨l,a,f,by rw[h.w l a (λe=>d (f.trans e))];exact g⟩)
 . exact .inr (.inr ⟨b,by rw[h.c (λe=>d (b.trans e.symm))];exact a⟩)
theorem eX.walk(h:eX A s s' i){j:Nat}(d:j≠i):fE P A s' j↔fE P A s j:=by
 constructor<;>rintro(⟨b,a⟩|⟨l,a,f,g⟩|⟨b,a⟩)
 . exact .inl ⟨b,by rw[<-h.ms (λe=>d (b.trans e.symm))];exact a⟩
 . exact .inr (.inl ⟨l,a,f,by rw[<-h.w l a (λe=>d (f.trans e))];exact g⟩)
 . exact .inr (.inr ⟨b,by rw[<-h.c (λe=>d (b.trans e.symm))];exact a⟩)
 . exact .inl ⟨b,by rw[h.ms (λe=>d (b.trans e.symm))];exact a⟩
 . exact .inr (.inl ⟨l,a,f,by rw[h.w l a (λe=>d (f.trans e))];exact g⟩)
 . exact .inr (.inr ⟨b,by rw[h.c (λe=>d (b.trans e.symm))];exact a⟩)
theorem eX.held(h:eX A s s' i){j:Nat}(b:j≠i):eM P A s' j↔eM P A s j:=by
 constructor<;>rintro(⟨c,a⟩|⟨l,a,d,f⟩)
 . exact .inl ⟨c,by rw[<-h.ms (λe=>b (c.trans e.symm))];exact a⟩
 . exact .inr ⟨l,a,d,by rw[<-h.w l a (λe=>b (d.trans e))];exact f⟩
 . exact .inl ⟨c,by rw[h.ms (λe=>b (c.trans e.symm))];exact a⟩
 . exact .inr ⟨l,a,d,by rw[h.w l a (λe=>b (d.trans e))];exact f⟩
theorem xQ(K:A.b+A.n+1<=Z.lk)(t:eX A s s' i)(L:∀j,j≠i->f' j=f j)(M:∀j,j≠i->q' j=q j)(N:∀j,j≠i->j<A.b+A.n+1->kk' j=kk j)(Q:∀j,j≠i->j<A.b+A.n+1->OO' j=OO j)(R:∀j,j≠i->J j->J' j)
 (p:((s.sh.ms=0->s'.sh.ms=0)/\(s.gm=0->s'.gm=0))\/(mayWake P g=true/\(g1.status=.running\/g1.status=.finished))) (S:∀{i k O y},Tr P A Fin s i k O y->y.status=.running/\y.offers=none):
 Beside (cB P A Fin Z K) s s' f f' q q' kk kk' OO OO' J J' w' i g g1:=by
 have hb:=A.hb;have u:=t.rem;have wl:∀{j l:Nat},l<A.n->j≠i->j=A.b+l->s'.w l=s.w l:=λ{j l} G a e=>t.w l G (λh=>a (e.trans h))
 have v:∀{j:Nat},j≠i->j=0->s'.ms=s.ms:=λa e=>t.ms (λh=>a (e.trans h.symm))
 have D:∀{j:Nat},j≠i->j=A.b+A.n->s'.c=s.c:=λa e=>t.c (λh=>a (e.trans h.symm))
 refine⟨L,M,N,Q,λj a _ h=>R j a h,λj a=>t.live a,λj a=>t.walk a,λj a=>t.held a,λj a G=>?_,λj k O y a _ H=>?_,λj a I=>?_,λj a I hd=>?_,λj k O y a _ H=>?_,λj y a _ T=>?_⟩
 . show bP P A Fin s' j=bP P A Fin s j
   unfold bP;rw[u]
   rcases G with⟨d,_⟩|⟨l,m,o,_⟩|⟨d,_⟩
   . simp only[if_pos d,v a d]
   . have e:j-A.b=l:=by omega
     have x:¬j=0:=by omega
     have B:j<A.b+A.n:=by omega
     simp only[if_neg x,if_pos B,e,wl m a o]
   . have x:¬j=0:=by omega
     have B:¬j<A.b+A.n:=by omega
     simp only[if_neg x,if_neg B,D a d]
 . rcases H with⟨d,h⟩|⟨l,m,o,r⟩|⟨d,h⟩
   . exact .inl ⟨d,by rw[v a d];exact h⟩
   . exact .inr (.inl ⟨l,m,o,by rw[wl m a o];exact r⟩)
   . exact .inr (.inr ⟨d,by rw[D a d];exact h⟩)
 . show dc P A s' j=dc P A s j
   unfold dc
   rcases I with⟨d,_⟩|⟨l,m,o,_⟩|⟨d,_⟩
   . simp only[if_pos d,v a d]
   . have e:j-A.b=l:=by omega
     have x:¬j=0:=by omega
     have B:j<A.b+A.n:=by omega
     simp only[if_neg x,if_pos B,e,wl m a o]
   . have x:¬j=0:=by omega
     have B:¬j<A.b+A.n:=by omega
     simp only[if_neg x,if_neg B,D a d]
 . rcases p with⟨p,C⟩|⟨U,u⟩
   . refine .inl ?_
     rcases hd with⟨l,sv,Y,m,o,r,E⟩|⟨d,r,E⟩
     . exact .inl ⟨l,sv,Y,m,o,by rw[wl m a o];exact r,p E⟩
     . exact .inr ⟨d,by rw[D a d];exact r,C E⟩
   . refine .inr λy V=>?_
     obtain⟨W,a2⟩:=S V;have D:(mayWake P g && g1.status !=.blocked && g1.status !=.waiting)=true:=by rcases u with u|u<;>rw[U,u]<;>rfl
     unfold Go.Conc.woken;rw[if_pos D,qx W a2]
 . rcases H with⟨d,F,z,m,o,r,E⟩|h
   . exact .inl ⟨d,F,z,m,o,r,by rw[u];exact E⟩
   . exact .inr h
 . exact λl b X m o r=>T l b X m o (by rw[<-r];exact(wl m a o).symm)
theorem rN{c:jI}:c.eD=true↔c=.gone:=by cases c<;>simp[jI.eD]
theorem oP{c:jI}:c.isNone=true↔c=.none:=by cases c<;>simp[jI.isNone]
theorem dt.TC{M':Nat->Prop}(h:dt P A Z s kk OO J M gsz w t)(R:eX A s s' i)(o:∀l,l<A.n->(s'.w l).owns=(s.w l).owns)(v:s'.c.eD=s.c.eD)(d:s'.c.isNone=s.c.isNone)
 (S:∀p,M' p->M p) (T:s.c=.gone->∀p,M p->M' p) (U:(∃p,M' p)->(s.c=.none\/s.c=.eU\/∃q,s.c=.wt q)->(s'.c=.none\/s'.c=.eU\/∃q,s'.c=.wt q)) (E:∀i,fF P A s' i↔fF P A s i) (hI:bT A.n s') (V:s'.sh=s.sh) (W:qS A.gb w' s'.gc s'.gv s'.gm) (X:MW A.gb 0 w w')
 (Y:∀op∈u,(∀a,op.act.touch?=some a->a.kind=.atomic\/(a.kind=.said/\op.g=(if s.c.isNone then 0 else A.b+A.n)))/\∀a,op.act≠.mark (.release a)):dt P A Z s' kk OO J M' gsz w' (t++u):=by
 obtain⟨m1,m2,c,e,c',m3,m4,_⟩:=mS X h.yX
 have C:∀i,bU P A s' i->bU P A s i:=λi F=>by
  rcases F with h0|⟨j,k,z⟩|⟨k,z⟩
  . exact .inl h0
  . exact .inr (.inl ⟨j,by rw[<-R.sp];exact k,z⟩)
  . refine .inr (.inr ⟨k,λe=>z ?_⟩)
    exact oP.1 (by rw[d];exact oP.2 e)
 have G:∀i,bU P A s i->bU P A s' i:=λi F=>by
  rcases F with h0|⟨j,k,z⟩|⟨k,z⟩
  . exact .inl h0
  . exact .inr (.inl ⟨j,by rw[R.sp];exact k,z⟩)
  . refine .inr (.inr ⟨k,λe=>z ?_⟩)
    exact oP.1 (by rw[<-d];exact oP.2 e)
 have H:s'.c=.gone↔s.c=.gone:=by rw[<-rN,<-rN,v]
 refine⟨hI,by rw[R.sp,d];exact h.size,by rw[m2 _ A.d2,v];exact h.yE,by rw[V];exact h.mu.same (.of_heap (m2 _ A.d4)),W,by rw[m2 _ A.d4];exact h.vg,⟨c',e,m4⟩,h.fV,h.dZ,λi y hy=>?_,λl B I=>h.xJ l B (by rw[<-o l B];exact I),λI=>h.Lf λl B=>by rw[<-o l B];exact I l B,λc Q=>?_,
  λi=>by rw[h.hJ i];exact(E i).symm,λp hp=>?_,λQ=>(by obtain⟨p,k,z,r⟩:=h.lD u (H.1 Q);exact⟨p,T (H.1 Q) p k,z,r⟩),λm a N hs D i F=>h.jw u (λop K a N _ D=>?_) m a N hs D i (C i F),λm a N hs D=>?_,λi F=>h.oJ u i (C i F),h.iy u (λop K=>(Y op K).2),λi a7 hn=>h.Dl i a7 (λhb=>hn (G i hb)),h.rE,h.jV,h.eN,h.la,by simp;exact Nat.le_trans h.n0 (Nat.le_add_right _ _)⟩
 . obtain⟨l,f,r,L,h5,h6⟩:=h.tok i y hy
   exact⟨l,f,r,L,by rw[o l r];exact h5,h6⟩
 . obtain⟨r,L⟩:=h.JF c Q
   exact⟨r,λl B=>by rw[o l B];exact L l B⟩
 . obtain⟨k,z,r⟩:=h.sY u p (S p hp)
   refine⟨k,z,?_⟩;rcases r with⟨r,L⟩|⟨r,L⟩
   . exact .inl ⟨r,U ⟨p,hp⟩ L⟩
   . exact .inr ⟨H.2 r,L⟩
 . rcases(Y op K).1 a N with k|⟨k,_⟩<;>rw[k]at D<;>cases D
 . rw[d]
   obtain⟨x,hx,O⟩:=touch_of N;rcases getElem?_append_cases hx with⟨B,a8⟩|⟨_,a9⟩
   . exact(h.said m a (by rw[touchAt_of a8];exact O) hs D).app u
   . rcases(Y x a9).1 a O with k|⟨_,k⟩
     . rw[k]at D;cases D
     . rw[<-k];exact⟨m,x,hx,rfl,.inl rfl⟩
theorem dt.XZ(h:dt P A Z s kk OO J M gsz w t)(r:eX A s s' i)(j:∀l,l<A.n->(s'.w l).owns=(s.w l).owns)(d:s'.c.eD=s.c.eD)(e:s'.c.isNone=s.c.isNone)
 (k:(s.c=.none\/s.c=.eU\/∃q,s.c=.wt q)->(s'.c=.none\/s'.c=.eU\/∃q,s'.c=.wt q)) (f:∀i,fF P A s' i↔fF P A s i) (v:bT A.n s') (m:s'.sh=s.sh) (o:qS A.gb w' s'.gc s'.gv s'.gm) (p:MW A.gb 0 w w')
 (x:∀op∈u,(∀a,op.act.touch?=some a->a.kind=.atomic\/(a.kind=.said/\op.g=(if s.c.isNone then 0 else A.b+A.n)))/\∀a,op.act≠.mark (.release a)):dt P A Z s' kk OO J M gsz w' (t++u):=
 h.TC r j d e (λ_ h=>h) (λ_ _ h=>h) (λ_=>k) f v m o p x
def QF(b:Nat)(es:Array Event):Prop:=∀e∈es,((e.loc=.mark .disable\/e.loc=.mark .enable)\/∃i,(i=0\/i=0+1)/\e.loc=.cell ⟨b,i,none⟩/\e.sync=true)\/∃i,(i=0\/i=1)/\(e.loc=.mark (.read ⟨b,i,none⟩)\/e.loc=.mark (.write ⟨b,i,none⟩))
theorem QG{b:Nat}{es:Array Event}(h:EvM b 0 es):QF b es:=λe a=>.inl (h e a)
def Ln(kk:Nat->ah)(OO:Nat->ai)(B:Nat)(t:Trace)(i:Nat)(u:Trace):Prop:=∀op∈u,∀a,op.act.touch?=some a->(a.kind=.atomic\/a.kind=.said)/\(a.loc.isMemory=true->KA kk OO B a.loc)/\∀n b,touchAt t n=some b->b.loc=a.loc->(b.kind=.plain\/(a.kind=.said/\b.kind=.said))->Knows t i n
theorem cA.Ll(h:cA Z kk OO J M w t)(f:∀op∈u,op.g=i)(A:w'.heap.size=w.heap.size)(B:Calm Z w w')(hb:∀b,Kept kk OO w w' b)(C:∀op∈u,op.act.low w.heap.size)(q:Ln kk OO w.heap.size t i u)
 (o:∀m op a,u[m]?=some op->op.act.touch?=some a->a.loc.isMemory=true->Told Z J M (t++u) (t.size+m) a):cA Z kk OO J M w' (t++u):=
 h.tY (λa b=>a=b) A B hb C (λa b e n x _ _ _ D=>by subst e;exact D.app u) (λj b n v h=>⟨j,rfl,h⟩) (λj b s h=>⟨j,rfl,h⟩) (λj b x h=>⟨j,rfl,h,λ_ h=>h⟩) h.ju
  (fun said=>noRace_append (h.clean said) f λn a k op d b hb E=>by
    obtain⟨c,l,r⟩:=q op d b hb;obtain⟨y,_,_,c4⟩:=E;rcases c4 with c4|c4|⟨_,c4,F⟩
    . exact r n a k y (.inl c4)
    . rcases c with c|c<;>rw[c]at c4<;>cases c4
    . exact r n a k y (.inr ⟨F,c4⟩))
  (λop d a k z=>(q op d a k).2.1 z) o
  (λn a k z h=>h.elim (λ⟨j,c,l⟩=>.inr (.inl ⟨j,c,l.app _⟩)) (λ⟨p,c,l⟩=>.inr (.inr (.inl ⟨p,c,l.app _⟩))))
theorem nT{b:Nat}{e:Event}(he:((e.loc=.mark .disable\/e.loc=.mark .enable)\/∃i,(i=0\/i=0+1)/\e.loc=.cell ⟨b,i,none⟩/\e.sync=true)\/∃i,(i=0\/i=1)/\(e.loc=.mark (.read ⟨b,i,none⟩)\/e.loc=.mark (.write ⟨b,i,none⟩))):
 (∀a,(MemAct.ofEvent e).touch?=some a->(a.kind=.atomic\/a.kind=.said)/\∃i,(i=0\/i=1)/\a.loc=.cell ⟨b,i,none⟩)/\(∀a,MemAct.ofEvent e≠.mark (.release a))/\∀B,b<B->(MemAct.ofEvent e).low B:=by
 rcases he with he|⟨i,f,he⟩
 . obtain⟨d,g,h⟩:=nQ he
   exact⟨λa c=>⟨.inl (d a c).1,by simpa using(d a c).2⟩,g,h⟩
 . obtain⟨loc,wr,k⟩:=e
   rcases he with he|he<;>simp only at he<;>subst he
   all_goals
    refine⟨λa c=>?_,by simp[MemAct.ofEvent],λB j=>by simpa[MemAct.ofEvent,MemAct.low]using j⟩;simp only[MemAct.ofEvent,MemAct.touch?,Option.some.injEq]at c;subst c;exact⟨.inr rfl,i,f,rfl⟩
theorem BL(L:A.b+A.n+1<=Z.lk)(hC:bJ (cB P A Fin Z L) Z s f q kk OO J M gs w t)(R:bU P A s i)(a8:¬eM P A s i)(hg:gs[i]?=some g){es:Array Event}(a9:stepG P (i==0) g w=.go g1 w' es)
 (hS:eX A s s' i) (S:∀l,l<A.n->(s'.w l).owns=(s.w l).owns) (F:s'.c.eD=s.c.eD) (G:s'.c.isNone=s.c.isNone) (ad:(s.c=.none\/s.c=.eU\/∃q,s.c=.wt q)->(s'.c=.none\/s'.c=.eU\/∃q,s'.c=.wt q)) (H:∀i,fF P A s' i↔fF P A s i)
 (hI:bT A.n s') (T:s'.sh=s.sh) (al:qS A.gb w' s'.gc s'.gv s'.gm) (C:MW A.gb 0 w w') (r:EvM A.gb 0 es\/(QF A.gb es/\i=(if s.c.isNone then 0 else A.b+A.n))) (hL:MS.gM A.n s' s)
 (hT:(i=0\/J i)\/(EvM A.gb 0 es/\∀(m:Nat) (op:MemOp) (a:Touch),(MemOp.ofEvents i g.frame.fn g.frame.place es)[m]?=some op->op.act.touch?=some a->Z.Shun a.loc->a.kind=.atomic->Told Z J M (t++MemOp.ofEvents i g.frame.fn g.frame.place es) (t.size+m) a))
 (U:(s.gm=0->s'.gm=0)\/(mayWake P g=true/\(g1.status=.running\/g1.status=.finished))) (hf:∀j,j≠i->f' j=f j) (hq:∀j,j≠i->q' j=q j)
 (hs:Self P (cB P A Fin Z L) s' f' q' kk OO J (t++MemOp.ofEvents i g.frame.fn g.frame.place es) i g1) (sl:Option (Nat × Nat)):Goes P A Fin Z L s gs w t sl i:=by
 have D:dt P A Z s kk OO J M gs.size w t:=hC.ex;have B:=bm (P:=P) (A:=A) (Fin:=Fin) (Z:=Z) L;have V:=runT_crowd_go (P:=P) (sl:=sl) (i:=i) hg a9;have hG:A.gb<w.heap.size:=by obtain⟨c,e,z⟩:=D.yX;exact(Array.getElem?_eq_some_iff.1 z).1
 have o:QF A.gb es:=r.elim QG (·.1);have p:∀op∈MemOp.ofEvents i g.frame.fn g.frame.place es,op.g=i:=λop d=>by obtain⟨e,_,rfl⟩:=Go.Conc.mem_ofEvents d;rfl
 have v:∀op∈MemOp.ofEvents i g.frame.fn g.frame.place es,∀a,op.act.touch?=some a->a.kind=.atomic\/(a.kind=.said/\op.g=(if s.c.isNone then 0 else A.b+A.n)):=λop d a I=>by
  obtain⟨e,u,rfl⟩:=Go.Conc.mem_ofEvents d
  rcases r with r|⟨_,hi⟩
  . exact .inl ((nQ (r e u)).1 a I).1
  . rcases((nT (o e u)).1 a I).1 with h|h
    . exact .inl h
    . exact .inr ⟨h,hi⟩
 have y1:Ln kk OO w.heap.size t i (MemOp.ofEvents i g.frame.fn g.frame.place es):=λop d a I=>by
  have x:=v op d a I;have ax:=p op d;obtain⟨e,u,rfl⟩:=Go.Conc.mem_ofEvents d;obtain⟨z,n,hn,E⟩:=(nT (o e u)).1 a I;have W:Lc A a.loc:=by rw[E];exact⟨rfl,.inr ⟨rfl,hn⟩⟩
  refine⟨z,λ_=>by rw[E];exact D.PI hn,λm b hb N Q=>?_⟩
  rcases Q with Q|⟨X,av⟩
  . exact D.quiet m b hb (by rw[N];exact W) Q i R
  . have h5:=D.said m b hb (by rw[N];exact W) av
    rcases x with x|⟨_,x⟩
    . rw[x]at X;cases X
    . rw[<-x]at h5;exact h5
 have y2:∀op∈MemOp.ofEvents i g.frame.fn g.frame.place es,op.act.low w.heap.size:=λop d=>by obtain⟨e,u,rfl⟩:=Go.Conc.mem_ofEvents d;exact(nT (o e u)).2.2 _ hG
 have y3:∀op∈MemOp.ofEvents i g.frame.fn g.frame.place es,(∀a,op.act.touch?=some a->a.kind=.atomic\/(a.kind=.said/\op.g=(if s.c.isNone then 0 else A.b+A.n)))/\∀a,op.act≠.mark (.release a):=λop d=>⟨v op d,by obtain⟨e,u,rfl⟩:=Go.Conc.mem_ofEvents d;exact(nT (o e u)).2.1⟩
 have y4:∀op∈MemOp.ofEvents i g.frame.fn g.frame.place es,∀a,op.act.touch?=some a->Z.Shun a.loc:=λop d a I=>by obtain⟨e,u,rfl⟩:=Go.Conc.mem_ofEvents d;obtain⟨z,n,hn,E⟩:=(nT (o e u)).1 a I;rw[E];exact D.rE _ ⟨rfl,.inr ⟨rfl,hn⟩⟩ ⟨_,rfl,rfl⟩
 obtain⟨m1,m2,c,e,c',m3,m4,_⟩:=mS C D.yX
 have hP:=hC.cE.Ll (i:=i) p m1 (D.TA C) (D.TB C) y2 y1 (λm op a z E _=>by
  rcases hT with hJ|⟨r,hT⟩
  . have Q:Knows (t++MemOp.ofEvents i g.frame.fn g.frame.place es) i (t.size+m):=knows_own z (p op (Array.mem_of_getElem? z))
    rcases hJ with rfl|hJ
    . exact .inl Q
    . exact .inr (.inl ⟨i,hJ,Q⟩)
  . refine hT m op a z E (y4 op (Array.mem_of_getElem? z) a E) ?_
    obtain⟨e,u,rfl⟩:=Go.Conc.mem_ofEvents (Array.mem_of_getElem? z);exact((nQ (r e u)).1 a E).1)
 have Y:dt P A Z s' kk OO J M gs.size w' (t++MemOp.ofEvents i g.frame.fn g.frame.place es):=D.XZ hS S F G ad H hI T al C y3
 have K:Beside (cB P A Fin Z L) s s' f f' q q' kk kk OO OO J J w' i g g1:=xQ L hS hf hq (λ_ _ _=>rfl) (λ_ _ _=>rfl) (λ_ _ h=>h) (U.imp (λh=>⟨λh0=>by rw[T];exact h0,h⟩) id) (λ{i k O y} hA=>B.me (s:=s) (i:=i) (k:=k) (O:=O) (g:=y) hA)
 refine⟨_,_,V,s',f',q',kk,OO,J,M,_,_,_,rfl,hL,?_⟩;refine bJ.step B hC hg p hP Y (λl y N hA=>?_) K hs
 have a7:l≠i:=λe=>a8 (e ▸ N)
 exact B.ub Y ((K.held l a7).2 N) _ _ (K.QC l _ _ _ a7 N hA)
theorem G6{g:Nat}:∀m,m<=u.size->(∀l op,l<m->u[l]?=some op->op.act≠.mark .enable)->Deaf t g<=(t++u).deaf g (t.size+m)
 |0,_,_=>by show Deaf t g<=(t++u).deaf g t.size;rw[deaf_old (Nat.le_refl _)];exact Nat.le_refl _
 | m+1,h,a=>by
   have b:m<u.size:=by omega
   have c:(t++u)[t.size+m]?=some u[m]:=by rw[Array.getElem?_append_right (by omega)];simp[b]
   have d:=G6 (g:=g) m (by omega) (λl op f=>a l op (by omega))
   rw[<-Nat.add_assoc,deaf_succ c];have:=a m u[m] (by omega) (by simp[b])
   unfold deafStep;split
   . split<;>omega
   . next e=>exact absurd e this
   . exact d
theorem FC{es:Array Event}{fn:FuncId}{pos:String}(hd:1<=Deaf t i)(r:∀(m:Nat) (op:MemOp) (a:Touch),(MemOp.ofEvents i fn pos es)[m]?=some op->op.act.touch?=some a->∀(l:Nat) (b:MemOp),l<m->(MemOp.ofEvents i fn pos es)[l]?=some b->b.act≠.mark .enable):∀(m:Nat) (op:MemOp) (a:Touch),(MemOp.ofEvents i fn pos es)[m]?=some op->op.act.touch?=some a->Z.Shun a.loc->a.kind=.atomic->Told Z J M (t++MemOp.ofEvents i fn pos es) (t.size+m) a:=λm op a d j s q=>by
 refine Il (i:=i) d j s q λv=>?_
 obtain⟨x,f,_,c⟩:=v;rw[act?_of (dw d)]at f;have f:op.act.touch?=some x:=f;rw[j]at f;obtain rfl:=Option.some.inj f;rcases c with c|⟨k,h,w⟩
 . exact c q
 . have n:op.g=i:=by obtain⟨e,_,rfl⟩:=Go.Conc.mem_ofEvents (Array.mem_of_getElem? d);rfl
   have:k=i:=by
    have o:(t++MemOp.ofEvents i fn pos es).g? (t.size+m)=some op.g:=by simp[Trace.g?,dw d]
    rw[o]at h;rw[<-n];exact(Option.some.inj h).symm
   subst this;have z:=(Array.getElem?_eq_some_iff.1 d).1;have:=G6 (t:=t) (u:=MemOp.ofEvents k fn pos es) (g:=k) m (by omega) (λl b y p=>r m op _ d j l b y p);omega
end
end Go.bd
