/- Part 20 of the proof. -/
import Derived.Test.YtelgggdkahhhfaaGreatDoorC19
set_option linter.all false
namespace Go.aZ
open Go.Conc
open Go.ConcN (sumTo upd sumTo_upd upd_ne upd_same)
section
variable {P:Program} {A:cC} {Fin:ag->ah->Goroutine->Prop} {Z:Base} {s:MS P} {f:Nat->Node P} {q:Nat->Nat} {kk:Nat->ag} {OO:Nat->ah} {J M:Nat->Prop} {gs:Array Goroutine} {w w':World} {t:Trace} {j:Nat} {x:aM P} {sh:Mu.Sh} {g g1:Goroutine}
theorem zK (hZ:A.b+A.n+1≤Z.lk) (hC:aW (bn P A Fin Z hZ) Z s f q kk OO J M gs w t) (hj:j<A.n) (w1:(s.w j).work=true) {d:Nat} (hd0:Deaf t (A.b+j)=d) (hnh : ¬ cL P A s (A.b+j)) (h2:x.gn=true) (ho:x.owns=(s.w j).owns) (hI:bd A.n (s.aC j x sh)) (hL:MS.dR A.n (s.aC j x sh) s)
 (hg:gs[A.b+j]? = some g) {es:Array Event} (hst:stepG P false g w = .go g1 w' es) (hmw:MW A.fb A.fo w w') (hmu:ShM A.fb A.fo w' sh) (hev:EvM A.fb A.fo es) (hd:deafBehind d es=x.deaf)
 (hs:∃ n g',gZ P (iV A) n g1 g'∧Az P A j x (kk (A.b+j)) (OO (A.b+j)) g') (hdry:(s.sh.ms=0->sh.ms=0)∨(mayWake P g=true∧g1.status = .running)) (sl:Option (Nat × Nat)) :
 ∃ ops m',runT P (crowd gs w sl) (A.b+j)=(.next m',ops)∧∃ s' f' q' kk' OO' J' M' gs' w'' sl',m'=crowd gs' w'' sl'∧MS.dR A.n s' s∧aW (bn P A Fin Z hZ) Z s' f' q' kk' OO' J' M' gs' w'' (t ++ ops):=by
 obtain⟨n,g',hsil,hat⟩:=hs;have hb:=A.hb;have B:=aJ (P:=P) (A:=A) (Fin:=Fin) (Z:=Z) hZ;have w2:=dS h2;have hE:bO P A Z s kk OO J M gs.size w t:=hC.ex;have hi0:(A.b+j == 0)=false:=by simp;omega
 have hrun:=runT_crowd_go (P:=P) (sl:=sl) (i:=A.b+j) hg (by rw[hi0];exact hst)
 have hbeg:be P A s (A.b+j):=eM hE.I hj (aK w1).2.2.2.2.1;obtain⟨y1,y2,y3⟩:=hE.Df hev hbeg g.frame.fn g.frame.place;have hops:∀ op∈MemOp.ofEvents (A.b+j) g.frame.fn g.frame.place es,op.g=A.b+j:=fun op hop=>by obtain⟨e,_,rfl⟩:=Go.Conc.mem_ofEvents hop;rfl
 obtain⟨m1,m2,c,e,c',m3,m4,_⟩:=jA hmw hE.pN;have hP:=hC.bp.sync (i:=A.b+j) (.inr ((hE.hJ _).2 (qm hj (aK w1).2.2.2.2.2.1))) hops m1 (hE.calm hmw) (hE.kept hmw) y2 y1;have hEx:bO P A Z (s.aC j x sh) kk OO J M gs.size w' (t ++ MemOp.ofEvents (A.b+j) g.frame.fn g.frame.place es):=hE.work hj w1 w2 ho hI hmu m2 ⟨c',e,m4⟩ y3
 have hbs:Beside (bn P A Fin Z hZ) s (s.aC j x sh) f f q (upd q (A.b+j) n) kk kk OO OO J J w' (A.b+j) g g1:=
  ib hZ hj w1 w2 (fun _ _=>rfl) (fun i hi=>upd_ne q n hi) (fun _ _ _=>rfl) (fun _ _ _=>rfl) (fun _ h=>h) hdry (fun {i k O y} hA=>B.je (s:=s) (i:=i) (k:=k) (O:=O) (g:=y) hA)
 have hx':((s.aC j x sh).w j).gn=true:=by rw[aA];exact h2
 refine⟨_,_,hrun,s.aC j x sh,f,upd q (A.b+j) n,kk,OO,J,M,_,_,_,rfl,hL,?_⟩;refine aW.step B hC hg hops hP hEx (fun l y hl hA=>?_) hbs ⟨fun hl=>absurd hl (fC hj hx'),fun _=>⟨fC hj hx',?_,?_,g',?_,?_⟩,fun hh=>absurd hh (lC hj hx'),fun _ hn _=>absurd (fg hj hx') hn⟩
 . have hne:l≠A.b+j:=fun e=>hnh (e ▸ hl)
   exact B.oE hEx ((hbs.held l hne).2 hl) _ _ (hbs.HZ l _ _ _ hne hl hA)
 . show A.b+j<A.b+A.n+1;omega
 . rw[Deaf_own,hd0]
   show deafBehind d es=bF P A (s.aC j x sh) (A.b+j);rw[cN hj,aA];exact hd
 . exact .inr (.inl ⟨j,hj,rfl,by rw[aA];exact hat⟩)
 . exact .inr (by rw[upd_same];exact hsil)
theorem wF (n:Nat):20≤uY n:=by unfold uY;omega
theorem lY {X:Node P} {h:Bool} (hj:j<A.n) (hw:s.w j = .run h X) {y:Node P} (hy:x.nd=some y) (w2:x.work=true) (hu:y=X∨Relation.TransGen kW y X)
 (hi:4*Mu.meas A.n (Mu.set (fun i=>(s.w i).pc) j x.pc) sh+x.ex A.n<4*Mu.meas A.n (fun i=>(s.w i).pc) s.sh+2*uY A.n):MS.dR A.n (s.aC j x sh) s:=by
 have w1:(s.w j).work=true:=by rw[hw];rfl
 rcases hu with rfl|hu
 . exact ql hj w1 w2 (by rw[hy,hw];rfl) (by rw[hw];exact hi)
 . exact u0 hj w1 w2 ⟨y,X,hy,by rw[hw];rfl,hu⟩
variable (C:fA P A.nm) (X:fB P A.nm) (F:mV P A.nm)
include C X F in
theorem AC (hZ:A.b+A.n+1≤Z.lk) (hC:aW (bn P A Fin Z hZ) Z s f q kk OO J M gs w t) (hj:j<A.n) {h:Bool} {X0:Node P} (hw:s.w j = .run h X0) {Y:rl P} (hf:f (A.b+j)=Y.node) (hl:Hm P A Y.k Y.O Y.g Y.N) (sl:Option (Nat × Nat)) :
 Goes P A Fin Z hZ s gs w t sl (A.b+j):=by
 have hE:bO P A Z s kk OO J M gs.size w t:=hC.ex;obtain⟨_,hgi,hfm,hfk,hfO,_,hd0,_,htie⟩:=hC.live _ (ig hj hw);rw[hf] at hgi hfm hfk hfO htie;have hgi:gs[A.b+j]? = some Y.g:=hgi;have hfk:Y.k=kk (A.b+j):=hfk;have hfO:Y.O=OO (A.b+j):=hfO;have hfm:Y.m=iK P A j:=by have:Y.m=aY P A Fin s (A.b+j):=hfm;rw[this,kg hj hw]
 obtain⟨kind,c,rest,e,hk,hg,hO,hsh,hN⟩:=hl;rw[hfk] at hsh hN;rw[hfO] at hO hN
 have hh:h=false:=by
  cases h with
  | false=>rfl
  | true=>exact absurd hO (hE.rm j hj (by rw[hw];rfl))
 subst hh;have w1:(s.w j).work=true:=by rw[hw];rfl
 have hpc:(s.w j).pc = .out:=by rw[hw];rfl
 have hu:=htie j false X0 hj rfl hw Y.node (.inl rfl) trivial;obtain⟨g2,⟨n,hsil⟩,hA⟩:=my (P:=P) (n:=A.nm) (b:=A.fb) (o:=A.fo) (kind:=kind) (cs:=c :: rest) (Wd:=iV A) F;rw[← hg] at hsil;have hbK:=wF A.n;cases n with
 | zero=>
   have e0:Y.g=g2:=hsil;rw[← e0] at hA;obtain⟨g1,hst,hr,g3,⟨k,hs3⟩,hA3⟩:=uT (Wd:=iV A) (main:=false) (w:=w) C X hA;refine zK (x:=.lk .er Y) (sh:=s.sh) hZ hC hj w1 hd0 (gK hj hw) rfl (by rw[hw];rfl) (hE.I.MX hj w1 rfl rfl hpc rfl) (lY hj hw rfl rfl hu ?_) hgi hst (aI rfl) hE.mu (fun e he=>by simp at he;subst he;exact .inl (.inl rfl)) rfl ⟨k,g3,hs3,kind,c,rest,e,hk,hA3,hfm,hO,hsh,hN⟩ (.inl fun h0=>h0) sl
   show 4*Mu.meas A.n (Mu.set (fun i=>(s.w i).pc) j .er) s.sh+0<_
   rw[wy hj hpc];unfold uY;omega
 | succ n=>
   obtain⟨g1,⟨hr1,hs1⟩,hs2⟩:=hsil;have hwd:iV A w:=(aJ (P:=P) (A:=A) (Fin:=Fin) (Z:=Z) hZ).wd hE;refine zK (x:=.lk .ld Y) (sh:=s.sh) hZ hC hj w1 hd0 (gK hj hw) rfl (by rw[hw];rfl) (hE.I.still hj w1 rfl rfl (by rw[hpc];rfl)) (lY hj hw rfl rfl hu ?_) hgi (hs1 false w hwd) (aI rfl) hE.mu dv rfl ⟨n,g2,hs2,kind,c,rest,e,hk,hA,hfm,hO,hsh,hN⟩ (.inl fun h0=>h0) sl
   have e1:Mu.set (fun i=>(s.w i).pc) j (aM.lk .ld Y).pc=fun i=>(s.w i).pc:=by
    have:=jg (fun i=>(s.w i).pc) j
    rw[show (s.w j).pc=(aM.lk .ld Y).pc from hpc] at this
    exact this
   rw[e1];show _+uY A.n<_;omega
end
section
variable {P:Program} {A:cC} {Fin:ag->ah->Goroutine->Prop} {Z:Base} {s:MS P} {f:Nat->Node P} {q:Nat->Nat} {kk:Nat->ag} {OO:Nat->ah} {J M:Nat->Prop} {gs:Array Goroutine} {w w':World} {t:Trace} {j:Nat} {x:aM P} {sh:Mu.Sh} {g g1:Goroutine}
variable (C:fA P A.nm) (X:fB P A.nm) (F:mV P A.nm)
include C X F in
theorem wG (hZ:A.b+A.n+1≤Z.lk) (hC:aW (bn P A Fin Z hZ) Z s f q kk OO J M gs w t) (hj:j<A.n) {h:Bool} {X0:Node P} (hw:s.w j = .run h X0) {Y:rl P} (hf:f (A.b+j)=Y.node) (hl:zF P A Y.k Y.O Y.g Y.N) (sl:Option (Nat × Nat)) :
 Goes P A Fin Z hZ s gs w t sl (A.b+j):=by
 have hE:bO P A Z s kk OO J M gs.size w t:=hC.ex;obtain⟨_,hgi,hfm,hfk,hfO,_,hd0,_,htie⟩:=hC.live _ (ig hj hw);rw[hf] at hgi hfm hfk hfO htie;have hgi:gs[A.b+j]? = some Y.g:=hgi;have hfk:Y.k=kk (A.b+j):=hfk;have hfO:Y.O=OO (A.b+j):=hfO;have hfm:Y.m=iK P A j:=by have:Y.m=aY P A Fin s (A.b+j):=hfm;rw[this,kg hj hw]
 obtain⟨kind,c,rest,tf,xo,a,hk,hg,hfb,vL,hor,hGI,hN⟩:=hl;rw[hfk] at hor hN;rw[hfO] at hfb vL hN
 have hh:h=true:=by
  obtain⟨l,_,hl,h2,h3,_⟩:=hE.tok _ _ hfb;obtain rfl:l=j:=by omega
  rw[hw] at h3;exact h3
 subst hh;have w1:(s.w j).work=true:=by rw[hw];rfl
 have hpc:(s.w j).pc = .held:=by rw[hw];rfl
 have hu:=htie j true X0 hj rfl hw Y.node (.inl rfl) trivial;obtain⟨g2,⟨n,hsil⟩,hA⟩:=kT (P:=P) (n:=A.nm) (b:=A.fb) (o:=A.fo) (kind:=kind) (cs:=c :: rest) (Wd:=iV A) F;rw[← hg] at hsil;have hbK:=wF A.n
 have e1:Mu.set (fun i=>(s.w i).pc) j .held=fun i=>(s.w i).pc:=by
  have:=jg (fun i=>(s.w i).pc) j
  rw[show (s.w j).pc = .held from hpc] at this
  exact this
 have hpart:∃ f x a,OO (A.b+j) A.fb=some (.part f)∧OO (A.b+j) A.mb=some x∧jo (kk (A.b+j)) x a∧A.GI a∧Y.N (kk (A.b+j)) (((OO (A.b+j)).del A.mb).del A.fb) (ip kind c rest (.tuple #[])):=⟨tf,xo,a,hfb,vL,hor,hGI,hN⟩;cases n with
 | zero=>
   have e0:Y.g=g2:=hsil;rw[← e0] at hA;obtain⟨v,hv⟩:=((aJ (P:=P) (A:=A) (Fin:=Fin) (Z:=Z) hZ).wd hE).2.2;obtain⟨g1,hst,hr,g3,⟨k,hs3⟩,hA3⟩:=rf (Wd:=iV A) (main:=false) (w:=w) C X (fun w h=>h.2.2) hv hA
   refine zK (x:=.un .ur Y) (sh:=s.sh) hZ hC hj w1 hd0 (gK hj hw) rfl (by rw[hw];rfl) (hE.I.still hj w1 rfl rfl (by rw[hpc];rfl)) (lY hj hw rfl rfl hu ?_) hgi hst (aI rfl) hE.mu dv rfl ⟨k,g3,hs3,kind,c,rest,hk,hA3,hfm,fun _=>hpart,fun h=>absurd (.inr rfl) h⟩ (.inl fun h0=>h0) sl
   show 4*Mu.meas A.n (Mu.set (fun i=>(s.w i).pc) j .held) s.sh+4<_
   rw[e1];omega
 | succ n=>
   obtain⟨g1,⟨hr1,hs1⟩,hs2⟩:=hsil;have hwd:iV A w:=(aJ (P:=P) (A:=A) (Fin:=Fin) (Z:=Z) hZ).wd hE;refine zK (x:=.un .zq Y) (sh:=s.sh) hZ hC hj w1 hd0 (gK hj hw) rfl (by rw[hw];rfl) (hE.I.still hj w1 rfl rfl (by rw[hpc];rfl)) (lY hj hw rfl rfl hu ?_) hgi (hs1 false w hwd) (aI rfl) hE.mu dv rfl ⟨n,g2,hs2,kind,c,rest,hk,hA,hfm,fun _=>hpart,fun h=>absurd (.inl rfl) h⟩ (.inl fun h0=>h0) sl
   show 4*Mu.meas A.n (Mu.set (fun i=>(s.w i).pc) j .held) s.sh+5<_
   rw[e1];omega
end
section
variable {P:Program} {A:cC} {Z:Base} {s:MS P} {kk:Nat->ag} {OO:Nat->ah} {J M:Nat->Prop} {gsz:Nat} {w w':World} {t:Trace}
theorem bO.Ka (h:bO P A Z s kk OO J M gsz w t) (hm:MW A.gb 0 w w'):Calm Z w w':=by
 obtain⟨h1,h2,_⟩:=jA hm h.sG;have:=h.cM.2.2;exact⟨hm.1,fun b hb=>h2 b (by omega)⟩
theorem bO.Kb (h:bO P A Z s kk OO J M gsz w t) (hm:MW A.gb 0 w w'):∀ b,Kept kk OO w w' b:=fun b=>by
 obtain⟨h1,h2,c,e,c',h3,h4,h5,h6⟩:=jA hm h.sG
 by_cases hb:b=A.gb
 . subst hb
   refine .inr (.inr ⟨c,c',e,h3,h4,h5,fun i x hx=>(by rw[(h.dA i).2] at hx;cases hx),fun n=>?_⟩)
   by_cases e1:n=0
   . subst e1;exact .inr fun i=>(h.cx i).2.2.1
   . by_cases e2:n=1
     . subst e2;exact .inr fun i=>(h.cx i).2.2.2
     . exact .inl (h6 n e1 e2)
 . exact .inl (h2 b hb)
theorem bO.Hq (h:bO P A Z s kk OO J M gsz w t) {n:Nat} (hn:n=0∨n=1):CE kk OO w.heap.size (.cell ⟨A.gb,n,none⟩):=by
 have hG:A.gb<w.heap.size:=by obtain⟨c,e,h1⟩:=h.sG;exact (Array.getElem?_eq_some_iff.1 h1).1
 refine⟨hG,fun i=>⟨cu (h.dA i).2,?_⟩⟩
 rcases hn with rfl|rfl
 . exact (h.cx i).2.2.1
 . exact (h.cx i).2.2.2
theorem bO.Di (h:bO P A Z s kk OO J M gsz w t) {es:Array Event} (he:EvM A.gb 0 es) {i:Nat} (hi:be P A s i) (fn:FuncId) (pos:String) :
 u6 kk OO w.heap.size t i (MemOp.ofEvents i fn pos es)∧(∀ op∈MemOp.ofEvents i fn pos es,op.act.low w.heap.size)∧(∀ op∈MemOp.ofEvents i fn pos es,(∀ a,op.act.touch? = some a->a.kind = .atomic)∧∀ a,op.act ≠ .mark (.release a)) ∧
 ∀ op∈MemOp.ofEvents i fn pos es,∀ a,op.act.touch? = some a->Z.Shun a.loc:=by
 have hG:A.gb<w.heap.size:=by obtain⟨c,e,h1⟩:=h.sG;exact (Array.getElem?_eq_some_iff.1 h1).1
 refine⟨fun op hop a ha=>?_,fun op hop=>?_,fun op hop=>?_,fun op hop a ha=>?_⟩ <;> obtain⟨e,he1,rfl⟩:=Go.Conc.mem_ofEvents hop <;> obtain⟨t1,t2,t3⟩:=kf (he e he1)
 . obtain⟨h1,n,hn,h2⟩:=t1 a ha
   have hn:n=0∨n=1:=by simpa using hn
   refine⟨h1,fun _=>by rw[h2];exact h.Hq hn,fun m b hb hl hk=>h.quiet m b hb ?_ hk i hi⟩
   rw[hl,h2];exact⟨rfl,.inr ⟨rfl,hn⟩⟩
 . exact t3 _ hG
 . exact⟨fun a ha=>(t1 a ha).1,t2⟩
 . obtain⟨h1,n,hn,h2⟩:=t1 a ha
   have hn:n=0∨n=1:=by simpa using hn
   rw[h2];exact h.mR _ ⟨rfl,.inr ⟨rfl,hn⟩⟩ ⟨_,rfl,rfl⟩
theorem AE {Z:Base} {J M:Nat->Prop} {t u:Trace} {i m:Nat} {op:MemOp} {a:Touch} (h1:u[m]? = some op) (ha:op.act.touch? = some a) (hz:Z.Shun a.loc) (hk:a.kind = .atomic) (hc : ¬ (t ++ u).counts (t.size+m)):Told Z J M (t ++ u) (t.size+m) a:=
 .inr (.inr (.inr ⟨hz,hk,fun h=>absurd h hc⟩))
end
end Go.aZ
namespace Go.aZ
open Go.Conc
open Go.ConcN (sumTo upd sumTo_upd upd_ne upd_same)
variable {P:Program}
def aM.yo:aM P->Bool
 | .run .. => true | .lk .. => true | .un .. => true | .tw=>true | .dn .d1=>true | .dn .d2=>true | .dn .d4=>true|_=>false
theorem rt {x:aM P} (h:x.yo=true):x.cnt=1∧x.last=false∧x.fS=false∧x ≠ .gone∧x ≠ .wait∧∀ p,(p = .d5∨p = .d6∨p = .d7)->x ≠ .dn p:=by
 cases x with
 | dn p=>cases p <;> simp_all [aM.yo,aM.cnt,aM.last,aM.fS]
 | _=>simp_all [aM.yo,aM.cnt,aM.last,aM.fS]
section
variable {s:MS P} {j n:Nat} {x:aM P} {sh:Mu.Sh}
theorem bd.same (I:bd n s) (hj:j<n) (h1:(s.w j).yo=true) (h2:x.yo=true) (hs:x.ez=(s.w j).ez) (hx:x.ok=true) (hm:Mu.Inv n (Mu.set (fun i=>(s.w i).pc) j x.pc) sh):bd n (s.aC j x sh):=by
 obtain⟨a1,a4,a5,a7,a8,a9⟩:=rt h1;obtain⟨b1,b4,b5,b7,b8,b9⟩:=rt h2;have hcnt:=lz (s:=s) (x:=x) (sh:=sh) aM.cnt hj
 have look:∀ {i:Nat} {y:aM P},(s.aC j x sh).w i=y->x≠y->i≠j∧s.w i=y:=fun {i y} h hn=>by
  by_cases e:i=j
  . subst e;rw[aA] at h;exact absurd h hn
  . rw[aN e] at h;exact⟨e,h⟩
 have back:∀ {i:Nat} {y:aM P},s.w i=y->(s.w j)≠y->(s.aC j x sh).w i=y:=fun {i y} h hn=>by
  by_cases e:i=j
  . subst e;exact absurd h hn
  . rw[aN e];exact h
 have lastI:∀ {i:Nat},((s.aC j x sh).w i).last=(s.w i).last:=fun {i}=>by
  by_cases e:i=j
  . subst e;rw[aA,a4,b4]
  . rw[aN e]
 refine⟨?_,I.g2,I.xK,fun i hi h=>?_,fun i l hi hl h h'=>?_,fun i hi h=>?_,⟨I.g5.1,fun h=>?_⟩,fun h h' h''=>?_,fun h h'=>?_,fun h=>?_,I.g9,fun i hi=>?_,I.HV,I.sp,fun i hi=>?_,?_,fun h i hi=>?_,by rw[uZ];exact hm⟩
 . have:=I.g1
   show s.gc=sumTo n (fun i=>((s.aC j x sh).w i).cnt)+s.ms.pend
   omega
 . exact I.g3 i hi (h.imp (fun h=>(look h (b9 _ (by simp))).2) (fun h=>(look h (b9 _ (by simp))).2))
 . rw[lastI] at h h';exact I.xL i l hi hl h h'
 . exact I.g4 i hi (look h (b9 _ (by simp))).2
 . obtain⟨c1,c2,c3,c4⟩:=I.g5.2 h
   exact⟨c1,c2,c3,fun i hi=>by rw[lastI];exact c4 i hi⟩
 . obtain⟨i,hi,h3⟩:=I.g6 h h' h''
   exact⟨i,hi,back h3 (a9 _ (by simp))⟩
 . obtain⟨i,hi,h3⟩:=I.g7 h h'
   exact⟨i,hi,h3.imp (fun h=>back h (a9 _ (by simp))) (fun h=>back h (a9 _ (by simp)))⟩
 . obtain⟨_,_,_,c4⟩:=I.g8 h
   exact absurd (c4 j hj) a7
 . by_cases e:i=j
   . subst e;rw[aA];exact hx
   . rw[aN e];exact I.ok i hi
 . by_cases e:i=j
   . subst e
     rw[aA,b5];have:=I.idle i hi;rw[a5] at this;exact this
   . rw[aN e];exact I.idle i hi
 . have:=I.ms
   show match s.ms with
   | .add l=>s.sp+l=n∧s.c = .none
   | .aS l p=>s.sp+l=n∧s.c = .none∧1≤l∧(p = .a0∨p = .a2∨p = .a4∨p = .ae)
   | .spawn l=>s.sp+l+1=n∧s.c = .none
   | .recv=>s.sp=n∧s.c ≠ .none
   | .parked=>s.sp=n∧s.c ≠ .none∧s.c ≠ .gone∧∀ i,i<n->(s.aC j x sh).w i ≠ .wait
   cases e:s.ms with
   | parked=>
     rw[e] at this;obtain⟨c1,c2,c3,c4⟩:=this;exact⟨c1,c2,c3,fun i hi h=>c4 i hi (look h b8).2⟩
   | _=>rw[e] at this;exact this
 . by_cases e:i=j
   . subst e;rw[aA,hs];exact I.early h i hi
   . rw[aN e];exact I.early h i hi
theorem ru (hj:j<n) (h:x.bw<(s.w j).bw):MS.dR n (s.aC j x sh) s:=by
 have:=lz (s:=s) (x:=x) (sh:=sh) aM.bw hj;refine .inl ?_;show s.ms.bw+sumTo n (fun i=>((s.aC j x sh).w i).bw)+s.c.bw s.gc<s.ms.bw+sumTo n (fun i=>(s.w i).bw)+s.c.bw s.gc
 omega
theorem bd.vb (I:bd n s) (hj:j<n) (h1:(s.w j).yo=true) (h2:x.yo=true) (hs:x.ez=(s.w j).ez) (hx:x.ok=true) (hp:x.pc=(s.w j).pc):bd n (s.aC j x s.sh):=
 I.same hj h1 h2 hs hx (by rw[hp,jg (fun i=>(s.w i).pc)];exact I.mu)
end
end Go.aZ
namespace Go.aZ
open Go.Conc
open Go.ConcN (sumTo upd sumTo_upd upd_ne upd_same)
section
variable {P:Program} {A:cC} {Fin:ag->ah->Goroutine->Prop} {Z:Base} {s:MS P} {f f':Nat->Node P} {q q':Nat->Nat} {kk kk':Nat->ag} {OO OO':Nat->ah} {J J' M:Nat->Prop} {gs:Array Goroutine} {w w':World} {t:Trace} {j:Nat} {x:aM P} {sh:Mu.Sh} {g g1:Goroutine}
theorem pQ (hZ:A.b+A.n+1≤Z.lk) (hj:j<A.n) (hs:x.ez=(s.w j).ez) (hf:∀ i,i≠A.b+j->f' i=f i) (hq:∀ i,i≠A.b+j->q' i=q i) (hk:∀ i,i≠A.b+j->i<A.b+A.n+1->kk' i=kk i) (hO:∀ i,i≠A.b+j->i<A.b+A.n+1->OO' i=OO i) (hJ:∀ i,i≠A.b+j->J i->J' i)
 (hdry:(s.sh.ms=0->sh.ms=0)∨(mayWake P g=true∧g1.status = .running)) (hE:∀ {i k O y},J1 P A Fin s i k O y->y.status = .running∧y.offers=none) :
 Beside (bn P A Fin Z hZ) s (s.aC j x sh) f f' q q' kk kk' OO OO' J J' w' (A.b+j) g g1:=by
 have hb:=A.hb;have wl:∀ {i l:Nat},i≠A.b+j->i=A.b+l->(s.aC j x sh).w l=s.w l:=fun {i l} h e=>aN (by omega)
 have hr:MS.rem P A.n (s.aC j x sh)=MS.rem P A.n s:=wA hs
 have live:∀ i,i≠A.b+j->(bW P A (s.aC j x sh) i ↔ bW P A s i):=fun i hi=>by
  constructor <;> rintro (h|⟨l,h1,h2,h3⟩|h)
  . exact .inl h
  . exact .inr (.inl ⟨l,h1,h2,by rw[← wl hi h2];exact h3⟩)
  . exact .inr (.inr h)
  . exact .inl h
  . exact .inr (.inl ⟨l,h1,h2,by rw[wl hi h2];exact h3⟩)
  . exact .inr (.inr h)
 have walk:∀ i,i≠A.b+j->(di P A (s.aC j x sh) i ↔ di P A s i):=fun i hi=>by
  constructor <;> rintro (h|⟨l,h1,h2,h3⟩|h)
  . exact .inl h
  . exact .inr (.inl ⟨l,h1,h2,by rw[← wl hi h2];exact h3⟩)
  . exact .inr (.inr h)
  . exact .inl h
  . exact .inr (.inl ⟨l,h1,h2,by rw[wl hi h2];exact h3⟩)
  . exact .inr (.inr h)
 have held:∀ i,i≠A.b+j->(cL P A (s.aC j x sh) i ↔ cL P A s i):=fun i hi=>by
  constructor <;> rintro (h|⟨l,h1,h2,h3⟩)
  . exact .inl h
  . exact .inr ⟨l,h1,h2,by rw[← wl hi h2];exact h3⟩
  . exact .inl h
  . exact .inr ⟨l,h1,h2,by rw[wl hi h2];exact h3⟩
 refine⟨hf,hq,hk,hO,fun i hi _ h=>hJ i hi h,live,walk,held,fun i hi hl=>?_,fun i k O y hi _ hA=>?_,fun i hi hw=>?_,fun i hi hw hd=>?_,fun i k O y hi _ hA=>?_,fun i y hi _ ht=>?_⟩
 . show aY P A Fin (s.aC j x sh) i=aY P A Fin s i
   unfold aY;rw[hr]
   rcases hl with ⟨rfl,_⟩|⟨l,h3,rfl,_⟩|⟨rfl,_⟩
   . rfl
   . have e:A.b+l-A.b=l:=by omega
     rw[e,aN (by omega)]
     rfl
   . rw[if_neg (by omega),if_neg (by omega),if_neg (by omega),if_neg (by omega)]
     rfl
 . rcases hA with h|⟨l,h3,h4,h5⟩|h
   . exact .inl h
   . exact .inr (.inl ⟨l,h3,h4,by rw[wl hi h4];exact h5⟩)
   . exact .inr (.inr h)
 . show bF P A (s.aC j x sh) i=bF P A s i
   unfold bF
   rcases hw with ⟨rfl,_⟩|⟨l,h3,rfl,_⟩|⟨rfl,_⟩
   . rfl
   . have e:A.b+l-A.b=l:=by omega
     rw[e,aN (by omega)]
     rfl
   . rw[if_neg (by omega),if_neg (by omega),if_neg (by omega),if_neg (by omega)]
     rfl
 . rcases hdry with hdry|⟨hm,hr⟩
   . refine .inl ?_
     rcases hd with ⟨l,sv,Y,h3,h4,h5,h6⟩|h
     . exact .inl ⟨l,sv,Y,h3,h4,by rw[wl hi h4];exact h5,hdry h6⟩
     . exact .inr h
   . refine .inr fun y hy=>?_
     obtain⟨a1,a2⟩:=hE hy;have hc:(mayWake P g && g1.status != .blocked && g1.status != .waiting)=true:=by rw[hm,hr];rfl
     unfold Go.Conc.woken;rw[if_pos hc,lU a1 a2]
 . rcases hA with ⟨h0,g₂,z,h3,h4,h5,h6⟩|h
   . exact .inl ⟨h0,g₂,z,h3,h4,h5,by rw[hr];exact h6⟩
   . exact .inr h
 . exact fun l b X h3 h4 h5=>ht l b X h3 h4 (by rw[← h5];exact (wl hi h4).symm)
theorem jB (hj:j<A.n) {p:qk} (e:s.w j = .dn p):di P A s (A.b+j):=.inr (.inl ⟨j,hj,rfl,by rw[e];trivial⟩)
theorem ii (hj:j<A.n) {p:qk} (e:s.w j = .dn p) : ¬ bW P A s (A.b+j):=by
 have:=A.hb
 rintro (⟨e,_⟩|⟨l,h1,h2,h3⟩|⟨e,_⟩)
 . omega
 . obtain rfl:l=j:=by omega
   rw[e] at h3;exact h3
 . omega
theorem lD (hj:j<A.n) {p:qk} (e:s.w j = .dn p) : ¬ cL P A s (A.b+j):=by
 have:=A.hb
 rintro (⟨e,_⟩|⟨l,h1,h2,h3⟩)
 . omega
 . obtain rfl:l=j:=by omega
   rw[e] at h3;cases h3
end
section
variable {P:Program} {A:cC} {Fin:ag->ah->Goroutine->Prop} {Z:Base} {s:MS P} {f:Nat->Node P} {q:Nat->Nat} {kk:Nat->ag} {OO:Nat->ah} {J M:Nat->Prop} {gs:Array Goroutine} {gsz:Nat} {w w':World} {t u:Trace} {j:Nat} {x:aM P} {sh:Mu.Sh} {g:Goroutine}
theorem bO.Dj (h:bO P A Z s kk OO J M gsz w t) (hj:j<A.n) (hbusy:x.busy=(s.w j).busy) (ho:x.owns=(s.w j).owns) (hI:bd A.n (s.aC j x sh)) (hmu:ShM A.fb A.fo w' sh)
 (hheap:∀ b,b≠A.fb->w'.heap[b]? = w.heap[b]?) (hfb:∃ c e,w'.heap[A.fb]? = some (.cells c e (0,0))) (hu:∀ op∈u,(∀ a,op.act.touch? = some a->a.kind = .atomic)∧∀ a,op.act ≠ .mark (.release a)) :
 bO P A Z (s.aC j x sh) kk OO J M gsz w' (t ++ u):=by
 have hown:∀ l,((s.aC j x sh).w l).owns=(s.w l).owns:=fun l=>by
  by_cases e:l=j
  . subst e;rw[aA,ho]
  . rw[aN e]
 refine⟨hI,h.size,by rw[hheap _ A.d1];exact h.sf,hmu,h.gr.same (.of_heap (hheap _ (Ne.symm A.d4))),hfb,by rw[hheap _ (Ne.symm A.d4)];exact h.sG,h.dA,h.cx,fun i y hy=>?_,fun l hl hlo=>h.rm l hl (by rw[← hown l];exact hlo),fun hlo=>h.Dc fun l hl=>by rw[← hown l];exact hlo l hl,fun c hc=>?_,
  fun i=>by rw[h.hJ i];exact (ji hj hbusy i).symm,h.nK u,h.iL u,h.fT u (fun op hop a ha _ hk=>?_),h.jz u (fun op hop a ha _ hk=>?_),h.kE u,h.eL u (fun op hop=>(hu op hop).2),h.wv,h.mR,h.gJ,h.cM,h.la,by simp;exact Nat.le_trans h.n0 (Nat.le_add_right _ _)⟩
 . obtain⟨l,f,h3,h4,h5,h6⟩:=h.tok i y hy
   exact⟨l,f,h3,h4,by rw[hown];exact h5,h6⟩
 . obtain⟨h3,h4⟩:=h.Cf c hc
   exact⟨h3,fun l hl=>by rw[hown];exact h4 l hl⟩
 . rw[(hu op hop).1 a ha] at hk;cases hk
 . rw[(hu op hop).1 a ha] at hk;cases hk
variable (C:gk P A.ng) (X:iD P A.ng)
include C X in
theorem Gk (hZ:A.b+A.n+1≤Z.lk) (hC:aW (bn P A Fin Z hZ) Z s f q kk OO J M gs w t) (hj:j<A.n) (hw:s.w j = .dn .d2) (hg:gs[A.b+j]? = some g) (hat:Az P A j (.dn .d2) (kk (A.b+j)) (OO (A.b+j)) g) (sl:Option (Nat × Nat)) :
 Goes P A Fin Z hZ s gs w t sl (A.b+j):=by
 have hE:bO P A Z s kk OO J M gs.size w t:=hC.ex;have B:=aJ (P:=P) (A:=A) (Fin:=Fin) (Z:=Z) hZ;have hb:=A.hb;have hi0:(A.b+j == 0)=false:=by simp;omega
 obtain⟨fw,fn,tmps,todo,hfn,hres,hM⟩:=hat;obtain⟨g1,hst,hr,g2,⟨k,hsil⟩,hA⟩:=Lw (Wd:=iV A) (main:=false) (w:=w) C X hM;obtain⟨x,hx⟩:∃ x:aM P,x = .dn .d4:=⟨_,rfl⟩;have hsx:(s.aC j x s.sh).w j = .dn .d4:=by rw[aA,hx]
 have hwk:=jB (P:=P) (A:=A) (s:=s) hj hw
 have hd0:Deaf t (A.b+j)=0:=by
  obtain⟨_,_,hd0,_⟩:=hC.walk _ hwk;rw[hd0];show bF P A s (A.b+j)=0;rw[cN hj,hw];rfl
 have hrun:=runT_crowd_go (P:=P) (sl:=sl) (i:=A.b+j) hg (by rw[hi0];exact hst)
 have hbeg:be P A s (A.b+j):=eM hE.I hj (by rw[hw];rfl)
 obtain⟨y1,y2,y3,y4⟩:=hE.Di (es:=#[⟨.mark .disable,false,true⟩]) (fun e he=>by simp at he;subst he;exact .inl (.inl rfl)) hbeg g.frame.fn g.frame.place
 have hops:∀ op∈MemOp.ofEvents (A.b+j) g.frame.fn g.frame.place #[⟨.mark .disable,false,true⟩],op.g=A.b+j:=fun op hop=>by obtain⟨e,_,rfl⟩:=Go.Conc.mem_ofEvents hop;rfl
 have hnt:∀ op∈MemOp.ofEvents (A.b+j) g.frame.fn g.frame.place #[⟨.mark .disable,false,true⟩],op.act.touch? = none:=fun op hop=>by
  obtain⟨e,he,rfl⟩:=Go.Conc.mem_ofEvents hop;simp at he;subst he;rfl
 have hP:=hC.bp.Hn (i:=A.b+j) (w':=w) hops rfl ⟨⟨.refl _,rfl⟩,fun _ _=>rfl⟩ (fun b => .inl rfl) y2 y1 (fun m op a h1 h2 _=>by rw[hnt op (Array.mem_of_getElem? h1)] at h2;cases h2)
 have hI:bd A.n (s.aC j x s.sh):=hE.I.vb hj (by rw[hw];rfl) (by rw[hx];rfl) (by rw[hx,hw];rfl) (by rw[hx];rfl) (by rw[hx,hw];rfl)
 have hL:MS.dR A.n (s.aC j x s.sh) s:=ru hj (by rw[hx,hw];simp[aM.bw])
 have hEx:=hE.Dj (x:=x) (sh:=s.sh) (w':=w) hj (by rw[hx,hw];rfl) (by rw[hx,hw];rfl) hI hE.mu (fun _ _=>rfl) hE.pN y3
 have hbs:Beside (bn P A Fin Z hZ) s (s.aC j x s.sh) f f q (upd q (A.b+j) k) kk kk OO OO J J w (A.b+j) g g1:=
  pQ hZ hj (by rw[hx,hw];rfl) (fun i hi=>rfl) (fun i hi=>upd_ne q k hi) (fun _ _ _=>rfl) (fun _ _ _=>rfl) (fun _ _ h=>h) (.inl fun h=>h) (fun {i k O y} hA=>B.je (s:=s) (i:=i) (k:=k) (O:=O) (g:=y) hA)
 refine⟨_,_,hrun,s.aC j x s.sh,f,upd q (A.b+j) k,kk,OO,J,M,_,_,_,rfl,hL,?_⟩;refine aW.step B hC hg hops hP hEx (fun l y hl hA=>B.oE hE hl _ _ hA) hbs ⟨fun hl=>absurd hl (ii hj hsx),fun _=>⟨ii hj hsx,?_,?_,g2,?_,?_⟩,fun hh=>absurd hh (lD hj hsx),fun _ hn _=>absurd (jB hj hsx) hn⟩
 . show A.b+j<A.b+A.n+1;omega
 . rw[Deaf_own,hd0]
   show _=bF P A (s.aC j x s.sh) (A.b+j);rw[cN hj,hsx];rfl
 . refine .inr (.inl ⟨j,hj,rfl,?_⟩)
   rw[hsx];exact⟨fw,fn,tmps,todo,hfn,hres,hA⟩
 . exact .inr (by rw[upd_same];exact hsil)
end
section
variable {Z:Base} {kk:Nat->ag} {OO:Nat->ah} {J M:Nat->Prop} {w:World} {t:Trace}
theorem bm.ci (h:bm Z kk OO J M w t) {i:Nat} {ad:Addr} (hla:ad.block<w.heap.size) (hd:Deaf t i=0) (fn:FuncId) (pos:String) :
 bm Z kk OO (fun l=>J l∧l≠i) (fun p=>M p∨p=t.size) w (t ++ MemOp.ofEvents i fn pos #[⟨.mark (.releaseMerge ad),false,true⟩]):=by
 obtain⟨u,hu⟩:∃ u,u=MemOp.ofEvents i fn pos #[⟨.mark (.releaseMerge ad),false,true⟩]:=⟨_,rfl⟩;have hu':u=#[⟨i,fn,pos,.mark (.releaseMerge ad)⟩]:=by rw[hu,ofEvents_eq];simp[MemAct.ofEvent]
 rw[← hu];have hnt:∀ op∈u,op.act.touch? = none:=fun op hop=>by rw[hu'] at hop;simp at hop;subst hop;rfl
 have hops:∀ op∈u,op.g=i:=fun op hop=>by rw[hu'] at hop;simp at hop;subst hop;rfl
 have hu0:u[0]? = some ⟨i,fn,pos,.mark (.releaseMerge ad)⟩:=by rw[hu'];rfl
 exact h.oB (fun a b=>a=b) rfl ⟨⟨.refl _,rfl⟩,fun _ _=>rfl⟩ (fun b => .inl rfl) (fun op hop=>by rw[hu'] at hop;simp at hop;subst hop;simpa[MemAct.low] using hla) (fun a b e n y _ _ _ hk=>by subst e;exact hk.app u)
  (fun j b n v h=>⟨j,rfl,h⟩) (fun j b s h=>⟨j,rfl,h⟩) (fun j b x h=>⟨j,rfl,h,fun _ h=>h⟩) h.fR
  (fun said=>noRace_append (h.clean said) hops fun n a ha op hop b hb _=>by rw[hnt op hop] at hb;cases hb) (fun op hop a ha=>by rw[hnt op hop] at ha;cases ha) (fun m op a hop ha=>by rw[hnt op (Array.mem_of_getElem? hop)] at ha;cases ha)
  (fun n a ha hm h=>h.elim (fun ⟨j,h1,h2⟩=>by
    by_cases e:j=i
    . subst e;exact .inr (.inr (.inl ⟨t.size+0,.inr rfl,ja h2 hu0 rfl⟩))
    . exact .inr (.inl ⟨j,⟨h1,e⟩,h2.app _⟩)) (fun ⟨p,h1,h2⟩ => .inr (.inr (.inl ⟨p,.inl h1,h2.app _⟩))))
end
section
variable {P:Program} {A:cC} {Fin:ag->ah->Goroutine->Prop} {Z:Base} {s:MS P} {f:Nat->Node P} {q:Nat->Nat} {kk:Nat->ag} {OO:Nat->ah} {J M:Nat->Prop} {gs:Array Goroutine} {gsz:Nat} {w w':World} {t u:Trace} {j:Nat} {x:aM P} {sh:Mu.Sh} {g:Goroutine}
theorem bO.ci (h:bO P A Z s kk OO J M gsz w t) (hj:j<A.n) (hbusy:x.busy=false) (hpast:s.c = .none∨s.c = .cT∨∃ q,s.c = .wt q) (hd:Deaf t (A.b+j)=0) (hu0:∃ op,u[0]? = some op∧op.g=A.b+j∧op.act = .mark (.releaseMerge ⟨A.gb,0,none⟩)) (hloud:i9 u) (ho:x.owns=(s.w j).owns) (hI:bd A.n (s.aC j x sh)) (hmu:ShM A.fb A.fo w' sh)
 (hheap:∀ b,b≠A.fb->w'.heap[b]? = w.heap[b]?) (hfb:∃ c e,w'.heap[A.fb]? = some (.cells c e (0,0))) (hu:∀ op∈u,(∀ a,op.act.touch? = some a->a.kind = .atomic)∧∀ a,op.act ≠ .mark (.release a)) :
 bO P A Z (s.aC j x sh) kk OO (fun l=>J l∧l≠A.b+j) (fun p=>M p∨p=t.size) gsz w' (t ++ u):=by
 have hown:∀ l,((s.aC j x sh).w l).owns=(s.w l).owns:=fun l=>by
  by_cases e:l=j
  . subst e;rw[aA,ho]
  . rw[aN e]
 refine⟨hI,h.size,by rw[hheap _ A.d1];exact h.sf,hmu,h.gr.same (.of_heap (hheap _ (Ne.symm A.d4))),hfb,by rw[hheap _ (Ne.symm A.d4)];exact h.sG,h.dA,h.cx,fun i y hy=>?_,fun l hl hlo=>h.rm l hl (by rw[← hown l];exact hlo),fun hlo=>h.Dc fun l hl=>by rw[← hown l];exact hlo l hl,fun c hc=>?_,
  fun i=>?_,fun p hp=>?_,fun hc=>?_,h.fT u (fun op hop a ha _ hk=>?_),h.jz u (fun op hop a ha _ hk=>?_),h.kE u,h.eL u (fun op hop=>(hu op hop).2),h.wv,h.mR,h.gJ,h.cM,h.la,by simp;exact Nat.le_trans h.n0 (Nat.le_add_right _ _)⟩
 . obtain⟨l,f,h3,h4,h5,h6⟩:=h.tok i y hy
   exact⟨l,f,h3,h4,by rw[hown];exact h5,h6⟩
 . obtain⟨h3,h4⟩:=h.Cf c hc
   exact⟨h3,fun l hl=>by rw[hown];exact h4 l hl⟩
 . rw [h.hJ i]
   constructor
   . rintro⟨⟨l,h3,h4,h5⟩|⟨h3,h4⟩,hne⟩
     . exact .inl ⟨l,h3,h4,by rw[aN (by omega)];exact h5⟩
     . exact .inr ⟨h3,h4⟩
   . rintro (⟨l,h3,h4,h5⟩|⟨h3,h4⟩)
     . by_cases e:l=j
       . subst e;rw[aA,hbusy] at h5;cases h5
       . rw[aN e] at h5;exact⟨.inl ⟨l,h3,h4,h5⟩,by omega⟩
     . exact⟨.inr ⟨h3,h4⟩,by omega⟩
 . rcases hp with hp|rfl
   . exact h.nK u p hp
   . obtain⟨op,e1,e2,e3⟩:=hu0
     refine⟨heard_new (m:=0) hloud e1 (by rw[e2];exact hd),h.n0,.inl ⟨?_,hpast⟩⟩
     have e4:=act?_of (bQ (t:=t) (m:=0) e1);rw[e3] at e4;exact e4
 . obtain⟨p,h3,h4,h5⟩:=h.iL u hc
   exact⟨p,.inl h3,h4,h5⟩
 . rw[(hu op hop).1 a ha] at hk;cases hk
 . rw[(hu op hop).1 a ha] at hk;cases hk
variable (C:gk P A.ng) (X:iD P A.ng)
include C X in
theorem Gl (hZ:A.b+A.n+1≤Z.lk) (hC:aW (bn P A Fin Z hZ) Z s f q kk OO J M gs w t) (hj:j<A.n) (hw:s.w j = .dn .d1) (hg:gs[A.b+j]? = some g) (hat:Az P A j (.dn .d1) (kk (A.b+j)) (OO (A.b+j)) g) (sl:Option (Nat × Nat)) :
 Goes P A Fin Z hZ s gs w t sl (A.b+j):=by
 have hE:bO P A Z s kk OO J M gs.size w t:=hC.ex;have B:=aJ (P:=P) (A:=A) (Fin:=Fin) (Z:=Z) hZ;have hb:=A.hb;have hi0:(A.b+j == 0)=false:=by simp;omega
 obtain⟨fw,fn,tmps,todo,hfn,hres,hM⟩:=hat;obtain⟨g1,hst,hr,g2,⟨k,hsil⟩,hA⟩:=Lv (Wd:=iV A) (main:=false) (w:=w) C X hM;obtain⟨x,hx⟩:∃ x:aM P,x = .dn .d2:=⟨_,rfl⟩;have hsx:(s.aC j x s.sh).w j = .dn .d2:=by rw[aA,hx]
 have hwk:=jB (P:=P) (A:=A) (s:=s) hj hw
 have hd0:Deaf t (A.b+j)=0:=by
  obtain⟨_,_,hd0,_⟩:=hC.walk _ hwk;rw[hd0];show bF P A s (A.b+j)=0;rw[cN hj,hw];rfl
 have hrun:=runT_crowd_go (P:=P) (sl:=sl) (i:=A.b+j) hg (by rw[hi0];exact hst)
 have hbeg:be P A s (A.b+j):=eM hE.I hj (by rw[hw];rfl)
 have hops:∀ op∈MemOp.ofEvents (A.b+j) g.frame.fn g.frame.place #[⟨.mark (.releaseMerge ⟨A.gb,0,none⟩),false,true⟩],op.g=A.b+j:=fun op hop=>by obtain⟨e,_,rfl⟩:=Go.Conc.mem_ofEvents hop;rfl
 have y3:∀ op∈MemOp.ofEvents (A.b+j) g.frame.fn g.frame.place #[⟨.mark (.releaseMerge ⟨A.gb,0,none⟩),false,true⟩],(∀ a,op.act.touch? = some a->a.kind = .atomic)∧∀ a,op.act ≠ .mark (.release a):=fun op hop=>by
  obtain⟨e,he,rfl⟩:=Go.Conc.mem_ofEvents hop;simp at he;subst he;exact⟨fun a ha=>by simp[MemAct.ofEvent,MemAct.touch?] at ha,fun a h=>by simp[MemAct.ofEvent] at h⟩
 have hloud:i9 (MemOp.ofEvents (A.b+j) g.frame.fn g.frame.place #[⟨.mark (.releaseMerge ⟨A.gb,0,none⟩),false,true⟩]):=fun op hop=>by
  obtain⟨e,he,rfl⟩:=Go.Conc.mem_ofEvents hop;simp at he;subst he;simp[MemAct.ofEvent]
 have hG:A.gb<w.heap.size:=by obtain⟨c,e,h1⟩:=hE.sG;exact (Array.getElem?_eq_some_iff.1 h1).1
 have hP:=hC.bp.ci (i:=A.b+j) (ad:=⟨A.gb,0,none⟩) hG hd0 g.frame.fn g.frame.place
 have hpast:s.c = .none∨s.c = .cT∨∃ q,s.c = .wt q:=by
  cases e:s.c with
  | none=>exact .inl rfl
  | cT=>exact .inr (.inl rfl)
  | wt p=>exact .inr (.inr ⟨p,rfl⟩)
  | ia=>have:=(hE.I.g8 (by rw[e];rfl)).2.2.2 j hj;rw[hw] at this;cases this
  | gone=>have:=(hE.I.g8 (by rw[e];rfl)).2.2.2 j hj;rw[hw] at this;cases this
 have hI:bd A.n (s.aC j x s.sh):=hE.I.vb hj (by rw[hw];rfl) (by rw[hx];rfl) (by rw[hx,hw];rfl) (by rw[hx];rfl) (by rw[hx,hw];rfl)
 have hL:MS.dR A.n (s.aC j x s.sh) s:=ru hj (by rw[hx,hw];simp[aM.bw])
 have hEx:=hE.ci (x:=x) (sh:=s.sh) (w':=w) hj (by rw[hx];rfl) hpast hd0 ⟨⟨A.b+j,g.frame.fn,g.frame.place,.mark (.releaseMerge ⟨A.gb,0,none⟩)⟩,by rw[ofEvents_eq];simp[MemAct.ofEvent],rfl,rfl⟩ hloud (by rw[hx,hw];rfl) hI hE.mu (fun _ _=>rfl) hE.pN y3
 have hbs:Beside (bn P A Fin Z hZ) s (s.aC j x s.sh) f f q (upd q (A.b+j) k) kk kk OO OO J (fun l=>J l∧l≠A.b+j) w (A.b+j) g g1:=
  pQ hZ hj (by rw[hx,hw];rfl) (fun i hi=>rfl) (fun i hi=>upd_ne q k hi) (fun _ _ _=>rfl) (fun _ _ _=>rfl) (fun _ hn h=>⟨h,hn⟩) (.inl fun h=>h) (fun {i k O y} hA=>B.je (s:=s) (i:=i) (k:=k) (O:=O) (g:=y) hA)
 refine⟨_,_,hrun,s.aC j x s.sh,f,upd q (A.b+j) k,kk,OO,(fun l=>J l∧l≠A.b+j),(fun p=>M p∨p=t.size),_,_,_,rfl,hL,?_⟩
 refine aW.step B hC hg hops hP hEx (fun l y hl hA=>B.oE hE hl _ _ hA) hbs ⟨fun hl=>absurd hl (ii hj hsx),fun _=>⟨ii hj hsx,?_,?_,g2,?_,?_⟩,fun hh=>absurd hh (lD hj hsx),fun _ hn _=>absurd (jB hj hsx) hn⟩
 . show A.b+j<A.b+A.n+1;omega
 . rw[Deaf_own,hd0]
   show _=bF P A (s.aC j x s.sh) (A.b+j);rw[cN hj,hsx];rfl
 . refine .inr (.inl ⟨j,hj,rfl,?_⟩)
   rw[hsx];exact⟨fw,fn,tmps,todo,hfn,hres,hA⟩
 . exact .inr (by rw[upd_same];exact hsil)
end
structure cW {P:Program} (A:cC) (s s':MS P) (i:Nat):Prop where
 w:∀ l,l<A.n->A.b+l≠i->s'.w l=s.w l
 c:i≠A.b+A.n->s'.c=s.c
 ms:i≠0->s'.ms=s.ms
 sp:s'.sp=s.sp
 ez:∀ l,l<A.n->(s'.w l).ez=(s.w l).ez
section
variable {P:Program} {A:cC} {Fin:ag->ah->Goroutine->Prop} {Z:Base} {s s':MS P} {f f':Nat->Node P} {q q':Nat->Nat} {kk kk':Nat->ag} {OO OO':Nat->ah} {J J' M:Nat->Prop} {gs:Array Goroutine} {gsz:Nat} {w w':World} {t u:Trace} {i:Nat} {g g1:Goroutine}
theorem cW.rem (h:cW A s s' i):MS.rem P A.n s'=MS.rem P A.n s:=by
 unfold MS.rem;refine List.filter_congr fun l hl=>?_
 rw[h.ez l (List.mem_range.1 hl)]
theorem cW.live (h:cW A s s' i) {j:Nat} (hj:j≠i):bW P A s' j ↔ bW P A s j:=by
 constructor <;> rintro (⟨h0,h1⟩|⟨l,h1,h2,h3⟩|⟨h0,h1⟩)
 . exact .inl ⟨h0,by rw[← h.ms (fun e=>hj (h0.trans e.symm))];exact h1⟩
 . exact .inr (.inl ⟨l,h1,h2,by rw[← h.w l h1 (fun e=>hj (h2.trans e))];exact h3⟩)
 . exact .inr (.inr ⟨h0,by rw[← h.c (fun e=>hj (h0.trans e.symm))];exact h1⟩)
 . exact .inl ⟨h0,by rw[h.ms (fun e=>hj (h0.trans e.symm))];exact h1⟩
 . exact .inr (.inl ⟨l,h1,h2,by rw[h.w l h1 (fun e=>hj (h2.trans e))];exact h3⟩)
 . exact .inr (.inr ⟨h0,by rw[h.c (fun e=>hj (h0.trans e.symm))];exact h1⟩)
theorem cW.walk (h:cW A s s' i) {j:Nat} (hj:j≠i):di P A s' j ↔ di P A s j:=by
 constructor <;> rintro (⟨h0,h1⟩|⟨l,h1,h2,h3⟩|⟨h0,h1⟩)
 . exact .inl ⟨h0,by rw[← h.ms (fun e=>hj (h0.trans e.symm))];exact h1⟩
 . exact .inr (.inl ⟨l,h1,h2,by rw[← h.w l h1 (fun e=>hj (h2.trans e))];exact h3⟩)
 . exact .inr (.inr ⟨h0,by rw[← h.c (fun e=>hj (h0.trans e.symm))];exact h1⟩)
 . exact .inl ⟨h0,by rw[h.ms (fun e=>hj (h0.trans e.symm))];exact h1⟩
 . exact .inr (.inl ⟨l,h1,h2,by rw[h.w l h1 (fun e=>hj (h2.trans e))];exact h3⟩)
 . exact .inr (.inr ⟨h0,by rw[h.c (fun e=>hj (h0.trans e.symm))];exact h1⟩)
theorem cW.held (h:cW A s s' i) {j:Nat} (hj:j≠i):cL P A s' j ↔ cL P A s j:=by
 constructor <;> rintro (⟨h0,h1⟩|⟨l,h1,h2,h3⟩)
 . exact .inl ⟨h0,by rw[← h.ms (fun e=>hj (h0.trans e.symm))];exact h1⟩
 . exact .inr ⟨l,h1,h2,by rw[← h.w l h1 (fun e=>hj (h2.trans e))];exact h3⟩
 . exact .inl ⟨h0,by rw[h.ms (fun e=>hj (h0.trans e.symm))];exact h1⟩
 . exact .inr ⟨l,h1,h2,by rw[h.w l h1 (fun e=>hj (h2.trans e))];exact h3⟩
theorem rv (hZ:A.b+A.n+1≤Z.lk) (hS:cW A s s' i) (hf:∀ j,j≠i->f' j=f j) (hq:∀ j,j≠i->q' j=q j) (hk:∀ j,j≠i->j<A.b+A.n+1->kk' j=kk j) (hO:∀ j,j≠i->j<A.b+A.n+1->OO' j=OO j) (hJ:∀ j,j≠i->J j->J' j)
 (hdry:((s.sh.ms=0->s'.sh.ms=0)∧(s.gm=0->s'.gm=0))∨(mayWake P g=true∧(g1.status = .running∨g1.status = .finished))) (hE:∀ {i k O y},J1 P A Fin s i k O y->y.status = .running∧y.offers=none) :
 Beside (bn P A Fin Z hZ) s s' f f' q q' kk kk' OO OO' J J' w' i g g1:=by
 have hb:=A.hb;have hr:=hS.rem;have wl:∀ {j l:Nat},l<A.n->j≠i->j=A.b+l->s'.w l=s.w l:=fun {j l} hl hj e=>hS.w l hl (fun h=>hj (e.trans h))
 have hms:∀ {j:Nat},j≠i->j=0->s'.ms=s.ms:=fun hj e=>hS.ms (fun h=>hj (e.trans h.symm))
 have hc:∀ {j:Nat},j≠i->j=A.b+A.n->s'.c=s.c:=fun hj e=>hS.c (fun h=>hj (e.trans h.symm))
 refine⟨hf,hq,hk,hO,fun j hj _ h=>hJ j hj h,fun j hj=>hS.live hj,fun j hj=>hS.walk hj,fun j hj=>hS.held hj,fun j hj hl=>?_,fun j k O y hj _ hA=>?_,fun j hj hw=>?_,fun j hj hw hd=>?_,fun j k O y hj _ hA=>?_,fun j y hj _ ht=>?_⟩
 . show aY P A Fin s' j=aY P A Fin s j
   unfold aY;rw[hr]
   rcases hl with ⟨h0,_⟩|⟨l,h3,h4,_⟩|⟨h0,_⟩
   . simp only[if_pos h0,hms hj h0]
   . have e:j-A.b=l:=by omega
     have n1 : ¬ j=0:=by omega
     have n2:j<A.b+A.n:=by omega
     simp only[if_neg n1,if_pos n2,e,wl h3 hj h4]
   . have n1 : ¬ j=0:=by omega
     have n2 : ¬ j<A.b+A.n:=by omega
     simp only[if_neg n1,if_neg n2,hc hj h0]
 . rcases hA with ⟨h0,h⟩|⟨l,h3,h4,h5⟩|⟨h0,h⟩
   . exact .inl ⟨h0,by rw[hms hj h0];exact h⟩
   . exact .inr (.inl ⟨l,h3,h4,by rw[wl h3 hj h4];exact h5⟩)
   . exact .inr (.inr ⟨h0,by rw[hc hj h0];exact h⟩)
 . show bF P A s' j=bF P A s j
   unfold bF
   rcases hw with ⟨h0,_⟩|⟨l,h3,h4,_⟩|⟨h0,_⟩
   . simp only[if_pos h0,hms hj h0]
   . have e:j-A.b=l:=by omega
     have n1 : ¬ j=0:=by omega
     have n2:j<A.b+A.n:=by omega
     simp only[if_neg n1,if_pos n2,e,wl h3 hj h4]
   . have n1 : ¬ j=0:=by omega
     have n2 : ¬ j<A.b+A.n:=by omega
     simp only[if_neg n1,if_neg n2,hc hj h0]
 . rcases hdry with ⟨hdry,hdry'⟩|⟨hm,hr⟩
   . refine .inl ?_
     rcases hd with ⟨l,sv,Y,h3,h4,h5,h6⟩|⟨h0,h5,h6⟩
     . exact .inl ⟨l,sv,Y,h3,h4,by rw[wl h3 hj h4];exact h5,hdry h6⟩
     . exact .inr ⟨h0,by rw[hc hj h0];exact h5,hdry' h6⟩
   . refine .inr fun y hy=>?_
     obtain⟨a1,a2⟩:=hE hy;have hc:(mayWake P g && g1.status != .blocked && g1.status != .waiting)=true:=by rcases hr with hr|hr <;> rw[hm,hr] <;> rfl
     unfold Go.Conc.woken;rw[if_pos hc,lU a1 a2]
 . rcases hA with ⟨h0,g₂,z,h3,h4,h5,h6⟩|h
   . exact .inl ⟨h0,g₂,z,h3,h4,h5,by rw[hr];exact h6⟩
   . exact .inr h
 . exact fun l b X h3 h4 h5=>ht l b X h3 h4 (by rw[← h5];exact (wl h3 hj h4).symm)
theorem mX {c:gl}:c.cG=true ↔ c = .gone:=by cases c <;> simp[gl.cG]
theorem kG {c:gl}:c.isNone=true ↔ c = .none:=by cases c <;> simp[gl.isNone]
theorem bO.Kc {M':Nat->Prop} (h:bO P A Z s kk OO J M gsz w t) (hS:cW A s s' i) (hown:∀ l,l<A.n->(s'.w l).owns=(s.w l).owns) (hgone:s'.c.cG=s.c.cG) (hnone:s'.c.isNone=s.c.isNone)
 (hMM:∀ p,M' p->M p) (hgm:s.c = .gone->∀ p,M p->M' p) (hcM:(∃ p,M' p)->(s.c = .none∨s.c = .cT∨∃ q,s.c = .wt q)->(s'.c = .none∨s'.c = .cT∨∃ q,s'.c = .wt q)) (hbusy:∀ i,dk P A s' i ↔ dk P A s i) (hI:bd A.n s') (hsh:s'.sh=s.sh) (hgr:mr A.gb w' s'.gc s'.gv s'.gm) (hmw:MW A.gb 0 w w')
 (hu:∀ op∈u,(∀ a,op.act.touch? = some a->a.kind = .atomic∨(a.kind = .said∧op.g=(if s.c.isNone then 0 else A.b+A.n)))∧∀ a,op.act ≠ .mark (.release a)):bO P A Z s' kk OO J M' gsz w' (t ++ u):=by
 obtain⟨m1,m2,c,e,c',m3,m4,_⟩:=jA hmw h.sG
 have hbeg:∀ i,be P A s' i->be P A s i:=fun i hi=>by
  rcases hi with h0|⟨j,h1,h2⟩|⟨h1,h2⟩
  . exact .inl h0
  . exact .inr (.inl ⟨j,by rw[← hS.sp];exact h1,h2⟩)
  . refine .inr (.inr ⟨h1,fun e=>h2 ?_⟩)
    exact kG.1 (by rw[hnone];exact kG.2 e)
 have hbeg':∀ i,be P A s i->be P A s' i:=fun i hi=>by
  rcases hi with h0|⟨j,h1,h2⟩|⟨h1,h2⟩
  . exact .inl h0
  . exact .inr (.inl ⟨j,by rw[hS.sp];exact h1,h2⟩)
  . refine .inr (.inr ⟨h1,fun e=>h2 ?_⟩)
    exact kG.1 (by rw[← hnone];exact kG.2 e)
 have hgi:s'.c = .gone ↔ s.c = .gone:=by rw[← mX,← mX,hgone]
 refine⟨hI,by rw[hS.sp,hnone];exact h.size,by rw[m2 _ A.d2,hgone];exact h.sf,by rw[hsh];exact h.mu.same (.of_heap (m2 _ A.d4)),hgr,by rw[m2 _ A.d4];exact h.pN,⟨c',e,m4⟩,h.dA,h.cx,fun i y hy=>?_,fun l hl hlo=>h.rm l hl (by rw[← hown l hl];exact hlo),fun hlo=>h.Dc fun l hl=>by rw[← hown l hl];exact hlo l hl,fun c hc=>?_,
  fun i=>by rw[h.hJ i];exact (hbusy i).symm,fun p hp=>?_,fun hc=>(by
   obtain⟨p,h1,h2,h3⟩:=h.iL u (hgi.1 hc);exact⟨p,hgm (hgi.1 hc) p h1,h2,h3⟩),fun m a ha hs hk i hi=>h.fT u (fun op hop a ha _ hk=>?_) m a ha hs hk i (hbeg i hi),fun m a ha hs hk=>?_,fun i hi=>h.kE u i (hbeg i hi),h.eL u (fun op hop=>(hu op hop).2),fun i hlk hn=>h.wv i hlk (fun hb=>hn (hbeg' i hb)),h.mR,h.gJ,h.cM,h.la,by simp;exact Nat.le_trans h.n0 (Nat.le_add_right _ _)⟩
 . obtain⟨l,f,h3,h4,h5,h6⟩:=h.tok i y hy
   exact⟨l,f,h3,h4,by rw[hown l h3];exact h5,h6⟩
 . obtain⟨h3,h4⟩:=h.Cf c hc
   exact⟨h3,fun l hl=>by rw[hown l hl];exact h4 l hl⟩
 . obtain⟨h1,h2,h3⟩:=h.nK u p (hMM p hp)
   refine⟨h1,h2,?_⟩
   rcases h3 with ⟨h3,h4⟩|⟨h3,h4⟩
   . exact .inl ⟨h3,hcM ⟨p,hp⟩ h4⟩
   . exact .inr ⟨hgi.2 h3,h4⟩
 . rcases (hu op hop).1 a ha with h1|⟨h1,_⟩ <;> rw[h1] at hk <;> cases hk
 . rw[hnone]
   obtain⟨x,hx,hxa⟩:=touch_of ha
   rcases getElem?_append_cases hx with ⟨hl,hx'⟩|⟨_,hxu⟩
   . exact (h.said m a (by rw[touchAt_of hx'];exact hxa) hs hk).app u
   . rcases (hu x hxu).1 a hxa with h1|⟨_,h1⟩
     . rw[h1] at hk;cases hk
     . rw[← h1];exact⟨m,x,hx,rfl,.inl rfl⟩
theorem bO.NS (h:bO P A Z s kk OO J M gsz w t) (hS:cW A s s' i) (hown:∀ l,l<A.n->(s'.w l).owns=(s.w l).owns) (hgone:s'.c.cG=s.c.cG) (hnone:s'.c.isNone=s.c.isNone)
 (hcM:(s.c = .none∨s.c = .cT∨∃ q,s.c = .wt q)->(s'.c = .none∨s'.c = .cT∨∃ q,s'.c = .wt q)) (hbusy:∀ i,dk P A s' i ↔ dk P A s i) (hI:bd A.n s') (hsh:s'.sh=s.sh) (hgr:mr A.gb w' s'.gc s'.gv s'.gm) (hmw:MW A.gb 0 w w')
 (hu:∀ op∈u,(∀ a,op.act.touch? = some a->a.kind = .atomic∨(a.kind = .said∧op.g=(if s.c.isNone then 0 else A.b+A.n)))∧∀ a,op.act ≠ .mark (.release a)):bO P A Z s' kk OO J M gsz w' (t ++ u):=
 h.Kc hS hown hgone hnone (fun _ h=>h) (fun _ _ h=>h) (fun _=>hcM) hbusy hI hsh hgr hmw hu
def H3 (b:Nat) (es:Array Event):Prop := ∀ e∈es,((e.loc = .mark .disable∨e.loc = .mark .enable)∨∃ i,(i=0∨i=0+1)∧e.loc = .cell ⟨b,i,none⟩∧e.sync=true)∨∃ i,(i=0∨i=1)∧(e.loc = .mark (.read ⟨b,i,none⟩)∨e.loc = .mark (.write ⟨b,i,none⟩))
theorem H4 {b:Nat} {es:Array Event} (h:EvM b 0 es):H3 b es:=fun e he => .inl (h e he)
def Dk (kk:Nat->ag) (OO:Nat->ah) (B:Nat) (t:Trace) (i:Nat) (u:Trace):Prop:=
 ∀ op∈u,∀ a,op.act.touch? = some a->(a.kind = .atomic∨a.kind = .said)∧(a.loc.isMemory=true->CE kk OO B a.loc)∧∀ n b,touchAt t n=some b->b.loc=a.loc->(b.kind = .plain∨(a.kind = .said∧b.kind = .said))->Knows t i n
theorem bm.Di (h:bm Z kk OO J M w t) (hops:∀ op∈u,op.g=i) (hw:w'.heap.size=w.heap.size) (hq:Calm Z w w') (hb:∀ b,Kept kk OO w w' b) (hl:∀ op∈u,op.act.low w.heap.size) (hu:Dk kk OO w.heap.size t i u)
 (hun:∀ m op a,u[m]? = some op->op.act.touch? = some a->a.loc.isMemory=true->Told Z J M (t ++ u) (t.size+m) a):bm Z kk OO J M w' (t ++ u):=
 h.oB (fun a b=>a=b) hw hq hb hl (fun a b e n x _ _ _ hk=>by subst e;exact hk.app u) (fun j b n v h=>⟨j,rfl,h⟩) (fun j b s h=>⟨j,rfl,h⟩) (fun j b x h=>⟨j,rfl,h,fun _ h=>h⟩) h.fR
  (fun said=>noRace_append (h.clean said) hops fun n a ha op hop b hb hc=>by
    obtain⟨h1,h2,h3⟩:=hu op hop b hb;obtain⟨c1,_,_,c4⟩:=hc
    rcases c4 with c4|c4|⟨_,c4,c5⟩
    . exact h3 n a ha c1 (.inl c4)
    . rcases h1 with h1|h1 <;> rw[h1] at c4 <;> cases c4
    . exact h3 n a ha c1 (.inr ⟨c5,c4⟩))
  (fun op hop a ha hm=>(hu op hop a ha).2.1 hm) hun
  (fun n a ha hm h=>h.elim (fun ⟨j,h1,h2⟩ => .inr (.inl ⟨j,h1,h2.app _⟩)) (fun ⟨p,h1,h2⟩ => .inr (.inr (.inl ⟨p,h1,h2.app _⟩))))
theorem kh {b:Nat} {e:Event} (he:((e.loc = .mark .disable∨e.loc = .mark .enable)∨∃ i,(i=0∨i=0+1)∧e.loc = .cell ⟨b,i,none⟩∧e.sync=true)∨∃ i,(i=0∨i=1)∧(e.loc = .mark (.read ⟨b,i,none⟩)∨e.loc = .mark (.write ⟨b,i,none⟩))) :
 (∀ a,(MemAct.ofEvent e).touch? = some a->(a.kind = .atomic∨a.kind = .said)∧∃ i,(i=0∨i=1)∧a.loc = .cell ⟨b,i,none⟩)∧(∀ a,MemAct.ofEvent e ≠ .mark (.release a))∧∀ B,b<B->(MemAct.ofEvent e).low B:=by
 rcases he with he|⟨i,hi,he⟩
 . obtain⟨h1,h2,h3⟩:=kf he
   exact⟨fun a ha=>⟨.inl (h1 a ha).1,by simpa using (h1 a ha).2⟩,h2,h3⟩
 . obtain⟨loc,wr,sy⟩:=e
   rcases he with he|he <;> simp only at he <;> subst he
   all_goals
    refine⟨fun a ha=>?_,by simp[MemAct.ofEvent],fun B hB=>by simpa[MemAct.ofEvent,MemAct.low] using hB⟩
    simp only[MemAct.ofEvent,MemAct.touch?,Option.some.injEq] at ha;subst ha;exact⟨.inr rfl,i,hi,rfl⟩
theorem vd (hZ:A.b+A.n+1≤Z.lk) (hC:aW (bn P A Fin Z hZ) Z s f q kk OO J M gs w t) (hbeg:be P A s i) (hnh : ¬ cL P A s i) (hg:gs[i]? = some g) {es:Array Event} (hst:stepG P (i == 0) g w = .go g1 w' es)
 (hS:cW A s s' i) (hown:∀ l,l<A.n->(s'.w l).owns=(s.w l).owns) (hgone:s'.c.cG=s.c.cG) (hnone:s'.c.isNone=s.c.isNone) (hcM:(s.c = .none∨s.c = .cT∨∃ q,s.c = .wt q)->(s'.c = .none∨s'.c = .cT∨∃ q,s'.c = .wt q)) (hbusy:∀ i,dk P A s' i ↔ dk P A s i)
 (hI:bd A.n s') (hsh:s'.sh=s.sh) (hgr:mr A.gb w' s'.gc s'.gv s'.gm) (hmw:MW A.gb 0 w w') (hev:EvM A.gb 0 es∨(H3 A.gb es∧i=(if s.c.isNone then 0 else A.b+A.n))) (hL:MS.dR A.n s' s)
 (hT:(i=0∨J i)∨(EvM A.gb 0 es∧∀ (m:Nat) (op:MemOp) (a:Touch),(MemOp.ofEvents i g.frame.fn g.frame.place es)[m]? = some op->op.act.touch? = some a->Z.Shun a.loc->a.kind = .atomic->Told Z J M (t ++ MemOp.ofEvents i g.frame.fn g.frame.place es) (t.size+m) a))
 (hdry:(s.gm=0->s'.gm=0)∨(mayWake P g=true∧(g1.status = .running∨g1.status = .finished))) (hf:∀ j,j≠i->f' j=f j) (hq:∀ j,j≠i->q' j=q j)
 (hs:Self P (bn P A Fin Z hZ) s' f' q' kk OO J (t ++ MemOp.ofEvents i g.frame.fn g.frame.place es) i g1) (sl:Option (Nat × Nat)):Goes P A Fin Z hZ s gs w t sl i:=by
 have hE:bO P A Z s kk OO J M gs.size w t:=hC.ex;have B:=aJ (P:=P) (A:=A) (Fin:=Fin) (Z:=Z) hZ;have hrun:=runT_crowd_go (P:=P) (sl:=sl) (i:=i) hg hst;have hG:A.gb<w.heap.size:=by obtain⟨c,e,h1⟩:=hE.sG;exact (Array.getElem?_eq_some_iff.1 h1).1
 have hevG:H3 A.gb es:=hev.elim H4 (·.1);have hops:∀ op∈MemOp.ofEvents i g.frame.fn g.frame.place es,op.g=i:=fun op hop=>by obtain⟨e,_,rfl⟩:=Go.Conc.mem_ofEvents hop;rfl
 have hkind:∀ op∈MemOp.ofEvents i g.frame.fn g.frame.place es,∀ a,op.act.touch? = some a->a.kind = .atomic∨(a.kind = .said∧op.g=(if s.c.isNone then 0 else A.b+A.n)):=fun op hop a ha=>by
  obtain⟨e,he,rfl⟩:=Go.Conc.mem_ofEvents hop
  rcases hev with hev|⟨_,hi⟩
  . exact .inl ((kf (hev e he)).1 a ha).1
  . rcases ((kh (hevG e he)).1 a ha).1 with h|h
    . exact .inl h
    . exact .inr ⟨h,hi⟩
 have y1:Dk kk OO w.heap.size t i (MemOp.ofEvents i g.frame.fn g.frame.place es):=fun op hop a ha=>by
  have hkd:=hkind op hop a ha;have hig:=hops op hop;obtain⟨e,he,rfl⟩:=Go.Conc.mem_ofEvents hop;obtain⟨h1,n,hn,h2⟩:=(kh (hevG e he)).1 a ha;have hsc:Db A a.loc:=by rw[h2];exact⟨rfl,.inr ⟨rfl,hn⟩⟩
  refine⟨h1,fun _=>by rw[h2];exact hE.Hq hn,fun m b hb hl hk=>?_⟩
  rcases hk with hk|⟨hk1,hk2⟩
  . exact hE.quiet m b hb (by rw[hl];exact hsc) hk i hbeg
  . have h5:=hE.said m b hb (by rw[hl];exact hsc) hk2
    rcases hkd with hkd|⟨_,hkd⟩
    . rw[hkd] at hk1;cases hk1
    . rw[← hkd] at h5;exact h5
 have y2:∀ op∈MemOp.ofEvents i g.frame.fn g.frame.place es,op.act.low w.heap.size:=fun op hop=>by
  obtain⟨e,he,rfl⟩:=Go.Conc.mem_ofEvents hop;exact (kh (hevG e he)).2.2 _ hG
 have y3:∀ op∈MemOp.ofEvents i g.frame.fn g.frame.place es,(∀ a,op.act.touch? = some a->a.kind = .atomic∨(a.kind = .said∧op.g=(if s.c.isNone then 0 else A.b+A.n)))∧∀ a,op.act ≠ .mark (.release a):=fun op hop=>⟨hkind op hop,by
  obtain⟨e,he,rfl⟩:=Go.Conc.mem_ofEvents hop;exact (kh (hevG e he)).2.1⟩
 have y4:∀ op∈MemOp.ofEvents i g.frame.fn g.frame.place es,∀ a,op.act.touch? = some a->Z.Shun a.loc:=fun op hop a ha=>by
  obtain⟨e,he,rfl⟩:=Go.Conc.mem_ofEvents hop;obtain⟨h1,n,hn,h2⟩:=(kh (hevG e he)).1 a ha;rw[h2];exact hE.mR _ ⟨rfl,.inr ⟨rfl,hn⟩⟩ ⟨_,rfl,rfl⟩
 obtain⟨m1,m2,c,e,c',m3,m4,_⟩:=jA hmw hE.sG
 have hP:=hC.bp.Di (i:=i) hops m1 (hE.Ka hmw) (hE.Kb hmw) y2 y1 (fun m op a h1 h2 _=>by
  rcases hT with hJ|⟨hev,hT⟩
  . have hk:Knows (t ++ MemOp.ofEvents i g.frame.fn g.frame.place es) i (t.size+m):=knows_own h1 (hops op (Array.mem_of_getElem? h1))
    rcases hJ with rfl|hJ
    . exact .inl hk
    . exact .inr (.inl ⟨i,hJ,hk⟩)
  . refine hT m op a h1 h2 (y4 op (Array.mem_of_getElem? h1) a h2) ?_
    obtain⟨e,he,rfl⟩:=Go.Conc.mem_ofEvents (Array.mem_of_getElem? h1);exact ((kf (hev e he)).1 a h2).1)
 have hEx:bO P A Z s' kk OO J M gs.size w' (t ++ MemOp.ofEvents i g.frame.fn g.frame.place es):=hE.NS hS hown hgone hnone hcM hbusy hI hsh hgr hmw y3
 have hbs:Beside (bn P A Fin Z hZ) s s' f f' q q' kk kk OO OO J J w' i g g1:=
  rv hZ hS hf hq (fun _ _ _=>rfl) (fun _ _ _=>rfl) (fun _ _ h=>h) (hdry.imp (fun h=>⟨fun h0=>by rw[hsh];exact h0,h⟩) id) (fun {i k O y} hA=>B.je (s:=s) (i:=i) (k:=k) (O:=O) (g:=y) hA)
 refine⟨_,_,hrun,s',f',q',kk,OO,J,M,_,_,_,rfl,hL,?_⟩;refine aW.step B hC hg hops hP hEx (fun l y hl hA=>?_) hbs hs
 have hne:l≠i:=fun e=>hnh (e ▸ hl)
 exact B.oE hEx ((hbs.held l hne).2 hl) _ _ (hbs.HZ l _ _ _ hne hl hA)
theorem zL {g:Nat}:∀ m,m≤u.size->(∀ l op,l<m->u[l]? = some op->op.act ≠ .mark .enable)->Deaf t g≤(t ++ u).deaf g (t.size+m)
 | 0,_,_=>by
   show Deaf t g≤(t ++ u).deaf g t.size;rw[deaf_old (Nat.le_refl _)];exact Nat.le_refl _
 | m + 1,h,hn=>by
   have hm:m<u.size:=by omega
   have hx:(t ++ u)[t.size+m]? = some u[m]:=by
    rw[Array.getElem?_append_right (by omega)];simp[hm]
   have ih:=zL (g:=g) m (by omega) (fun l op hl=>hn l op (by omega))
   rw[← Nat.add_assoc,deaf_succ hx];have:=hn m u[m] (by omega) (by simp[hm])
   unfold deafStep;split
   . split <;> omega
   . next e=>exact absurd e this
   . exact ih
theorem yp {es:Array Event} {fn:FuncId} {pos:String} (hd:1≤Deaf t i) (he:∀ (m:Nat) (op:MemOp) (a:Touch),(MemOp.ofEvents i fn pos es)[m]? = some op->op.act.touch? = some a->∀ (l:Nat) (op':MemOp),l<m->(MemOp.ofEvents i fn pos es)[l]? = some op'->op'.act ≠ .mark .enable):∀ (m:Nat) (op:MemOp) (a:Touch),(MemOp.ofEvents i fn pos es)[m]? = some op->op.act.touch? = some a->Z.Shun a.loc->a.kind = .atomic->Told Z J M (t ++ MemOp.ofEvents i fn pos es) (t.size+m) a:=fun m op a h1 h2 hz hk=>by
 refine AE (i:=i) h1 h2 hz hk fun hc=>?_
 obtain⟨x,hx,_,hx3⟩:=hc;rw[act?_of (bQ h1)] at hx;have hx:op.act.touch? = some x:=hx;rw[h2] at hx;obtain rfl:=Option.some.inj hx
 rcases hx3 with hx3|⟨g',hg',hd'⟩
 . exact hx3 hk
 . have hgi:op.g=i:=by obtain⟨e,_,rfl⟩:=Go.Conc.mem_ofEvents (Array.mem_of_getElem? h1);rfl
   have:g'=i:=by
    have hg2:(t ++ MemOp.ofEvents i fn pos es).g? (t.size+m)=some op.g:=by simp[Trace.g?,bQ h1]
    rw[hg2] at hg';rw[← hgi];exact (Option.some.inj hg').symm
   subst this;have hm:=(Array.getElem?_eq_some_iff.1 h1).1;have:=zL (t:=t) (u:=MemOp.ofEvents g' fn pos es) (g:=g') m (by omega) (fun l op' hl hop=>he m op _ h1 h2 l op' hl hop)
   omega
end
end Go.aZ
