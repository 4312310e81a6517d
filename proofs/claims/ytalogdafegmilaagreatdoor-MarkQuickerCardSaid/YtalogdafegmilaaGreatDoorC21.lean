/- Part 21 of the proof. -/
import Derived.Test.YtalogdafegmilaaGreatDoorC20
set_option linter.all false
namespace Go.aN
open Go.Conc
open Go.ConcN (sumTo upd sumTo_upd upd_ne upd_same)
section
variable{P:Program}{A:dM}{Fin:ag->ah->Goroutine->Prop}{Z:Base}{s:MS P}{f:Nat->Node P}{q:Nat->Nat}{kk:Nat->ag}{OO:Nat->ah}{J M:Nat->Prop}{gs:Array Goroutine}{w w':World}{t:Trace}{j:Nat}{x:be P}{sh:Mu.Sh}{g g1:Goroutine}
theorem DO(hZ:A.b+A.n+1<=Z.lk)(hC:br (bW P A Fin Z hZ) Z s f q kk OO J M gs w t)(hj:j<A.n)(w1:(s.w j).work=true){d:Nat}(hd0:Deaf t (A.b+j)=d)(hnh:¬dW P A s (A.b+j))(h2:x.ji=true)(ho:x.owns=(s.w j).owns)(hI:bD A.n (s.aE j x sh))(hL:MS.fX A.n (s.aE j x sh) s)
 (hg:gs[A.b+j]?=some g){es:Array Event}(hst:stepG P false g w=.go g1 w' es) (hmw:MW A.fb A.fo w w') (hmu:ShM A.fb A.fo w' sh) (hev:EvM A.fb A.fo es) (hd:deafBehind d es=x.deaf)
 (hs:∃n g',jG P (kF A) n g1 g'/\ER P A j x (kk (A.b+j)) (OO (A.b+j)) g') (hdry:(s.sh.ms=0->sh.ms=0)\/(mayWake P g=true/\g1.status=.running)) (sl:Option (Nat × Nat)):
 ∃ops m',runT P (crowd gs w sl) (A.b+j)=(.next m',ops)/\∃s' f' q' kk' OO' J' M' gs' w'' sl',m'=crowd gs' w'' sl'/\MS.fX A.n s' s/\br (bW P A Fin Z hZ) Z s' f' q' kk' OO' J' M' gs' w'' (t++ops):=by
 obtain⟨n,g',hsil,hat⟩:=hs;have hb:=A.hb;have B:=ba (P:=P) (A:=A) (Fin:=Fin) (Z:=Z) hZ;have w2:=fY h2;have hE:cW P A Z s kk OO J M gs.size w t:=hC.ex;have hi0:(A.b+j==0)=false:=by simp;omega
 have hrun:=runT_crowd_go (P:=P) (sl:=sl) (i:=A.b+j) hg (by rw[hi0];exact hst)
 have hbeg:bE P A s (A.b+j):=gW hE.I hj (bb w1).2.2.2.2.1;obtain⟨y1,y2,y3⟩:=hE.Ht hev hbeg g.frame.fn g.frame.place;have hops:∀op∈MemOp.ofEvents (A.b+j) g.frame.fn g.frame.place es,op.g=A.b+j:=λop hop=>by obtain⟨e,_,rfl⟩:=Go.Conc.mem_ofEvents hop;rfl
 obtain⟨m1,m2,c,e,c',m3,m4,_⟩:=lG hmw hE.ti;have hP:=hC.bY.sync (i:=A.b+j) (.inr ((hE.hJ _).2 (ub hj (bb w1).2.2.2.2.2.1))) hops m1 (hE.calm hmw) (hE.kept hmw) y2 y1;have hEx:cW P A Z (s.aE j x sh) kk OO J M gs.size w' (t++MemOp.ofEvents (A.b+j) g.frame.fn g.frame.place es):=hE.work hj w1 w2 ho hI hmu m2 ⟨c',e,m4⟩ y3
 have hbs:Beside (bW P A Fin Z hZ) s (s.aE j x sh) f f q (upd q (A.b+j) n) kk kk OO OO J J w' (A.b+j) g g1:=jJ hZ hj w1 w2 (λ_ _=>rfl) (λi hi=>upd_ne q n hi) (λ_ _ _=>rfl) (λ_ _ _=>rfl) (λ_ h=>h) hdry (λ{i k O y} hA=>B.kU (s:=s) (i:=i) (k:=k) (O:=O) (g:=y) hA)
 have hx':((s.aE j x sh).w j).ji=true:=by rw[aD];exact h2
 refine⟨_,_,hrun,s.aE j x sh,f,upd q (A.b+j) n,kk,OO,J,M,_,_,_,rfl,hL,?_⟩;refine br.step B hC hg hops hP hEx (λl y hl hA=>?_) hbs ⟨λhl=>absurd hl (iA hj hx'),λ_=>⟨iA hj hx',?_,?_,g',?_,?_⟩,λhh=>absurd hh (oe hj hx'),λ_ hn _=>absurd (ik hj hx') hn⟩
 . have hne:l≠A.b+j:=λe=>hnh (e ▸ hl)
   exact B.r7 hEx ((hbs.held l hne).2 hl) _ _ (hbs.L7 l _ _ _ hne hl hA)
 . show A.b+j<A.b+A.n+1;omega
 . rw[Deaf_own,hd0]
   show deafBehind d es=cN P A (s.aE j x sh) (A.b+j);rw[dY hj,aD];exact hd
 . exact .inr (.inl ⟨j,hj,rfl,by rw[aD];exact hat⟩)
 . exact .inr (by rw[upd_same];exact hsil)
theorem AO(n:Nat):20<=yM n:=by unfold yM;omega
theorem oX{X:Node P}{h:Bool}(hj:j<A.n)(hw:s.w j=.run h X){y:Node P}(hy:x.nd=some y)(w2:x.work=true)(hu:y=X\/Relation.TransGen nF y X)
 (hi:4*Mu.meas A.n (Mu.set (λi=>(s.w i).pc) j x.pc) sh+x.ex A.n<4*Mu.meas A.n (λi=>(s.w i).pc) s.sh+2*yM A.n):MS.fX A.n (s.aE j x sh) s:=by
 have w1:(s.w j).work=true:=by rw[hw];rfl
 rcases hu with rfl|hu
 . exact ua hj w1 w2 (by rw[hy,hw];rfl) (by rw[hw];exact hi)
 . exact yO hj w1 w2 ⟨y,X,hy,by rw[hw];rfl,hu⟩
variable(C:iy P A.nm)(X:iz P A.nm)(F:qg P A.nm)
include C X F in
theorem EU(hZ:A.b+A.n+1<=Z.lk)(hC:br (bW P A Fin Z hZ) Z s f q kk OO J M gs w t)(hj:j<A.n){h:Bool}{X0:Node P}(hw:s.w j=.run h X0){Y:vl P}(hf:f (A.b+j)=Y.node)(hl:Ll P A Y.k Y.O Y.g Y.N)(sl:Option (Nat × Nat)):
 Goes P A Fin Z hZ s gs w t sl (A.b+j):=by
 have hE:cW P A Z s kk OO J M gs.size w t:=hC.ex;obtain⟨_,hgi,hfm,hfk,hfO,_,hd0,_,htie⟩:=hC.live _ (jK hj hw);rw[hf]at hgi hfm hfk hfO htie;have hgi:gs[A.b+j]?=some Y.g:=hgi;have hfk:Y.k=kk (A.b+j):=hfk;have hfO:Y.O=OO (A.b+j):=hfO;have hfm:Y.m=kh P A j:=by have:Y.m=bu P A Fin s (A.b+j):=hfm;rw[this,mF hj hw]
 obtain⟨kind,c,rest,e,hk,hg,hO,hsh,hN⟩:=hl;rw[hfk]at hsh hN;rw[hfO]at hO hN
 have hh:h=false:=by
  cases h with
  |false=>rfl
  |true=>exact absurd hO (hE.vm j hj (by rw[hw];rfl))
 subst hh;have w1:(s.w j).work=true:=by rw[hw];rfl
 have hpc:(s.w j).pc=.out:=by rw[hw];rfl
 have hu:=htie j false X0 hj rfl hw Y.node (.inl rfl) trivial;obtain⟨g2,⟨n,hsil⟩,hA⟩:=pz (P:=P) (n:=A.nm) (b:=A.fb) (o:=A.fo) (kind:=kind) (cs:=c::rest) (Wd:=kF A) F;rw[<-hg]at hsil;have hbK:=AO A.n;cases n with
 | zero=>
   have e0:Y.g=g2:=hsil;rw[<-e0]at hA;obtain⟨g1,hst,hr,g3,⟨k,hs3⟩,hA3⟩:=yH (Wd:=kF A) (main:=false) (w:=w) C X hA;refine DO (x:=.lk .gx Y) (sh:=s.sh) hZ hC hj w1 hd0 (jq hj hw) rfl (by rw[hw];rfl) (hE.I.Q2 hj w1 rfl rfl hpc rfl) (oX hj hw rfl rfl hu ?_) hgi hst (aY rfl) hE.mu (λe he=>by simp at he;subst he;exact .inl (.inl rfl)) rfl ⟨k,g3,hs3,kind,c,rest,e,hk,hA3,hfm,hO,hsh,hN⟩ (.inl λh0=>h0) sl
   show 4*Mu.meas A.n (Mu.set (λi=>(s.w i).pc) j .gx) s.sh+0<_
   rw[AH hj hpc];unfold yM;omega
 | succ n=>
   obtain⟨g1,⟨hr1,hs1⟩,hs2⟩:=hsil;have hwd:kF A w:=(ba (P:=P) (A:=A) (Fin:=Fin) (Z:=Z) hZ).wd hE;refine DO (x:=.lk .ld Y) (sh:=s.sh) hZ hC hj w1 hd0 (jq hj hw) rfl (by rw[hw];rfl) (hE.I.still hj w1 rfl rfl (by rw[hpc];rfl)) (oX hj hw rfl rfl hu ?_) hgi (hs1 false w hwd) (aY rfl) hE.mu fq rfl ⟨n,g2,hs2,kind,c,rest,e,hk,hA,hfm,hO,hsh,hN⟩ (.inl λh0=>h0) sl
   have e1:Mu.set (λi=>(s.w i).pc) j (be.lk .ld Y).pc=λi=>(s.w i).pc:=by
    have:=kW (λi=>(s.w i).pc) j
    rw[show(s.w j).pc=(be.lk .ld Y).pc from hpc]at this
    exact this
   rw[e1];show _+yM A.n<_;omega
end
section
variable{P:Program}{A:dM}{Fin:ag->ah->Goroutine->Prop}{Z:Base}{s:MS P}{f:Nat->Node P}{q:Nat->Nat}{kk:Nat->ag}{OO:Nat->ah}{J M:Nat->Prop}{gs:Array Goroutine}{w w':World}{t:Trace}{j:Nat}{x:be P}{sh:Mu.Sh}{g g1:Goroutine}
variable(C:iy P A.nm)(X:iz P A.nm)(F:qg P A.nm)
include C X F in
theorem AP(hZ:A.b+A.n+1<=Z.lk)(hC:br (bW P A Fin Z hZ) Z s f q kk OO J M gs w t)(hj:j<A.n){h:Bool}{X0:Node P}(hw:s.w j=.run h X0){Y:vl P}(hf:f (A.b+j)=Y.node)(hl:DL P A Y.k Y.O Y.g Y.N)(sl:Option (Nat × Nat)):
 Goes P A Fin Z hZ s gs w t sl (A.b+j):=by
 have hE:cW P A Z s kk OO J M gs.size w t:=hC.ex;obtain⟨_,hgi,hfm,hfk,hfO,_,hd0,_,htie⟩:=hC.live _ (jK hj hw);rw[hf]at hgi hfm hfk hfO htie;have hgi:gs[A.b+j]?=some Y.g:=hgi;have hfk:Y.k=kk (A.b+j):=hfk;have hfO:Y.O=OO (A.b+j):=hfO;have hfm:Y.m=kh P A j:=by have:Y.m=bu P A Fin s (A.b+j):=hfm;rw[this,mF hj hw]
 obtain⟨kind,c,rest,tf,xo,a,hk,hg,hfb,zy,hor,hGI,hN⟩:=hl;rw[hfk]at hor hN;rw[hfO]at hfb zy hN
 have hh:h=true:=by
  obtain⟨l,_,hl,h2,h3,_⟩:=hE.tok _ _ hfb;obtain rfl:l=j:=by omega
  rw[hw]at h3;exact h3
 subst hh;have w1:(s.w j).work=true:=by rw[hw];rfl
 have hpc:(s.w j).pc=.held:=by rw[hw];rfl
 have hu:=htie j true X0 hj rfl hw Y.node (.inl rfl) trivial;obtain⟨g2,⟨n,hsil⟩,hA⟩:=nA (P:=P) (n:=A.nm) (b:=A.fb) (o:=A.fo) (kind:=kind) (cs:=c::rest) (Wd:=kF A) F;rw[<-hg]at hsil;have hbK:=AO A.n
 have e1:Mu.set (λi=>(s.w i).pc) j .held=λi=>(s.w i).pc:=by
  have:=kW (λi=>(s.w i).pc) j
  rw[show(s.w j).pc=.held from hpc]at this
  exact this
 have hpart:∃f x a,OO (A.b+j) A.fb=some (.part f)/\OO (A.b+j) A.mb=some x/\lc (kk (A.b+j)) x a/\A.GI a/\Y.N (kk (A.b+j)) (((OO (A.b+j)).del A.mb).del A.fb) (jT kind c rest (.tuple #[])):=⟨tf,xo,a,hfb,zy,hor,hGI,hN⟩;cases n with
 | zero=>
   have e0:Y.g=g2:=hsil;rw[<-e0]at hA;obtain⟨v,hv⟩:=((ba (P:=P) (A:=A) (Fin:=Fin) (Z:=Z) hZ).wd hE).2.2;obtain⟨g1,hst,hr,g3,⟨k,hs3⟩,hA3⟩:=ve (Wd:=kF A) (main:=false) (w:=w) C X (λw h=>h.2.2) hv hA
   refine DO (x:=.un .ur Y) (sh:=s.sh) hZ hC hj w1 hd0 (jq hj hw) rfl (by rw[hw];rfl) (hE.I.still hj w1 rfl rfl (by rw[hpc];rfl)) (oX hj hw rfl rfl hu ?_) hgi hst (aY rfl) hE.mu fq rfl ⟨k,g3,hs3,kind,c,rest,hk,hA3,hfm,λ_=>hpart,λh=>absurd (.inr rfl) h⟩ (.inl λh0=>h0) sl
   show 4*Mu.meas A.n (Mu.set (λi=>(s.w i).pc) j .held) s.sh+4<_
   rw[e1];omega
 | succ n=>
   obtain⟨g1,⟨hr1,hs1⟩,hs2⟩:=hsil;have hwd:kF A w:=(ba (P:=P) (A:=A) (Fin:=Fin) (Z:=Z) hZ).wd hE;refine DO (x:=.un .Dy Y) (sh:=s.sh) hZ hC hj w1 hd0 (jq hj hw) rfl (by rw[hw];rfl) (hE.I.still hj w1 rfl rfl (by rw[hpc];rfl)) (oX hj hw rfl rfl hu ?_) hgi (hs1 false w hwd) (aY rfl) hE.mu fq rfl ⟨n,g2,hs2,kind,c,rest,hk,hA,hfm,λ_=>hpart,λh=>absurd (.inl rfl) h⟩ (.inl λh0=>h0) sl
   show 4*Mu.meas A.n (Mu.set (λi=>(s.w i).pc) j .held) s.sh+5<_
   rw[e1];omega
end
section
variable{P:Program}{A:dM}{Z:Base}{s:MS P}{kk:Nat->ag}{OO:Nat->ah}{J M:Nat->Prop}{gsz:Nat}{w w':World}{t:Trace}
theorem cW.Om(h:cW P A Z s kk OO J M gsz w t)(hm:MW A.gb 0 w w'):Calm Z w w':=by obtain⟨h1,h2,_⟩:=lG hm h.wv;have:=h.dX.2.2;exact⟨hm.1,λb hb=>h2 b (by omega)⟩
theorem cW.On(h:cW P A Z s kk OO J M gsz w t)(hm:MW A.gb 0 w w'):∀b,Kept kk OO w w' b:=λb=>by
 obtain⟨h1,h2,c,e,c',h3,h4,h5,h6⟩:=lG hm h.wv;by_cases hb:b=A.gb
 . subst hb
   refine .inr (.inr ⟨c,c',e,h3,h4,h5,λi x hx=>(by rw[(h.fB i).2]at hx;cases hx),λn=>?_⟩);by_cases e1:n=0
   . subst e1;exact .inr λi=>(h.dI i).2.2.1
   . by_cases e2:n=1
     . subst e2;exact .inr λi=>(h.dI i).2.2.2
     . exact .inl (h6 n e1 e2)
 . exact .inl (h2 b hb)
theorem cW.Lq(h:cW P A Z s kk OO J M gsz w t){n:Nat}(hn:n=0\/n=1):GO kk OO w.heap.size (.cell ⟨A.gb,n,none⟩):=by
 have hG:A.gb<w.heap.size:=by obtain⟨c,e,h1⟩:=h.wv;exact(Array.getElem?_eq_some_iff.1 h1).1
 refine⟨hG,λi=>⟨dH (h.fB i).2,?_⟩⟩
 rcases hn with rfl|rfl
 . exact(h.dI i).2.2.1
 . exact(h.dI i).2.2.2
theorem cW.Hw(h:cW P A Z s kk OO J M gsz w t){es:Array Event}(he:EvM A.gb 0 es){i:Nat}(hi:bE P A s i)(fn:FuncId)(pos:String):
 yP kk OO w.heap.size t i (MemOp.ofEvents i fn pos es)/\(∀op∈MemOp.ofEvents i fn pos es,op.act.low w.heap.size)/\(∀op∈MemOp.ofEvents i fn pos es,(∀a,op.act.touch?=some a->a.kind=.atomic)/\∀a,op.act≠.mark (.release a))/\
 ∀op∈MemOp.ofEvents i fn pos es,∀a,op.act.touch?=some a->Z.Shun a.loc:=by
 have hG:A.gb<w.heap.size:=by obtain⟨c,e,h1⟩:=h.wv;exact(Array.getElem?_eq_some_iff.1 h1).1
 refine⟨λop hop a ha=>?_,λop hop=>?_,λop hop=>?_,λop hop a ha=>?_⟩<;>obtain⟨e,he1,rfl⟩:=Go.Conc.mem_ofEvents hop<;>obtain⟨t1,t2,t3⟩:=mE (he e he1)
 . obtain⟨h1,n,hn,h2⟩:=t1 a ha
   have hn:n=0\/n=1:=by simpa using hn
   refine⟨h1,λ_=>by rw[h2];exact h.Lq hn,λm b hb hl hk=>h.quiet m b hb ?_ hk i hi⟩
   rw[hl,h2];exact⟨rfl,.inr ⟨rfl,hn⟩⟩
 . exact t3 _ hG
 . exact⟨λa ha=>(t1 a ha).1,t2⟩
 . obtain⟨h1,n,hn,h2⟩:=t1 a ha
   have hn:n=0\/n=1:=by simpa using hn
   rw[h2];exact h.qc _ ⟨rfl,.inr ⟨rfl,hn⟩⟩ ⟨_,rfl,rfl⟩
theorem EV{Z:Base}{J M:Nat->Prop}{t u:Trace}{i m:Nat}{op:MemOp}{a:Touch}(h1:u[m]?=some op)(ha:op.act.touch?=some a)(hz:Z.Shun a.loc)(hk:a.kind=.atomic)(hc:¬(t++u).counts (t.size+m)):Told Z J M (t++u) (t.size+m) a:=.inr (.inr (.inr ⟨hz,hk,λh=>absurd h hc⟩))
end
end Go.aN
namespace Go.aN
open Go.Conc
open Go.ConcN (sumTo upd sumTo_upd upd_ne upd_same)
variable{P:Program}
def be.CC:be P->Bool
 |.run ..=>true|.lk ..=>true|.un ..=>true|.xu=>true|.dn .d1=>true|.dn .d2=>true|.dn .d4=>true|_=>false
theorem vq{x:be P}(h:x.CC=true):x.cnt=1/\x.last=false/\x.iW=false/\x≠.gone/\x≠.wait/\∀p,(p=.d5\/p=.d6\/p=.d7)->x≠.dn p:=by
 cases x with
 |dn p=>cases p<;>simp_all [be.CC,be.cnt,be.last,be.iW]
 |_=>simp_all [be.CC,be.cnt,be.last,be.iW]
section
variable{s:MS P}{j n:Nat}{x:be P}{sh:Mu.Sh}
theorem bD.same(I:bD n s)(hj:j<n)(h1:(s.w j).CC=true)(h2:x.CC=true)(hs:x.gz=(s.w j).gz)(hx:x.ok=true)(hm:Mu.Inv n (Mu.set (λi=>(s.w i).pc) j x.pc) sh):bD n (s.aE j x sh):=by
 obtain⟨a1,a4,a5,a7,a8,a9⟩:=vq h1;obtain⟨b1,b4,b5,b7,b8,b9⟩:=vq h2;have hcnt:=od (s:=s) (x:=x) (sh:=sh) be.cnt hj
 have look:∀{i:Nat}{y:be P},(s.aE j x sh).w i=y->x≠y->i≠j/\s.w i=y:=λ{i y} h hn=>by
  by_cases e:i=j
  . subst e;rw[aD]at h;exact absurd h hn
  . rw[bf e]at h;exact⟨e,h⟩
 have back:∀{i:Nat}{y:be P},s.w i=y->(s.w j)≠y->(s.aE j x sh).w i=y:=λ{i y} h hn=>by
  by_cases e:i=j
  . subst e;exact absurd h hn
  . rw[bf e];exact h
 have lastI:∀{i:Nat},((s.aE j x sh).w i).last=(s.w i).last:=λ{i}=>by
  by_cases e:i=j
  . subst e;rw[aD,a4,b4]
  . rw[bf e]
 refine⟨?_,I.g2,I.ns,λi hi h=>?_,λi l hi hl h h'=>?_,λi hi h=>?_,⟨I.g5.1,λh=>?_⟩,λh h' h''=>?_,λh h'=>?_,λh=>?_,I.g9,λi hi=>?_,I.L3,I.sp,λi hi=>?_,?_,λh i hi=>?_,by rw[yN];exact hm⟩
 . have:=I.g1
   show s.gc=sumTo n (λi=>((s.aE j x sh).w i).cnt)+s.ms.pend;omega
 . exact I.g3 i hi (h.imp (λh=>(look h (b9 _ (by simp))).2) (λh=>(look h (b9 _ (by simp))).2))
 . rw[lastI]at h h';exact I.tE i l hi hl h h'
 . exact I.g4 i hi (look h (b9 _ (by simp))).2
 . obtain⟨c1,c2,c3,c4⟩:=I.g5.2 h
   exact⟨c1,c2,c3,λi hi=>by rw[lastI];exact c4 i hi⟩
 . obtain⟨i,hi,h3⟩:=I.g6 h h' h''
   exact⟨i,hi,back h3 (a9 _ (by simp))⟩
 . obtain⟨i,hi,h3⟩:=I.g7 h h'
   exact⟨i,hi,h3.imp (λh=>back h (a9 _ (by simp))) (λh=>back h (a9 _ (by simp)))⟩
 . obtain⟨_,_,_,c4⟩:=I.g8 h
   exact absurd (c4 j hj) a7
 . by_cases e:i=j
   . subst e;rw[aD];exact hx
   . rw[bf e];exact I.ok i hi
 . by_cases e:i=j
   . subst e
     rw[aD,b5];have:=I.idle i hi;rw[a5]at this;exact this
   . rw[bf e];exact I.idle i hi
 . have:=I.ms
   show match s.ms with
   |.add l=>s.sp+l=n/\s.c=.none
   |.bj l p=>s.sp+l=n/\s.c=.none/\1<=l/\(p=.a0\/p=.a2\/p=.a4\/p=.ae)
   |.spawn l=>s.sp+l+1=n/\s.c=.none
   |.recv=>s.sp=n/\s.c≠.none
   |.parked=>s.sp=n/\s.c≠.none/\s.c≠.gone/\∀i,i<n->(s.aE j x sh).w i≠.wait
   cases e:s.ms with
   |parked=>rw[e]at this;obtain⟨c1,c2,c3,c4⟩:=this;exact⟨c1,c2,c3,λi hi h=>c4 i hi (look h b8).2⟩
   |_=>rw[e]at this;exact this
 . by_cases e:i=j
   . subst e;rw[aD,hs];exact I.early h i hi
   . rw[bf e];exact I.early h i hi
theorem vr(hj:j<n)(h:x.cz<(s.w j).cz):MS.fX n (s.aE j x sh) s:=by
 have:=od (s:=s) (x:=x) (sh:=sh) be.cz hj;refine .inl ?_;show s.ms.cz+sumTo n (λi=>((s.aE j x sh).w i).cz)+s.c.cz s.gc<s.ms.cz+sumTo n (λi=>(s.w i).cz)+s.c.cz s.gc;omega
theorem bD.yS(I:bD n s)(hj:j<n)(h1:(s.w j).CC=true)(h2:x.CC=true)(hs:x.gz=(s.w j).gz)(hx:x.ok=true)(hp:x.pc=(s.w j).pc):bD n (s.aE j x s.sh):=I.same hj h1 h2 hs hx (by rw[hp,kW (λi=>(s.w i).pc)];exact I.mu)
end
end Go.aN
namespace Go.aN
open Go.Conc
open Go.ConcN (sumTo upd sumTo_upd upd_ne upd_same)
section
variable{P:Program}{A:dM}{Fin:ag->ah->Goroutine->Prop}{Z:Base}{s:MS P}{f f':Nat->Node P}{q q':Nat->Nat}{kk kk':Nat->ag}{OO OO':Nat->ah}{J J' M:Nat->Prop}{gs:Array Goroutine}{w w':World}{t:Trace}{j:Nat}{x:be P}{sh:Mu.Sh}{g g1:Goroutine}
theorem tk(hZ:A.b+A.n+1<=Z.lk)(hj:j<A.n)(hs:x.gz=(s.w j).gz)(hf:∀i,i≠A.b+j->f' i=f i)(hq:∀i,i≠A.b+j->q' i=q i)(hk:∀i,i≠A.b+j->i<A.b+A.n+1->kk' i=kk i)(hO:∀i,i≠A.b+j->i<A.b+A.n+1->OO' i=OO i)(hJ:∀i,i≠A.b+j->J i->J' i)
 (hdry:(s.sh.ms=0->sh.ms=0)\/(mayWake P g=true/\g1.status=.running)) (hE:∀{i k O y},Od P A Fin s i k O y->y.status=.running/\y.offers=none):
 Beside (bW P A Fin Z hZ) s (s.aE j x sh) f f' q q' kk kk' OO OO' J J' w' (A.b+j) g g1:=by
 have hb:=A.hb;have wl:∀{i l:Nat},i≠A.b+j->i=A.b+l->(s.aE j x sh).w l=s.w l:=λ{i l} h e=>bf (by omega)
 have hr:MS.rem P A.n (s.aE j x sh)=MS.rem P A.n s:=AI hs
 have live:∀i,i≠A.b+j->(dg P A (s.aE j x sh) i↔dg P A s i):=λi hi=>by
  constructor<;>rintro(h|⟨l,h1,h2,h3⟩|h)
  . exact .inl h
  . exact .inr (.inl ⟨l,h1,h2,by rw[<-wl hi h2];exact h3⟩)
  . exact .inr (.inr h)
  . exact .inl h
  . exact .inr (.inl ⟨l,h1,h2,by rw[wl hi h2];exact h3⟩)
  . exact .inr (.inr h)
 have walk:∀i,i≠A.b+j->(eV P A (s.aE j x sh) i↔eV P A s i):=λi hi=>by
  constructor<;>rintro(h|⟨l,h1,h2,h3⟩|h)
  . exact .inl h
  . exact .inr (.inl ⟨l,h1,h2,by rw[<-wl hi h2];exact h3⟩)
  . exact .inr (.inr h)
  . exact .inl h
  . exact .inr (.inl ⟨l,h1,h2,by rw[wl hi h2];exact h3⟩)
  . exact .inr (.inr h)
 have held:∀i,i≠A.b+j->(dW P A (s.aE j x sh) i↔dW P A s i):=λi hi=>by
  constructor<;>rintro(h|⟨l,h1,h2,h3⟩)
  . exact .inl h
  . exact .inr ⟨l,h1,h2,by rw[<-wl hi h2];exact h3⟩
  . exact .inl h
  . exact .inr ⟨l,h1,h2,by rw[wl hi h2];exact h3⟩
 refine⟨hf,hq,hk,hO,λi hi _ h=>hJ i hi h,live,walk,held,λi hi hl=>?_,λi k O y hi _ hA=>?_,λi hi hw=>?_,λi hi hw hd=>?_,λi k O y hi _ hA=>?_,λi y hi _ ht=>?_⟩
 . show bu P A Fin (s.aE j x sh) i=bu P A Fin s i
   unfold bu;rw[hr]
   rcases hl with⟨rfl,_⟩|⟨l,h3,rfl,_⟩|⟨rfl,_⟩
   . rfl
   . have e:A.b+l-A.b=l:=by omega
     rw[e,bf (by omega)]
     rfl
   . rw[if_neg (by omega),if_neg (by omega),if_neg (by omega),if_neg (by omega)]
     rfl
 . rcases hA with h|⟨l,h3,h4,h5⟩|h
   . exact .inl h
   . exact .inr (.inl ⟨l,h3,h4,by rw[wl hi h4];exact h5⟩)
   . exact .inr (.inr h)
 . show cN P A (s.aE j x sh) i=cN P A s i
   unfold cN
   rcases hw with⟨rfl,_⟩|⟨l,h3,rfl,_⟩|⟨rfl,_⟩
   . rfl
   . have e:A.b+l-A.b=l:=by omega
     rw[e,bf (by omega)]
     rfl
   . rw[if_neg (by omega),if_neg (by omega),if_neg (by omega),if_neg (by omega)]
     rfl
 . rcases hdry with hdry|⟨hm,hr⟩
   . refine .inl ?_
     rcases hd with⟨l,sv,Y,h3,h4,h5,h6⟩|h
     . exact .inl ⟨l,sv,Y,h3,h4,by rw[wl hi h4];exact h5,hdry h6⟩
     . exact .inr h
   . refine .inr λy hy=>?_
     obtain⟨a1,a2⟩:=hE hy;have hc:(mayWake P g && g1.status !=.blocked && g1.status !=.waiting)=true:=by rw[hm,hr];rfl
     unfold Go.Conc.woken;rw[if_pos hc,oT a1 a2]
 . rcases hA with⟨h0,g₂,z,h3,h4,h5,h6⟩|h
   . exact .inl ⟨h0,g₂,z,h3,h4,h5,by rw[hr];exact h6⟩
   . exact .inr h
 . exact λl b X h3 h4 h5=>ht l b X h3 h4 (by rw[<-h5];exact(wl hi h4).symm)
theorem lH(hj:j<A.n){p:t9}(e:s.w j=.dn p):eV P A s (A.b+j):=.inr (.inl ⟨j,hj,rfl,by rw[e];trivial⟩)
theorem jL(hj:j<A.n){p:t9}(e:s.w j=.dn p):¬dg P A s (A.b+j):=by
 have:=A.hb;rintro(⟨e,_⟩|⟨l,h1,h2,h3⟩|⟨e,_⟩)
 . omega
 . obtain rfl:l=j:=by omega
   rw[e]at h3;exact h3
 . omega
theorem og(hj:j<A.n){p:t9}(e:s.w j=.dn p):¬dW P A s (A.b+j):=by
 have:=A.hb;rintro(⟨e,_⟩|⟨l,h1,h2,h3⟩)
 . omega
 . obtain rfl:l=j:=by omega
   rw[e]at h3;cases h3
end
section
variable{P:Program}{A:dM}{Fin:ag->ah->Goroutine->Prop}{Z:Base}{s:MS P}{f:Nat->Node P}{q:Nat->Nat}{kk:Nat->ag}{OO:Nat->ah}{J M:Nat->Prop}{gs:Array Goroutine}{gsz:Nat}{w w':World}{t u:Trace}{j:Nat}{x:be P}{sh:Mu.Sh}{g:Goroutine}
theorem cW.Hx(h:cW P A Z s kk OO J M gsz w t)(hj:j<A.n)(hbusy:x.busy=(s.w j).busy)(ho:x.owns=(s.w j).owns)(hI:bD A.n (s.aE j x sh))(hmu:ShM A.fb A.fo w' sh)
 (hheap:∀b,b≠A.fb->w'.heap[b]?=w.heap[b]?) (hfb:∃c e,w'.heap[A.fb]?=some (.cells c e (0,0))) (hu:∀op∈u,(∀a,op.act.touch?=some a->a.kind=.atomic)/\∀a,op.act≠.mark (.release a)):
 cW P A Z (s.aE j x sh) kk OO J M gsz w' (t++u):=by
 have hown:∀l,((s.aE j x sh).w l).owns=(s.w l).owns:=λl=>by
  by_cases e:l=j
  . subst e;rw[aD,ho]
  . rw[bf e]
 refine⟨hI,h.size,by rw[hheap _ A.d1];exact h.v7,hmu,h.gr.same (.of_heap (hheap _ (Ne.symm A.d4))),hfb,by rw[hheap _ (Ne.symm A.d4)];exact h.wv,h.fB,h.dI,λi y hy=>?_,λl hl hlo=>h.vm l hl (by rw[<-hown l];exact hlo),λhlo=>h.Hp λl hl=>by rw[<-hown l];exact hlo l hl,λc hc=>?_,
  λi=>by rw[h.hJ i];exact(kY hj hbusy i).symm,h.rb u,h.ki u,h.iX u (λop hop a ha _ hk=>?_),h.lF u (λop hop a ha _ hk=>?_),h.mW u,h.gV u (λop hop=>(hu op hop).2),h.AE,h.qc,h.jp,h.dX,h.la,by simp;exact Nat.le_trans h.n0 (Nat.le_add_right _ _)⟩
 . obtain⟨l,f,h3,h4,h5,h6⟩:=h.tok i y hy
   exact⟨l,f,h3,h4,by rw[hown];exact h5,h6⟩
 . obtain⟨h3,h4⟩:=h.Gk c hc
   exact⟨h3,λl hl=>by rw[hown];exact h4 l hl⟩
 . rw[(hu op hop).1 a ha]at hk;cases hk
 . rw[(hu op hop).1 a ha]at hk;cases hk
variable(C:jg P A.ng)(X:j9 P A.ng)
include C X in
theorem Kl(hZ:A.b+A.n+1<=Z.lk)(hC:br (bW P A Fin Z hZ) Z s f q kk OO J M gs w t)(hj:j<A.n)(hw:s.w j=.dn .d2)(hg:gs[A.b+j]?=some g)(hat:ER P A j (.dn .d2) (kk (A.b+j)) (OO (A.b+j)) g)(sl:Option (Nat × Nat)):
 Goes P A Fin Z hZ s gs w t sl (A.b+j):=by
 have hE:cW P A Z s kk OO J M gs.size w t:=hC.ex;have B:=ba (P:=P) (A:=A) (Fin:=Fin) (Z:=Z) hZ;have hb:=A.hb;have hi0:(A.b+j==0)=false:=by simp;omega
 obtain⟨fw,fn,tmps,todo,hfn,hres,hM⟩:=hat;obtain⟨g1,hst,hr,g2,⟨k,hsil⟩,hA⟩:=PO (Wd:=kF A) (main:=false) (w:=w) C X hM;obtain⟨x,hx⟩:∃x:be P,x=.dn .d4:=⟨_,rfl⟩;have hsx:(s.aE j x s.sh).w j=.dn .d4:=by rw[aD,hx]
 have hwk:=lH (P:=P) (A:=A) (s:=s) hj hw
 have hd0:Deaf t (A.b+j)=0:=by obtain⟨_,_,hd0,_⟩:=hC.walk _ hwk;rw[hd0];show cN P A s (A.b+j)=0;rw[dY hj,hw];rfl
 have hrun:=runT_crowd_go (P:=P) (sl:=sl) (i:=A.b+j) hg (by rw[hi0];exact hst)
 have hbeg:bE P A s (A.b+j):=gW hE.I hj (by rw[hw];rfl)
 obtain⟨y1,y2,y3,y4⟩:=hE.Hw (es:=#[⟨.mark .disable,false,true⟩]) (λe he=>by simp at he;subst he;exact .inl (.inl rfl)) hbeg g.frame.fn g.frame.place
 have hops:∀op∈MemOp.ofEvents (A.b+j) g.frame.fn g.frame.place #[⟨.mark .disable,false,true⟩],op.g=A.b+j:=λop hop=>by obtain⟨e,_,rfl⟩:=Go.Conc.mem_ofEvents hop;rfl
 have hnt:∀op∈MemOp.ofEvents (A.b+j) g.frame.fn g.frame.place #[⟨.mark .disable,false,true⟩],op.act.touch?=none:=λop hop=>by obtain⟨e,he,rfl⟩:=Go.Conc.mem_ofEvents hop;simp at he;subst he;rfl
 have hP:=hC.bY.Lm (i:=A.b+j) (w':=w) hops rfl ⟨⟨.refl _,rfl⟩,λ_ _=>rfl⟩ (λb=>.inl rfl) y2 y1 (λm op a h1 h2 _=>by rw[hnt op (Array.mem_of_getElem? h1)]at h2;cases h2)
 have hI:bD A.n (s.aE j x s.sh):=hE.I.yS hj (by rw[hw];rfl) (by rw[hx];rfl) (by rw[hx,hw];rfl) (by rw[hx];rfl) (by rw[hx,hw];rfl)
 have hL:MS.fX A.n (s.aE j x s.sh) s:=vr hj (by rw[hx,hw];simp[be.cz])
 have hEx:=hE.Hx (x:=x) (sh:=s.sh) (w':=w) hj (by rw[hx,hw];rfl) (by rw[hx,hw];rfl) hI hE.mu (λ_ _=>rfl) hE.ti y3
 have hbs:Beside (bW P A Fin Z hZ) s (s.aE j x s.sh) f f q (upd q (A.b+j) k) kk kk OO OO J J w (A.b+j) g g1:=tk hZ hj (by rw[hx,hw];rfl) (λi hi=>rfl) (λi hi=>upd_ne q k hi) (λ_ _ _=>rfl) (λ_ _ _=>rfl) (λ_ _ h=>h) (.inl λh=>h) (λ{i k O y} hA=>B.kU (s:=s) (i:=i) (k:=k) (O:=O) (g:=y) hA)
 refine⟨_,_,hrun,s.aE j x s.sh,f,upd q (A.b+j) k,kk,OO,J,M,_,_,_,rfl,hL,?_⟩;refine br.step B hC hg hops hP hEx (λl y hl hA=>B.r7 hE hl _ _ hA) hbs ⟨λhl=>absurd hl (jL hj hsx),λ_=>⟨jL hj hsx,?_,?_,g2,?_,?_⟩,λhh=>absurd hh (og hj hsx),λ_ hn _=>absurd (lH hj hsx) hn⟩
 . show A.b+j<A.b+A.n+1;omega
 . rw[Deaf_own,hd0]
   show _=cN P A (s.aE j x s.sh) (A.b+j);rw[dY hj,hsx];rfl
 . refine .inr (.inl ⟨j,hj,rfl,?_⟩)
   rw[hsx];exact⟨fw,fn,tmps,todo,hfn,hres,hA⟩
 . exact .inr (by rw[upd_same];exact hsil)
end
section
variable{Z:Base}{kk:Nat->ag}{OO:Nat->ah}{J M:Nat->Prop}{w:World}{t:Trace}
theorem bV.bO(h:bV Z kk OO J M w t){i:Nat}{ad:Addr}(hla:ad.block<w.heap.size)(hd:Deaf t i=0)(fn:FuncId)(pos:String):
 bV Z kk OO (λl=>J l/\l≠i) (λp=>M p\/p=t.size) w (t++MemOp.ofEvents i fn pos #[⟨.mark (.releaseMerge ad),false,true⟩]):=by
 obtain⟨u,hu⟩:∃u,u=MemOp.ofEvents i fn pos #[⟨.mark (.releaseMerge ad),false,true⟩]:=⟨_,rfl⟩;have hu':u=#[⟨i,fn,pos,.mark (.releaseMerge ad)⟩]:=by rw[hu,ofEvents_eq];simp[MemAct.ofEvent]
 rw[<-hu];have hnt:∀op∈u,op.act.touch?=none:=λop hop=>by rw[hu']at hop;simp at hop;subst hop;rfl
 have hops:∀op∈u,op.g=i:=λop hop=>by rw[hu']at hop;simp at hop;subst hop;rfl
 have hu0:u[0]?=some ⟨i,fn,pos,.mark (.releaseMerge ad)⟩:=by rw[hu'];rfl
 exact h.rY (λa b=>a=b) rfl ⟨⟨.refl _,rfl⟩,λ_ _=>rfl⟩ (λb=>.inl rfl) (λop hop=>by rw[hu']at hop;simp at hop;subst hop;simpa[MemAct.low]using hla) (λa b e n y _ _ _ hk=>by subst e;exact hk.app u)
  (λj b n v h=>⟨j,rfl,h⟩) (λj b s h=>⟨j,rfl,h⟩) (λj b x h=>⟨j,rfl,h,λ_ h=>h⟩) h.iV
  (λsaid=>noRace_append (h.clean said) hops λn a ha op hop b hb _=>by rw[hnt op hop]at hb;cases hb) (λop hop a ha=>by rw[hnt op hop]at ha;cases ha) (λm op a hop ha=>by rw[hnt op (Array.mem_of_getElem? hop)]at ha;cases ha)
  (fun n a ha hm h=>h.elim (λ⟨j,h1,h2⟩=>by
    by_cases e:j=i
    . subst e;exact .inr (.inr (.inl ⟨t.size+0,.inr rfl,kQ h2 hu0 rfl⟩))
    . exact .inr (.inl ⟨j,⟨h1,e⟩,h2.app _⟩)) (λ⟨p,h1,h2⟩=>.inr (.inr (.inl ⟨p,.inl h1,h2.app _⟩))))
end
section
variable{P:Program}{A:dM}{Fin:ag->ah->Goroutine->Prop}{Z:Base}{s:MS P}{f:Nat->Node P}{q:Nat->Nat}{kk:Nat->ag}{OO:Nat->ah}{J M:Nat->Prop}{gs:Array Goroutine}{gsz:Nat}{w w':World}{t u:Trace}{j:Nat}{x:be P}{sh:Mu.Sh}{g:Goroutine}
theorem cW.bO(h:cW P A Z s kk OO J M gsz w t)(hj:j<A.n)(hbusy:x.busy=false)(hpast:s.c=.none\/s.c=.er\/∃q,s.c=.wt q)(hd:Deaf t (A.b+j)=0)(hu0:∃op,u[0]?=some op/\op.g=A.b+j/\op.act=.mark (.releaseMerge ⟨A.gb,0,none⟩))(hloud:kP u)(ho:x.owns=(s.w j).owns)(hI:bD A.n (s.aE j x sh))(hmu:ShM A.fb A.fo w' sh)
 (hheap:∀b,b≠A.fb->w'.heap[b]?=w.heap[b]?) (hfb:∃c e,w'.heap[A.fb]?=some (.cells c e (0,0))) (hu:∀op∈u,(∀a,op.act.touch?=some a->a.kind=.atomic)/\∀a,op.act≠.mark (.release a)):
 cW P A Z (s.aE j x sh) kk OO (λl=>J l/\l≠A.b+j) (λp=>M p\/p=t.size) gsz w' (t++u):=by
 have hown:∀l,((s.aE j x sh).w l).owns=(s.w l).owns:=λl=>by
  by_cases e:l=j
  . subst e;rw[aD,ho]
  . rw[bf e]
 refine⟨hI,h.size,by rw[hheap _ A.d1];exact h.v7,hmu,h.gr.same (.of_heap (hheap _ (Ne.symm A.d4))),hfb,by rw[hheap _ (Ne.symm A.d4)];exact h.wv,h.fB,h.dI,λi y hy=>?_,λl hl hlo=>h.vm l hl (by rw[<-hown l];exact hlo),λhlo=>h.Hp λl hl=>by rw[<-hown l];exact hlo l hl,λc hc=>?_,
  λi=>?_,λp hp=>?_,λhc=>?_,h.iX u (λop hop a ha _ hk=>?_),h.lF u (λop hop a ha _ hk=>?_),h.mW u,h.gV u (λop hop=>(hu op hop).2),h.AE,h.qc,h.jp,h.dX,h.la,by simp;exact Nat.le_trans h.n0 (Nat.le_add_right _ _)⟩
 . obtain⟨l,f,h3,h4,h5,h6⟩:=h.tok i y hy
   exact⟨l,f,h3,h4,by rw[hown];exact h5,h6⟩
 . obtain⟨h3,h4⟩:=h.Gk c hc
   exact⟨h3,λl hl=>by rw[hown];exact h4 l hl⟩
 . rw [h.hJ i]
   constructor
   . rintro⟨⟨l,h3,h4,h5⟩|⟨h3,h4⟩,hne⟩
     . exact .inl ⟨l,h3,h4,by rw[bf (by omega)];exact h5⟩
     . exact .inr ⟨h3,h4⟩
   . rintro (⟨l,h3,h4,h5⟩|⟨h3,h4⟩)
     . by_cases e:l=j
       . subst e;rw[aD,hbusy]at h5;cases h5
       . rw[bf e]at h5;exact⟨.inl ⟨l,h3,h4,h5⟩,by omega⟩
     . exact⟨.inr ⟨h3,h4⟩,by omega⟩
 . rcases hp with hp|rfl
   . exact h.rb u p hp
   . obtain⟨op,e1,e2,e3⟩:=hu0
     refine⟨heard_new (m:=0) hloud e1 (by rw[e2];exact hd),h.n0,.inl ⟨?_,hpast⟩⟩;have e4:=act?_of (cY (t:=t) (m:=0) e1);rw[e3]at e4;exact e4
 . obtain⟨p,h3,h4,h5⟩:=h.ki u hc
   exact⟨p,.inl h3,h4,h5⟩
 . rw[(hu op hop).1 a ha]at hk;cases hk
 . rw[(hu op hop).1 a ha]at hk;cases hk
variable(C:jg P A.ng)(X:j9 P A.ng)
include C X in
theorem Km(hZ:A.b+A.n+1<=Z.lk)(hC:br (bW P A Fin Z hZ) Z s f q kk OO J M gs w t)(hj:j<A.n)(hw:s.w j=.dn .d1)(hg:gs[A.b+j]?=some g)(hat:ER P A j (.dn .d1) (kk (A.b+j)) (OO (A.b+j)) g)(sl:Option (Nat × Nat)):
 Goes P A Fin Z hZ s gs w t sl (A.b+j):=by
 have hE:cW P A Z s kk OO J M gs.size w t:=hC.ex;have B:=ba (P:=P) (A:=A) (Fin:=Fin) (Z:=Z) hZ;have hb:=A.hb;have hi0:(A.b+j==0)=false:=by simp;omega
 obtain⟨fw,fn,tmps,todo,hfn,hres,hM⟩:=hat;obtain⟨g1,hst,hr,g2,⟨k,hsil⟩,hA⟩:=PN (Wd:=kF A) (main:=false) (w:=w) C X hM;obtain⟨x,hx⟩:∃x:be P,x=.dn .d2:=⟨_,rfl⟩;have hsx:(s.aE j x s.sh).w j=.dn .d2:=by rw[aD,hx]
 have hwk:=lH (P:=P) (A:=A) (s:=s) hj hw
 have hd0:Deaf t (A.b+j)=0:=by obtain⟨_,_,hd0,_⟩:=hC.walk _ hwk;rw[hd0];show cN P A s (A.b+j)=0;rw[dY hj,hw];rfl
 have hrun:=runT_crowd_go (P:=P) (sl:=sl) (i:=A.b+j) hg (by rw[hi0];exact hst)
 have hbeg:bE P A s (A.b+j):=gW hE.I hj (by rw[hw];rfl)
 have hops:∀op∈MemOp.ofEvents (A.b+j) g.frame.fn g.frame.place #[⟨.mark (.releaseMerge ⟨A.gb,0,none⟩),false,true⟩],op.g=A.b+j:=λop hop=>by obtain⟨e,_,rfl⟩:=Go.Conc.mem_ofEvents hop;rfl
 have y3:∀op∈MemOp.ofEvents (A.b+j) g.frame.fn g.frame.place #[⟨.mark (.releaseMerge ⟨A.gb,0,none⟩),false,true⟩],(∀a,op.act.touch?=some a->a.kind=.atomic)/\∀a,op.act≠.mark (.release a):=λop hop=>by obtain⟨e,he,rfl⟩:=Go.Conc.mem_ofEvents hop;simp at he;subst he;exact⟨λa ha=>by simp[MemAct.ofEvent,MemAct.touch?]at ha,λa h=>by simp[MemAct.ofEvent]at h⟩
 have hloud:kP (MemOp.ofEvents (A.b+j) g.frame.fn g.frame.place #[⟨.mark (.releaseMerge ⟨A.gb,0,none⟩),false,true⟩]):=λop hop=>by obtain⟨e,he,rfl⟩:=Go.Conc.mem_ofEvents hop;simp at he;subst he;simp[MemAct.ofEvent]
 have hG:A.gb<w.heap.size:=by obtain⟨c,e,h1⟩:=hE.wv;exact(Array.getElem?_eq_some_iff.1 h1).1
 have hP:=hC.bY.bO (i:=A.b+j) (ad:=⟨A.gb,0,none⟩) hG hd0 g.frame.fn g.frame.place
 have hpast:s.c=.none\/s.c=.er\/∃q,s.c=.wt q:=by
  cases e:s.c with
  |none=>exact .inl rfl
  |er=>exact .inr (.inl rfl)
  |wt p=>exact .inr (.inr ⟨p,rfl⟩)
  |jI=>have:=(hE.I.g8 (by rw[e];rfl)).2.2.2 j hj;rw[hw]at this;cases this
  |gone=>have:=(hE.I.g8 (by rw[e];rfl)).2.2.2 j hj;rw[hw]at this;cases this
 have hI:bD A.n (s.aE j x s.sh):=hE.I.yS hj (by rw[hw];rfl) (by rw[hx];rfl) (by rw[hx,hw];rfl) (by rw[hx];rfl) (by rw[hx,hw];rfl)
 have hL:MS.fX A.n (s.aE j x s.sh) s:=vr hj (by rw[hx,hw];simp[be.cz])
 have hEx:=hE.bO (x:=x) (sh:=s.sh) (w':=w) hj (by rw[hx];rfl) hpast hd0 ⟨⟨A.b+j,g.frame.fn,g.frame.place,.mark (.releaseMerge ⟨A.gb,0,none⟩)⟩,by rw[ofEvents_eq];simp[MemAct.ofEvent],rfl,rfl⟩ hloud (by rw[hx,hw];rfl) hI hE.mu (λ_ _=>rfl) hE.ti y3
 have hbs:Beside (bW P A Fin Z hZ) s (s.aE j x s.sh) f f q (upd q (A.b+j) k) kk kk OO OO J (λl=>J l/\l≠A.b+j) w (A.b+j) g g1:=tk hZ hj (by rw[hx,hw];rfl) (λi hi=>rfl) (λi hi=>upd_ne q k hi) (λ_ _ _=>rfl) (λ_ _ _=>rfl) (λ_ hn h=>⟨h,hn⟩) (.inl λh=>h) (λ{i k O y} hA=>B.kU (s:=s) (i:=i) (k:=k) (O:=O) (g:=y) hA)
 refine⟨_,_,hrun,s.aE j x s.sh,f,upd q (A.b+j) k,kk,OO,(λl=>J l/\l≠A.b+j),(λp=>M p\/p=t.size),_,_,_,rfl,hL,?_⟩
 refine br.step B hC hg hops hP hEx (λl y hl hA=>B.r7 hE hl _ _ hA) hbs ⟨λhl=>absurd hl (jL hj hsx),λ_=>⟨jL hj hsx,?_,?_,g2,?_,?_⟩,λhh=>absurd hh (og hj hsx),λ_ hn _=>absurd (lH hj hsx) hn⟩
 . show A.b+j<A.b+A.n+1;omega
 . rw[Deaf_own,hd0]
   show _=cN P A (s.aE j x s.sh) (A.b+j);rw[dY hj,hsx];rfl
 . refine .inr (.inl ⟨j,hj,rfl,?_⟩)
   rw[hsx];exact⟨fw,fn,tmps,todo,hfn,hres,hA⟩
 . exact .inr (by rw[upd_same];exact hsil)
end
structure eC{P:Program}(A:dM)(s s':MS P)(i:Nat):Prop where
 w:∀l,l<A.n->A.b+l≠i->s'.w l=s.w l
 c:i≠A.b+A.n->s'.c=s.c
 ms:i≠0->s'.ms=s.ms
 sp:s'.sp=s.sp
 gz:∀l,l<A.n->(s'.w l).gz=(s.w l).gz
section
variable{P:Program}{A:dM}{Fin:ag->ah->Goroutine->Prop}{Z:Base}{s s':MS P}{f f':Nat->Node P}{q q':Nat->Nat}{kk kk':Nat->ag}{OO OO':Nat->ah}{J J' M:Nat->Prop}{gs:Array Goroutine}{gsz:Nat}{w w':World}{t u:Trace}{i:Nat}{g g1:Goroutine}
theorem eC.rem(h:eC A s s' i):MS.rem P A.n s'=MS.rem P A.n s:=by
 unfold MS.rem;refine List.filter_congr λl hl=>?_
 rw[h.gz l (List.mem_range.1 hl)]
theorem eC.live(h:eC A s s' i){j:Nat}(hj:j≠i):dg P A s' j↔dg P A s j:=by
 constructor<;>rintro(⟨h0,h1⟩|⟨l,h1,h2,h3⟩|⟨h0,h1⟩)
 . exact .inl ⟨h0,by rw[<-h.ms (λe=>hj (h0.trans e.symm))];exact h1⟩
 . exact .inr (.inl ⟨l,h1,h2,by rw[<-h.w l h1 (λe=>hj (h2.trans e))];exact h3⟩)
 . exact .inr (.inr ⟨h0,by rw[<-h.c (λe=>hj (h0.trans e.symm))];exact h1⟩)
 . exact .inl ⟨h0,by rw[h.ms (λe=>hj (h0.trans e.symm))];exact h1⟩
 . exact .inr (.inl ⟨l,h1,h2,by rw[h.w l h1 (λe=>hj (h2.trans e))];exact h3⟩)
 . exact .inr (.inr ⟨h0,by rw[h.c (λe=>hj (h0.trans e.symm))];exact h1⟩)
theorem eC.walk(h:eC A s s' i){j:Nat}(hj:j≠i):eV P A s' j↔eV P A s j:=by
 constructor<;>rintro(⟨h0,h1⟩|⟨l,h1,h2,h3⟩|⟨h0,h1⟩)
 . exact .inl ⟨h0,by rw[<-h.ms (λe=>hj (h0.trans e.symm))];exact h1⟩
 . exact .inr (.inl ⟨l,h1,h2,by rw[<-h.w l h1 (λe=>hj (h2.trans e))];exact h3⟩)
 . exact .inr (.inr ⟨h0,by rw[<-h.c (λe=>hj (h0.trans e.symm))];exact h1⟩)
 . exact .inl ⟨h0,by rw[h.ms (λe=>hj (h0.trans e.symm))];exact h1⟩
 . exact .inr (.inl ⟨l,h1,h2,by rw[h.w l h1 (λe=>hj (h2.trans e))];exact h3⟩)
 . exact .inr (.inr ⟨h0,by rw[h.c (λe=>hj (h0.trans e.symm))];exact h1⟩)
theorem eC.held(h:eC A s s' i){j:Nat}(hj:j≠i):dW P A s' j↔dW P A s j:=by
 constructor<;>rintro(⟨h0,h1⟩|⟨l,h1,h2,h3⟩)
 . exact .inl ⟨h0,by rw[<-h.ms (λe=>hj (h0.trans e.symm))];exact h1⟩
 . exact .inr ⟨l,h1,h2,by rw[<-h.w l h1 (λe=>hj (h2.trans e))];exact h3⟩
 . exact .inl ⟨h0,by rw[h.ms (λe=>hj (h0.trans e.symm))];exact h1⟩
 . exact .inr ⟨l,h1,h2,by rw[h.w l h1 (λe=>hj (h2.trans e))];exact h3⟩
theorem vt(hZ:A.b+A.n+1<=Z.lk)(hS:eC A s s' i)(hf:∀j,j≠i->f' j=f j)(hq:∀j,j≠i->q' j=q j)(hk:∀j,j≠i->j<A.b+A.n+1->kk' j=kk j)(hO:∀j,j≠i->j<A.b+A.n+1->OO' j=OO j)(hJ:∀j,j≠i->J j->J' j)
 (hdry:((s.sh.ms=0->s'.sh.ms=0)/\(s.gm=0->s'.gm=0))\/(mayWake P g=true/\(g1.status=.running\/g1.status=.finished))) (hE:∀{i k O y},Od P A Fin s i k O y->y.status=.running/\y.offers=none):
 Beside (bW P A Fin Z hZ) s s' f f' q q' kk kk' OO OO' J J' w' i g g1:=by
 have hb:=A.hb;have hr:=hS.rem;have wl:∀{j l:Nat},l<A.n->j≠i->j=A.b+l->s'.w l=s.w l:=λ{j l} hl hj e=>hS.w l hl (λh=>hj (e.trans h))
 have hms:∀{j:Nat},j≠i->j=0->s'.ms=s.ms:=λhj e=>hS.ms (λh=>hj (e.trans h.symm))
 have hc:∀{j:Nat},j≠i->j=A.b+A.n->s'.c=s.c:=λhj e=>hS.c (λh=>hj (e.trans h.symm))
 refine⟨hf,hq,hk,hO,λj hj _ h=>hJ j hj h,λj hj=>hS.live hj,λj hj=>hS.walk hj,λj hj=>hS.held hj,λj hj hl=>?_,λj k O y hj _ hA=>?_,λj hj hw=>?_,λj hj hw hd=>?_,λj k O y hj _ hA=>?_,λj y hj _ ht=>?_⟩
 . show bu P A Fin s' j=bu P A Fin s j
   unfold bu;rw[hr]
   rcases hl with⟨h0,_⟩|⟨l,h3,h4,_⟩|⟨h0,_⟩
   . simp only[if_pos h0,hms hj h0]
   . have e:j-A.b=l:=by omega
     have n1:¬j=0:=by omega
     have n2:j<A.b+A.n:=by omega
     simp only[if_neg n1,if_pos n2,e,wl h3 hj h4]
   . have n1:¬j=0:=by omega
     have n2:¬j<A.b+A.n:=by omega
     simp only[if_neg n1,if_neg n2,hc hj h0]
 . rcases hA with⟨h0,h⟩|⟨l,h3,h4,h5⟩|⟨h0,h⟩
   . exact .inl ⟨h0,by rw[hms hj h0];exact h⟩
   . exact .inr (.inl ⟨l,h3,h4,by rw[wl h3 hj h4];exact h5⟩)
   . exact .inr (.inr ⟨h0,by rw[hc hj h0];exact h⟩)
 . show cN P A s' j=cN P A s j
   unfold cN
   rcases hw with⟨h0,_⟩|⟨l,h3,h4,_⟩|⟨h0,_⟩
   . simp only[if_pos h0,hms hj h0]
   . have e:j-A.b=l:=by omega
     have n1:¬j=0:=by omega
     have n2:j<A.b+A.n:=by omega
     simp only[if_neg n1,if_pos n2,e,wl h3 hj h4]
   . have n1:¬j=0:=by omega
     have n2:¬j<A.b+A.n:=by omega
     simp only[if_neg n1,if_neg n2,hc hj h0]
 . rcases hdry with⟨hdry,hdry'⟩|⟨hm,hr⟩
   . refine .inl ?_
     rcases hd with⟨l,sv,Y,h3,h4,h5,h6⟩|⟨h0,h5,h6⟩
     . exact .inl ⟨l,sv,Y,h3,h4,by rw[wl h3 hj h4];exact h5,hdry h6⟩
     . exact .inr ⟨h0,by rw[hc hj h0];exact h5,hdry' h6⟩
   . refine .inr λy hy=>?_
     obtain⟨a1,a2⟩:=hE hy;have hc:(mayWake P g && g1.status !=.blocked && g1.status !=.waiting)=true:=by rcases hr with hr|hr<;>rw[hm,hr]<;>rfl
     unfold Go.Conc.woken;rw[if_pos hc,oT a1 a2]
 . rcases hA with⟨h0,g₂,z,h3,h4,h5,h6⟩|h
   . exact .inl ⟨h0,g₂,z,h3,h4,h5,by rw[hr];exact h6⟩
   . exact .inr h
 . exact λl b X h3 h4 h5=>ht l b X h3 h4 (by rw[<-h5];exact(wl h3 hj h4).symm)
theorem qk{c:jh}:c.dP=true↔c=.gone:=by cases c<;>simp[jh.dP]
theorem mY{c:jh}:c.isNone=true↔c=.none:=by cases c<;>simp[jh.isNone]
theorem cW.Oo{M':Nat->Prop}(h:cW P A Z s kk OO J M gsz w t)(hS:eC A s s' i)(hown:∀l,l<A.n->(s'.w l).owns=(s.w l).owns)(hgone:s'.c.dP=s.c.dP)(hnone:s'.c.isNone=s.c.isNone)
 (hMM:∀p,M' p->M p) (hgm:s.c=.gone->∀p,M p->M' p) (hcM:(∃p,M' p)->(s.c=.none\/s.c=.er\/∃q,s.c=.wt q)->(s'.c=.none\/s'.c=.er\/∃q,s'.c=.wt q)) (hbusy:∀i,eX P A s' i↔eX P A s i) (hI:bD A.n s') (hsh:s'.sh=s.sh) (hgr:px A.gb w' s'.gc s'.gv s'.gm) (hmw:MW A.gb 0 w w')
 (hu:∀op∈u,(∀a,op.act.touch?=some a->a.kind=.atomic\/(a.kind=.said/\op.g=(if s.c.isNone then 0 else A.b+A.n)))/\∀a,op.act≠.mark (.release a)):cW P A Z s' kk OO J M' gsz w' (t++u):=by
 obtain⟨m1,m2,c,e,c',m3,m4,_⟩:=lG hmw h.wv
 have hbeg:∀i,bE P A s' i->bE P A s i:=λi hi=>by
  rcases hi with h0|⟨j,h1,h2⟩|⟨h1,h2⟩
  . exact .inl h0
  . exact .inr (.inl ⟨j,by rw[<-hS.sp];exact h1,h2⟩)
  . refine .inr (.inr ⟨h1,λe=>h2 ?_⟩)
    exact mY.1 (by rw[hnone];exact mY.2 e)
 have hbeg':∀i,bE P A s i->bE P A s' i:=λi hi=>by
  rcases hi with h0|⟨j,h1,h2⟩|⟨h1,h2⟩
  . exact .inl h0
  . exact .inr (.inl ⟨j,by rw[hS.sp];exact h1,h2⟩)
  . refine .inr (.inr ⟨h1,λe=>h2 ?_⟩)
    exact mY.1 (by rw[<-hnone];exact mY.2 e)
 have hgi:s'.c=.gone↔s.c=.gone:=by rw[<-qk,<-qk,hgone]
 refine⟨hI,by rw[hS.sp,hnone];exact h.size,by rw[m2 _ A.d2,hgone];exact h.v7,by rw[hsh];exact h.mu.same (.of_heap (m2 _ A.d4)),hgr,by rw[m2 _ A.d4];exact h.ti,⟨c',e,m4⟩,h.fB,h.dI,λi y hy=>?_,λl hl hlo=>h.vm l hl (by rw[<-hown l hl];exact hlo),λhlo=>h.Hp λl hl=>by rw[<-hown l hl];exact hlo l hl,λc hc=>?_,
  λi=>by rw[h.hJ i];exact(hbusy i).symm,λp hp=>?_,λhc=>(by obtain⟨p,h1,h2,h3⟩:=h.ki u (hgi.1 hc);exact⟨p,hgm (hgi.1 hc) p h1,h2,h3⟩),λm a ha hs hk i hi=>h.iX u (λop hop a ha _ hk=>?_) m a ha hs hk i (hbeg i hi),λm a ha hs hk=>?_,λi hi=>h.mW u i (hbeg i hi),h.gV u (λop hop=>(hu op hop).2),λi hlk hn=>h.AE i hlk (λhb=>hn (hbeg' i hb)),h.qc,h.jp,h.dX,h.la,by simp;exact Nat.le_trans h.n0 (Nat.le_add_right _ _)⟩
 . obtain⟨l,f,h3,h4,h5,h6⟩:=h.tok i y hy
   exact⟨l,f,h3,h4,by rw[hown l h3];exact h5,h6⟩
 . obtain⟨h3,h4⟩:=h.Gk c hc
   exact⟨h3,λl hl=>by rw[hown l hl];exact h4 l hl⟩
 . obtain⟨h1,h2,h3⟩:=h.rb u p (hMM p hp)
   refine⟨h1,h2,?_⟩;rcases h3 with⟨h3,h4⟩|⟨h3,h4⟩
   . exact .inl ⟨h3,hcM ⟨p,hp⟩ h4⟩
   . exact .inr ⟨hgi.2 h3,h4⟩
 . rcases(hu op hop).1 a ha with h1|⟨h1,_⟩<;>rw[h1]at hk<;>cases hk
 . rw[hnone]
   obtain⟨x,hx,hxa⟩:=touch_of ha;rcases getElem?_append_cases hx with⟨hl,hx'⟩|⟨_,hxu⟩
   . exact(h.said m a (by rw[touchAt_of hx'];exact hxa) hs hk).app u
   . rcases(hu x hxu).1 a hxa with h1|⟨_,h1⟩
     . rw[h1]at hk;cases hk
     . rw[<-h1];exact⟨m,x,hx,rfl,.inl rfl⟩
theorem cW.R3(h:cW P A Z s kk OO J M gsz w t)(hS:eC A s s' i)(hown:∀l,l<A.n->(s'.w l).owns=(s.w l).owns)(hgone:s'.c.dP=s.c.dP)(hnone:s'.c.isNone=s.c.isNone)
 (hcM:(s.c=.none\/s.c=.er\/∃q,s.c=.wt q)->(s'.c=.none\/s'.c=.er\/∃q,s'.c=.wt q)) (hbusy:∀i,eX P A s' i↔eX P A s i) (hI:bD A.n s') (hsh:s'.sh=s.sh) (hgr:px A.gb w' s'.gc s'.gv s'.gm) (hmw:MW A.gb 0 w w')
 (hu:∀op∈u,(∀a,op.act.touch?=some a->a.kind=.atomic\/(a.kind=.said/\op.g=(if s.c.isNone then 0 else A.b+A.n)))/\∀a,op.act≠.mark (.release a)):cW P A Z s' kk OO J M gsz w' (t++u):=
 h.Oo hS hown hgone hnone (λ_ h=>h) (λ_ _ h=>h) (λ_=>hcM) hbusy hI hsh hgr hmw hu
def Ma(b:Nat)(es:Array Event):Prop:=∀e∈es,((e.loc=.mark .disable\/e.loc=.mark .enable)\/∃i,(i=0\/i=0+1)/\e.loc=.cell ⟨b,i,none⟩/\e.sync=true)\/∃i,(i=0\/i=1)/\(e.loc=.mark (.read ⟨b,i,none⟩)\/e.loc=.mark (.write ⟨b,i,none⟩))
theorem Mb{b:Nat}{es:Array Event}(h:EvM b 0 es):Ma b es:=λe he=>.inl (h e he)
def Hy(kk:Nat->ag)(OO:Nat->ah)(B:Nat)(t:Trace)(i:Nat)(u:Trace):Prop:=∀op∈u,∀a,op.act.touch?=some a->(a.kind=.atomic\/a.kind=.said)/\(a.loc.isMemory=true->GO kk OO B a.loc)/\∀n b,touchAt t n=some b->b.loc=a.loc->(b.kind=.plain\/(a.kind=.said/\b.kind=.said))->Knows t i n
theorem bV.Hw(h:bV Z kk OO J M w t)(hops:∀op∈u,op.g=i)(hw:w'.heap.size=w.heap.size)(hq:Calm Z w w')(hb:∀b,Kept kk OO w w' b)(hl:∀op∈u,op.act.low w.heap.size)(hu:Hy kk OO w.heap.size t i u)
 (hun:∀m op a,u[m]?=some op->op.act.touch?=some a->a.loc.isMemory=true->Told Z J M (t++u) (t.size+m) a):bV Z kk OO J M w' (t++u):=
 h.rY (λa b=>a=b) hw hq hb hl (λa b e n x _ _ _ hk=>by subst e;exact hk.app u) (λj b n v h=>⟨j,rfl,h⟩) (λj b s h=>⟨j,rfl,h⟩) (λj b x h=>⟨j,rfl,h,λ_ h=>h⟩) h.iV
  (fun said=>noRace_append (h.clean said) hops λn a ha op hop b hb hc=>by
    obtain⟨h1,h2,h3⟩:=hu op hop b hb;obtain⟨c1,_,_,c4⟩:=hc;rcases c4 with c4|c4|⟨_,c4,c5⟩
    . exact h3 n a ha c1 (.inl c4)
    . rcases h1 with h1|h1<;>rw[h1]at c4<;>cases c4
    . exact h3 n a ha c1 (.inr ⟨c5,c4⟩))
  (λop hop a ha hm=>(hu op hop a ha).2.1 hm) hun
  (λn a ha hm h=>h.elim (λ⟨j,h1,h2⟩=>.inr (.inl ⟨j,h1,h2.app _⟩)) (λ⟨p,h1,h2⟩=>.inr (.inr (.inl ⟨p,h1,h2.app _⟩))))
theorem mG{b:Nat}{e:Event}(he:((e.loc=.mark .disable\/e.loc=.mark .enable)\/∃i,(i=0\/i=0+1)/\e.loc=.cell ⟨b,i,none⟩/\e.sync=true)\/∃i,(i=0\/i=1)/\(e.loc=.mark (.read ⟨b,i,none⟩)\/e.loc=.mark (.write ⟨b,i,none⟩))):
 (∀a,(MemAct.ofEvent e).touch?=some a->(a.kind=.atomic\/a.kind=.said)/\∃i,(i=0\/i=1)/\a.loc=.cell ⟨b,i,none⟩)/\(∀a,MemAct.ofEvent e≠.mark (.release a))/\∀B,b<B->(MemAct.ofEvent e).low B:=by
 rcases he with he|⟨i,hi,he⟩
 . obtain⟨h1,h2,h3⟩:=mE he
   exact⟨λa ha=>⟨.inl (h1 a ha).1,by simpa using(h1 a ha).2⟩,h2,h3⟩
 . obtain⟨loc,wr,sy⟩:=e
   rcases he with he|he<;>simp only at he<;>subst he
   all_goals
    refine⟨λa ha=>?_,by simp[MemAct.ofEvent],λB hB=>by simpa[MemAct.ofEvent,MemAct.low]using hB⟩;simp only[MemAct.ofEvent,MemAct.touch?,Option.some.injEq]at ha;subst ha;exact⟨.inr rfl,i,hi,rfl⟩
theorem yT(hZ:A.b+A.n+1<=Z.lk)(hC:br (bW P A Fin Z hZ) Z s f q kk OO J M gs w t)(hbeg:bE P A s i)(hnh:¬dW P A s i)(hg:gs[i]?=some g){es:Array Event}(hst:stepG P (i==0) g w=.go g1 w' es)
 (hS:eC A s s' i) (hown:∀l,l<A.n->(s'.w l).owns=(s.w l).owns) (hgone:s'.c.dP=s.c.dP) (hnone:s'.c.isNone=s.c.isNone) (hcM:(s.c=.none\/s.c=.er\/∃q,s.c=.wt q)->(s'.c=.none\/s'.c=.er\/∃q,s'.c=.wt q)) (hbusy:∀i,eX P A s' i↔eX P A s i)
 (hI:bD A.n s') (hsh:s'.sh=s.sh) (hgr:px A.gb w' s'.gc s'.gv s'.gm) (hmw:MW A.gb 0 w w') (hev:EvM A.gb 0 es\/(Ma A.gb es/\i=(if s.c.isNone then 0 else A.b+A.n))) (hL:MS.fX A.n s' s)
 (hT:(i=0\/J i)\/(EvM A.gb 0 es/\∀(m:Nat) (op:MemOp) (a:Touch),(MemOp.ofEvents i g.frame.fn g.frame.place es)[m]?=some op->op.act.touch?=some a->Z.Shun a.loc->a.kind=.atomic->Told Z J M (t++MemOp.ofEvents i g.frame.fn g.frame.place es) (t.size+m) a))
 (hdry:(s.gm=0->s'.gm=0)\/(mayWake P g=true/\(g1.status=.running\/g1.status=.finished))) (hf:∀j,j≠i->f' j=f j) (hq:∀j,j≠i->q' j=q j)
 (hs:Self P (bW P A Fin Z hZ) s' f' q' kk OO J (t++MemOp.ofEvents i g.frame.fn g.frame.place es) i g1) (sl:Option (Nat × Nat)):Goes P A Fin Z hZ s gs w t sl i:=by
 have hE:cW P A Z s kk OO J M gs.size w t:=hC.ex;have B:=ba (P:=P) (A:=A) (Fin:=Fin) (Z:=Z) hZ;have hrun:=runT_crowd_go (P:=P) (sl:=sl) (i:=i) hg hst;have hG:A.gb<w.heap.size:=by obtain⟨c,e,h1⟩:=hE.wv;exact(Array.getElem?_eq_some_iff.1 h1).1
 have hevG:Ma A.gb es:=hev.elim Mb (·.1);have hops:∀op∈MemOp.ofEvents i g.frame.fn g.frame.place es,op.g=i:=λop hop=>by obtain⟨e,_,rfl⟩:=Go.Conc.mem_ofEvents hop;rfl
 have hkind:∀op∈MemOp.ofEvents i g.frame.fn g.frame.place es,∀a,op.act.touch?=some a->a.kind=.atomic\/(a.kind=.said/\op.g=(if s.c.isNone then 0 else A.b+A.n)):=λop hop a ha=>by
  obtain⟨e,he,rfl⟩:=Go.Conc.mem_ofEvents hop
  rcases hev with hev|⟨_,hi⟩
  . exact .inl ((mE (hev e he)).1 a ha).1
  . rcases((mG (hevG e he)).1 a ha).1 with h|h
    . exact .inl h
    . exact .inr ⟨h,hi⟩
 have y1:Hy kk OO w.heap.size t i (MemOp.ofEvents i g.frame.fn g.frame.place es):=λop hop a ha=>by
  have hkd:=hkind op hop a ha;have hig:=hops op hop;obtain⟨e,he,rfl⟩:=Go.Conc.mem_ofEvents hop;obtain⟨h1,n,hn,h2⟩:=(mG (hevG e he)).1 a ha;have hsc:Ho A a.loc:=by rw[h2];exact⟨rfl,.inr ⟨rfl,hn⟩⟩
  refine⟨h1,λ_=>by rw[h2];exact hE.Lq hn,λm b hb hl hk=>?_⟩
  rcases hk with hk|⟨hk1,hk2⟩
  . exact hE.quiet m b hb (by rw[hl];exact hsc) hk i hbeg
  . have h5:=hE.said m b hb (by rw[hl];exact hsc) hk2
    rcases hkd with hkd|⟨_,hkd⟩
    . rw[hkd]at hk1;cases hk1
    . rw[<-hkd]at h5;exact h5
 have y2:∀op∈MemOp.ofEvents i g.frame.fn g.frame.place es,op.act.low w.heap.size:=λop hop=>by obtain⟨e,he,rfl⟩:=Go.Conc.mem_ofEvents hop;exact(mG (hevG e he)).2.2 _ hG
 have y3:∀op∈MemOp.ofEvents i g.frame.fn g.frame.place es,(∀a,op.act.touch?=some a->a.kind=.atomic\/(a.kind=.said/\op.g=(if s.c.isNone then 0 else A.b+A.n)))/\∀a,op.act≠.mark (.release a):=λop hop=>⟨hkind op hop,by obtain⟨e,he,rfl⟩:=Go.Conc.mem_ofEvents hop;exact(mG (hevG e he)).2.1⟩
 have y4:∀op∈MemOp.ofEvents i g.frame.fn g.frame.place es,∀a,op.act.touch?=some a->Z.Shun a.loc:=λop hop a ha=>by obtain⟨e,he,rfl⟩:=Go.Conc.mem_ofEvents hop;obtain⟨h1,n,hn,h2⟩:=(mG (hevG e he)).1 a ha;rw[h2];exact hE.qc _ ⟨rfl,.inr ⟨rfl,hn⟩⟩ ⟨_,rfl,rfl⟩
 obtain⟨m1,m2,c,e,c',m3,m4,_⟩:=lG hmw hE.wv
 have hP:=hC.bY.Hw (i:=i) hops m1 (hE.Om hmw) (hE.On hmw) y2 y1 (λm op a h1 h2 _=>by
  rcases hT with hJ|⟨hev,hT⟩
  . have hk:Knows (t++MemOp.ofEvents i g.frame.fn g.frame.place es) i (t.size+m):=knows_own h1 (hops op (Array.mem_of_getElem? h1))
    rcases hJ with rfl|hJ
    . exact .inl hk
    . exact .inr (.inl ⟨i,hJ,hk⟩)
  . refine hT m op a h1 h2 (y4 op (Array.mem_of_getElem? h1) a h2) ?_
    obtain⟨e,he,rfl⟩:=Go.Conc.mem_ofEvents (Array.mem_of_getElem? h1);exact((mE (hev e he)).1 a h2).1)
 have hEx:cW P A Z s' kk OO J M gs.size w' (t++MemOp.ofEvents i g.frame.fn g.frame.place es):=hE.R3 hS hown hgone hnone hcM hbusy hI hsh hgr hmw y3
 have hbs:Beside (bW P A Fin Z hZ) s s' f f' q q' kk kk OO OO J J w' i g g1:=vt hZ hS hf hq (λ_ _ _=>rfl) (λ_ _ _=>rfl) (λ_ _ h=>h) (hdry.imp (λh=>⟨λh0=>by rw[hsh];exact h0,h⟩) id) (λ{i k O y} hA=>B.kU (s:=s) (i:=i) (k:=k) (O:=O) (g:=y) hA)
 refine⟨_,_,hrun,s',f',q',kk,OO,J,M,_,_,_,rfl,hL,?_⟩;refine br.step B hC hg hops hP hEx (λl y hl hA=>?_) hbs hs
 have hne:l≠i:=λe=>hnh (e ▸ hl)
 exact B.r7 hEx ((hbs.held l hne).2 hl) _ _ (hbs.L7 l _ _ _ hne hl hA)
theorem DP{g:Nat}:∀m,m<=u.size->(∀l op,l<m->u[l]?=some op->op.act≠.mark .enable)->Deaf t g<=(t++u).deaf g (t.size+m)
 |0,_,_=>by show Deaf t g<=(t++u).deaf g t.size;rw[deaf_old (Nat.le_refl _)];exact Nat.le_refl _
 | m+1,h,hn=>by
   have hm:m<u.size:=by omega
   have hx:(t++u)[t.size+m]?=some u[m]:=by rw[Array.getElem?_append_right (by omega)];simp[hm]
   have ih:=DP (g:=g) m (by omega) (λl op hl=>hn l op (by omega))
   rw[<-Nat.add_assoc,deaf_succ hx];have:=hn m u[m] (by omega) (by simp[hm])
   unfold deafStep;split
   . split<;>omega
   . next e=>exact absurd e this
   . exact ih
theorem CD{es:Array Event}{fn:FuncId}{pos:String}(hd:1<=Deaf t i)(he:∀(m:Nat) (op:MemOp) (a:Touch),(MemOp.ofEvents i fn pos es)[m]?=some op->op.act.touch?=some a->∀(l:Nat) (op':MemOp),l<m->(MemOp.ofEvents i fn pos es)[l]?=some op'->op'.act≠.mark .enable):∀(m:Nat) (op:MemOp) (a:Touch),(MemOp.ofEvents i fn pos es)[m]?=some op->op.act.touch?=some a->Z.Shun a.loc->a.kind=.atomic->Told Z J M (t++MemOp.ofEvents i fn pos es) (t.size+m) a:=λm op a h1 h2 hz hk=>by
 refine EV (i:=i) h1 h2 hz hk λhc=>?_
 obtain⟨x,hx,_,hx3⟩:=hc;rw[act?_of (cY h1)]at hx;have hx:op.act.touch?=some x:=hx;rw[h2]at hx;obtain rfl:=Option.some.inj hx;rcases hx3 with hx3|⟨g',hg',hd'⟩
 . exact hx3 hk
 . have hgi:op.g=i:=by obtain⟨e,_,rfl⟩:=Go.Conc.mem_ofEvents (Array.mem_of_getElem? h1);rfl
   have:g'=i:=by
    have hg2:(t++MemOp.ofEvents i fn pos es).g? (t.size+m)=some op.g:=by simp[Trace.g?,cY h1]
    rw[hg2]at hg';rw[<-hgi];exact(Option.some.inj hg').symm
   subst this;have hm:=(Array.getElem?_eq_some_iff.1 h1).1;have:=DP (t:=t) (u:=MemOp.ofEvents g' fn pos es) (g:=g') m (by omega) (λl op' hl hop=>he m op _ h1 h2 l op' hl hop);omega
end
end Go.aN
