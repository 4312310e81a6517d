import Derived.Test.YtebcbkhnlnkolaaGreatDoorC10
set_option linter.all false
namespace Go.bN
section
open Go.Conc
open Go.ConcN (sumTo upd sumTo_upd upd_ne upd_same)
section
variable{P:afn}{A:cd}{Fin:aeE}{Z:Base}{s:MS P}{f:Nat->Node P}{q:afh}{kk:afm}{OO:afl}{J M:afa}{gs:aeK}{w w':World}{t:Trace}{j:Nat}{x:bE P}{sh:Mu.Sh}{g g1:afd}
def Gn  n :20<=Eu n:=by unfold Eu;omega
def tB{X h}(hj:j<A.n)(a:s.w j=.run h X){y}(b:x.nd=some y)(c:x.work=true)(hu:y=X\/Relation.TransGen sb y X)
 (hi:4*Mu.meas A.n (Mu.set (λi=>(s.w i).pc) j x.pc) sh+x.ex A.n<4*Mu.meas A.n (λi=>(s.w i).pc) s.sh+2*Eu A.n):MS.iD A.n (s.bb j x sh) s:=by
 have d:(s.w j).work=true:=by rw[a];rfl
 rcases hu with rfl|hu
 . exact yM hj d c (by rw[b,a];rfl) (by rw[a];exact hi)
 . exact Ew hj d c ⟨y,X,b,by rw[a];rfl,hu⟩
variable(C:iH P A.nm)(X:iI P A.nm)(F:oC P A.nm)
include C X F in
def Ly  D  (H:bT (cI P A Fin Z D) Z s f q kk OO J M gs w t) (hj:j<A.n){h X0}(a:s.w j=.run h X0){Y:Lu P}(hf:f (A.b+j)=Y.node) (hl:TS P A j Y.k Y.O Y.g Y.N)  sl :
 Goes P A Fin Z D s gs w t sl (A.b+j):=by
 have B:dC P A Z s kk OO J M gs.size w t:=H.ex;obtain⟨_,d,l,r,u,_,E,_,y⟩:=H.live _ (mh hj a);rw[hf]at d l r u y;have d:gs[A.b+j]?=some Y.g:=d;have r:Y.k=kk (A.b+j):=r;have u:Y.O=OO (A.b+j):=u;have l:Y.m=jv P A j:=by have:Y.m=cZ P A Fin s (A.b+j):=l;rw[this,qv hj a]
 obtain⟨kind,c,rest,e,hk,hg,K,z,G,L⟩:=hl;rw[r]at z L;rw[u]at K L
 have hh:h=false:=by
  cases h with
  |false=>rfl
  |true=>exact absurd K (B.BV j hj (by rw[a];rfl))
 subst hh;have Q:(s.w j).work=true:=by rw[a];rfl
 have v:(s.w j).pc=.out:=by rw[a];rfl
 have hu:=y j false X0 hj rfl a Y.node (.inl rfl) trivial;obtain⟨g2,⟨n,p⟩,R⟩:=tZ (P:=P) (n:=A.nm) (b:=A.fb) (o:=A.fo) (kind:=kind) (cs:=c::rest) (Wd:=mZ A) F;rw[<-hg]at p;have a9:=Gn A.n;cases n with
 | zero=>
   have e0:Y.g=g2:=p;rw[<-e0]at R;obtain⟨g1,S,hr,g3,⟨k,T⟩,U⟩:=Ed (Wd:=mZ A) (main:=false) (w:=w) C X R;refine Gi (x:=.lk .js Y) (sh:=s.sh) D H hj Q E (lH hj a) rfl (by rw[a];rfl) (λ_=>by rw[a];rfl) (B.I.enq hj Q rfl rfl v rfl) (tB hj a rfl rfl hu ?_) d S (bC rfl) B.mu (λe he=>by simp at he;subst he;exact .inl (.inl rfl)) rfl ⟨k,g3,T,kind,c,rest,e,hk,U,l,K,z,G,L⟩ (.inl λV=>V) sl
   show 4*Mu.meas A.n (Mu.set (λi=>(s.w i).pc) j .js) s.sh+0<_
   rw[Gh hj v];unfold Eu;omega
 | succ n=>
   obtain⟨g1,⟨ad,W⟩,a7⟩:=p;have a8:mZ A w:=(bx (P:=P) (A:=A) (Fin:=Fin) (Z:=Z) D).wd B;refine Gi (x:=.lk .ld Y) (sh:=s.sh) D H hj Q E (lH hj a) rfl (by rw[a];rfl) (λ_=>by rw[a];rfl) (B.I.still hj Q rfl rfl (by rw[v];rfl)) (tB hj a rfl rfl hu ?_) d (W false w a8) (bC rfl) B.mu hQ rfl ⟨n,g2,a7,kind,c,rest,e,hk,R,l,K,z,G,L⟩ (.inl λV=>V) sl
   have e1:Mu.set (λi=>(s.w i).pc) j (bE.lk .ld Y).pc=λi=>(s.w i).pc:=by
    have:=kT (λi=>(s.w i).pc) j
    rw[show(s.w j).pc=(bE.lk .ld Y).pc from v]at this
    exact this
   rw[e1];show _+Eu A.n<_;omega
end
section
variable{P:afn}{A:cd}{Fin:aeE}{Z:Base}{s:MS P}{f:Nat->Node P}{q:afh}{kk:afm}{OO:afl}{J M:afa}{gs:aeK}{w w':World}{t:Trace}{j:Nat}{x:bE P}{sh:Mu.Sh}{g g1:afd}
variable(C:iH P A.nm)(X:iI P A.nm)(F:oC P A.nm)
include C X F in
def Gp  H  (R:bT (cI P A Fin Z H) Z s f q kk OO J M gs w t) (hj:j<A.n){h X0}(d:s.w j=.run h X0){Y:Lu P}(hf:f (A.b+j)=Y.node) (hl:J6 P A j Y.k Y.O Y.g (Hz P A Y.N))  sl :
 Goes P A Fin Z H s gs w t sl (A.b+j):=by
 have D:dC P A Z s kk OO J M gs.size w t:=R.ex;obtain⟨_,e,p,y,z,_,K,_,B⟩:=R.live _ (mh hj d);rw[hf]at e p y z B;have e:gs[A.b+j]?=some Y.g:=e;have y:Y.k=kk (A.b+j):=y;have z:Y.O=OO (A.b+j):=z;have p:Y.m=jv P A j:=by have:Y.m=cZ P A Fin s (A.b+j):=p;rw[this,qv hj d]
 obtain⟨kind,c,rest,tf,xo,a,hk,hg,E,Ff,L,T,Q,U⟩:=hl;rw[y]at L Q U;rw[z]at E Ff U
 have hh:h=true:=by
  obtain⟨l,_,hl,h2,h3,_⟩:=D.tok _ _ E;obtain rfl:l=j:=by omega
  rw[d]at h3;exact h3
 subst hh;have S:(s.w j).work=true:=by rw[d];rfl
 have G:(s.w j).pc=.held:=by rw[d];rfl
 have hu:=B j true X0 hj rfl d Y.node (.inl rfl) trivial;obtain⟨g2,⟨n,r⟩,V⟩:=rV (P:=P) (n:=A.nm) (b:=A.fb) (o:=A.fo) (kind:=kind) (cs:=c::rest) (Wd:=mZ A) F;rw[<-hg]at r;have av:=Gn A.n
 have e1:Mu.set (λi=>(s.w i).pc) j .held=λi=>(s.w i).pc:=by
  have:=kT (λi=>(s.w i).pc) j
  rw[show(s.w j).pc=.held from G]at this
  exact this
 have u:∃f x a,OO (A.b+j) A.fb=some (.part f)/\OO (A.b+j) A.mb=some x/\mC (kk (A.b+j)) x a/\A.GI a/\(A.dir=true->(kk (A.b+j)).cell A.fb (A.cell j)=some (A.val j))/\Hz P A Y.N (kk (A.b+j)) (((OO (A.b+j)).del A.mb).del A.fb) (lS kind c rest (.tuple #[])):=⟨tf,xo,a,E,Ff,L,T,Q,U⟩;cases n with
 | zero=>
   have e0:Y.g=g2:=r;rw[<-e0]at V;obtain⟨v,hv⟩:=((bx (P:=P) (A:=A) (Fin:=Fin) (Z:=Z) H).wd D).2.2;obtain⟨g1,W,hr,g3,⟨k,a7⟩,a8⟩:=Ae (Wd:=mZ A) (main:=false) (w:=w) C X (λw h=>h.2.2) hv V
   refine Gi (x:=.un .ur Y) (sh:=s.sh) H R hj S K (lH hj d) rfl (by rw[d];rfl) (λ_=>by rw[d];rfl) (D.I.still hj S rfl rfl (by rw[G];rfl)) (tB hj d rfl rfl hu ?_) e W (bC rfl) D.mu hQ rfl ⟨k,g3,a7,kind,c,rest,hk,a8,p,λ_=>u,λh=>absurd (.inr rfl) h⟩ (.inl λh0=>h0) sl
   show 4*Mu.meas A.n (Mu.set (λi=>(s.w i).pc) j .held) s.sh+4<_
   rw[e1];omega
 | succ n=>
   obtain⟨g1,⟨ax,a9⟩,ad⟩:=r;have al:mZ A w:=(bx (P:=P) (A:=A) (Fin:=Fin) (Z:=Z) H).wd D;refine Gi (x:=.un .JP Y) (sh:=s.sh) H R hj S K (lH hj d) rfl (by rw[d];rfl) (λ_=>by rw[d];rfl) (D.I.still hj S rfl rfl (by rw[G];rfl)) (tB hj d rfl rfl hu ?_) e (a9 false w al) (bC rfl) D.mu hQ rfl ⟨n,g2,ad,kind,c,rest,hk,V,p,λ_=>u,λh=>absurd (.inl rfl) h⟩ (.inl λh0=>h0) sl
   show 4*Mu.meas A.n (Mu.set (λi=>(s.w i).pc) j .held) s.sh+5<_
   rw[e1];omega
end
section
variable{P:afn}{A:cd}{Z:Base}{s:MS P}{kk:afm}{OO:afl}{J M:afa}{gsz:Nat}{w w':World}{t:Trace}
def dC.XS(h:dC P A Z s kk OO J M gsz w t)(a:MW A.gb 0 w w'):Calm Z w w':=by obtain⟨d,c,_⟩:=rq a h.BU;have:=h.gq.2.2;exact⟨a.1,λb hb=>c b (by omega)⟩
def dC.XT(h:dC P A Z s kk OO J M gsz w t)(d:MW A.gb 0 w w'):∀b,Kept kk OO w w' b:=λb=>by
 obtain⟨p,f,c,e,g,j,k,l,q⟩:=rq d h.BU;by_cases hb:b=A.gb
 . subst hb
   refine .inr (.inr ⟨c,g,e,j,k,l,λi x a=>(by rw[(h.iL i).2]at a;cases a),λn=>?_⟩);by_cases m:n=0
   . subst m;exact .inr λi=>(h.fI i).2.2.1
   . by_cases o:n=1
     . subst o;exact .inr λi=>(h.fI i).2.2.2
     simp_all
 . exact .inl (f b hb)
def dC.TX(h:dC P A Z s kk OO J M gsz w t){n}(a:n=0\/n=1):NU kk OO w.heap.size (.cell ⟨A.gb,n,none⟩):=by
 have b:A.gb<w.heap.size:=by obtain⟨c,e,d⟩:=h.BU;grind
 refine⟨b,λi=>⟨fA (h.iL i).2,?_⟩⟩
 rcases a with rfl|rfl
 . exact(h.fI i).2.2.1
 . exact(h.fI i).2.2.2
def dC.OK(h:dC P A Z s kk OO J M gsz w t){es}(p:EvM A.gb 0 es){i}(hi:cA P A s i)  fn   pos :
 Ey kk OO w.heap.size t i (MemOp.ofEvents i fn pos es)/\(∀op∈MemOp.ofEvents i fn pos es,op.act.low w.heap.size)/\(∀op∈MemOp.ofEvents i fn pos es,(∀a,op.act.touch?=some a->a.kind=.atomic/\BE A a.loc)/\∀a,op.act≠.mark (.release a))/\
 ∀op∈MemOp.ofEvents i fn pos es,∀a,op.act.touch?=some a->Z.Shun a.loc:=by
 have v:A.gb<w.heap.size:=by obtain⟨c,e,j⟩:=h.BU;grind
 refine⟨λop d a k=>?_,λop d=>?_,λop d=>?_,λop d a k=>?_⟩<;>obtain⟨e,l,rfl⟩:=LK d<;>obtain⟨o,q,x⟩:=qu (p e l)
 . obtain⟨j,n,f,g⟩:=o a k
   have f:n=0\/n=1:=by omega
   refine⟨j,λ_=>by rw[g];exact h.TX f,λm b hb r u=>h.quiet m b hb ?_ u i hi⟩
   rw[r,g];exact⟨rfl,.inr ⟨rfl,f⟩⟩
 . grind
 . refine⟨λa k=>?_,q⟩
   obtain⟨j,n,f,g⟩:=o a k;exact⟨j,by rw[g];exact⟨rfl,.inr ⟨rfl,by omega⟩⟩⟩
 . obtain⟨j,n,f,g⟩:=o a k
   have f:n=0\/n=1:=by omega
   rw[g];exact h.vn _ ⟨rfl,.inr ⟨rfl,f⟩⟩ ⟨_,rfl,rfl⟩
def Lz{Z J M t u}{i m:Nat}{op a}(e:u[m]?=some op)(f:op.act.touch?=some a)(b:Z.Shun a.loc)(c:a.kind=.atomic)(d:¬(t++u).counts (t.size+m)):Told Z J M (t++u) (t.size+m) a:=.inr (.inr (.inr ⟨b,c,λh=>absurd h d⟩))
end
end
section
open Go.Conc
open Go.ConcN (sumTo upd sumTo_upd upd_ne upd_same)
variable{P:afn}
section
variable{s:MS P}{j n:Nat}{x:bE P}{sh:Mu.Sh}
def vJ(hj:j<n)(h:x.cT<(s.w j).cT):MS.iD n (s.bb j x sh) s:=by
 have:=vI (s:=s) (x:=x) (sh:=sh) bE.cT hj;refine .inl ?_;show s.ms.cT+sumTo n (λi=>((s.bb j x sh).w i).cT)+s.c.cT s.gc<s.ms.cT+sumTo n (λi=>(s.w i).cT)+s.c.cT s.gc;omega
def cq.yO(I:cq n s)(hj:j<n)(a:(s.w j).Ev=true)(b:x.Ev=true)(c:x.jK=(s.w j).jK\/s.d=true)(e:x.ok=true)(f:x.pc=(s.w j).pc):cq n (s.bb j x s.sh):=I.same hj a b c e (by rw[f,kT (λi=>(s.w i).pc)];exact I.mu)
end
end
section
open Go.Conc
open Go.ConcN (sumTo upd sumTo_upd upd_ne upd_same)
section
variable{P:afn}{A:cd}{Fin:aeE}{Z:Base}{s:MS P}{f f':Nat->Node P}{q q':afh}{kk kk':afm}{OO OO':afl}{J J' M:afa}{gs:aeK}{w w':World}{t:Trace}{j:Nat}{x:bE P}{sh:Mu.Sh}{g g1:afd}
def o0(hj:j<A.n){p}(e:s.w j=.dn p):iK P A s (A.b+j):=.inr (.inl ⟨j,hj,rfl,by simp_all⟩)
def mn(hj:j<A.n){p}(e:s.w j=.dn p):¬eD P A s (A.b+j):=by
 have:=A.hb;rintro(⟨e,_⟩|⟨l,a,c,d⟩|⟨e,_⟩)
 . omega
 . simp_all
 . omega
def sT(hj:j<A.n){p}(e:s.w j=.dn p):¬gF P A s (A.b+j):=by
 have:=A.hb;rintro(⟨e,_⟩|⟨l,a,c,d⟩)
 . omega
 simp_all
end
section
variable{P:afn}{A:cd}{Fin:aeE}{Z:Base}{s:MS P}{f:Nat->Node P}{q:afh}{kk:afm}{OO:afl}{J M:afa}{gs:aeK}{gsz:Nat}{w w':World}{t u:Trace}{j:Nat}{x:bE P}{sh:Mu.Sh}{g:afd}
variable(C:iV P A.ng)(X:jH P A.ng)
include C X in
def Sw  z  (L:bT (cI P A Fin Z z) Z s f q kk OO J M gs w t) (hj:j<A.n) (d:s.w j=.dn .d2) (hg:gs[A.b+j]?=some g) (N:J8 P A j (.dn .d2) (kk (A.b+j)) (OO (A.b+j)) g)  sl :
 Goes P A Fin Z z s gs w t sl (A.b+j):=by
 have r:dC P A Z s kk OO J M gs.size w t:=L.ex;have B:=bx (P:=P) (A:=A) (Fin:=Fin) (Z:=Z) z;have hb:=A.hb;have Q:(A.b+j==0)=false:=by simp;omega
 obtain⟨fw,fn,tmps,todo,R,D,hM⟩:=N;obtain⟨g1,S,hr,g2,⟨k,E⟩,F⟩:=ZF (Wd:=mZ A) (main:=false) (w:=w) C X hM;obtain⟨x,o⟩:∃x:bE P,x=.dn .d4:=⟨_,rfl⟩;have c:(s.bb j x s.sh).w j=.dn .d4:=by rw[bc,o]
 have T:=o0 (P:=P) (A:=A) (s:=s) hj d
 have u:Deaf t (A.b+j)=0:=by obtain⟨_,_,u,_⟩:=L.walk _ T;rw[u];show eT P A s (A.b+j)=0;rw[fX hj,d];rfl
 have G:=runT_crowd_go (P:=P) (sl:=sl) (i:=A.b+j) hg (by rw[Q];exact S)
 have H:cA P A s (A.b+j):=jL r.I hj (by rw[d];rfl)
 obtain⟨y1,y2,y3,y4⟩:=r.OK (es:=#[⟨.mark .disable,false,true⟩]) (λe K=>by simp at K;subst K;exact .inl (.inl rfl)) H g.frame.fn g.frame.place
 have p:∀op∈MemOp.ofEvents (A.b+j) g.frame.fn g.frame.place #[⟨.mark .disable,false,true⟩],op.g=A.b+j:=λop v=>by obtain⟨e,_,rfl⟩:=LK v;rfl
 have U:∀op∈MemOp.ofEvents (A.b+j) g.frame.fn g.frame.place #[⟨.mark .disable,false,true⟩],op.act.touch?=none:=λop v=>by obtain⟨e,K,rfl⟩:=LK v;simp at K;subst K;rfl
 have hP:=L.dp.TU (i:=A.b+j) (w':=w) p rfl ⟨⟨.refl _,rfl⟩,λ_ _=>rfl⟩ (λb=>.inl rfl) y2 y1 (λm op a h1 h2 _=>by rw[U op (acb h1)]at h2;cases h2)
 have hI:cq A.n (s.bb j x s.sh):=r.I.yO hj (by rw[d];rfl) (by rw[o];rfl) (.inl (by rw[o,d];rfl)) (by rw[o];rfl) (by rw[o,d];rfl)
 have hL:MS.iD A.n (s.bb j x s.sh) s:=vJ hj (by rw[o,d];simp[bE.cT])
 have V:=r.Az (x:=x) (sh:=s.sh) (w':=w) hj (by rw[o,d];rfl) (by rw[o,d];rfl) (λ_=>by rw[o,d];rfl) hI r.mu (λ_ _=>rfl) r.xY y3
 have W:Beside (cI P A Fin Z z) s (s.bb j x s.sh) f f q (upd q (A.b+j) k) kk kk OO OO J J w (A.b+j) g g1:=sR z hj (by rw[o,d];rfl) (λi hi=>rfl) (λi hi=>upd_ne q k hi) (λ_ _ _=>rfl) (λ_ _ _=>rfl) (λ_ _ h=>h) (.inl λh=>h) (λ{i k O y} F=>B.mO (s:=s) (i:=i) (k:=k) (O:=O) (g:=y) F)
 refine⟨_,_,G,s.bb j x s.sh,f,upd q (A.b+j) k,kk,OO,J,M,_,_,_,rfl,hL,?_⟩;refine bT.step B L hg p hP V (λl y Y F=>B.vq r Y _ _ F) W ⟨λY=>absurd Y (mn hj c),λ_=>⟨mn hj c,?_,?_,g2,?_,?_⟩,λhh=>absurd hh (sT hj c),λ_ hn _=>absurd (o0 hj c) hn⟩
 . show A.b+j<A.b+A.n+1;omega
 . rw[Deaf_own,u]
   show _=eT P A (s.bb j x s.sh) (A.b+j);rw[fX hj,c];rfl
 . refine .inr (.inl ⟨j,hj,rfl,?_⟩)
   rw[c];exact⟨fw,fn,tmps,todo,R,D,F⟩
 . exact .inr (by rw[upd_same];exact E)
end
section
variable{Z:Base}{kk:afm}{OO:afl}{J M:afa}{w:World}{t:Trace}
def cV.bU(h:cV Z kk OO J M w t){i ad}(o:ad.block<w.heap.size)(hd:Deaf t i=0)  fn   pos :
 cV Z kk OO (λl=>J l/\l≠i) (λp=>M p\/p=t.size) w (t++MemOp.ofEvents i fn pos #[⟨.mark (.releaseMerge ad),false,true⟩]):=by
 obtain⟨u,A⟩:∃u,u=MemOp.ofEvents i fn pos #[⟨.mark (.releaseMerge ad),false,true⟩]:=⟨_,rfl⟩;have d:u=#[⟨i,fn,pos,.mark (.releaseMerge ad)⟩]:=by rw[A,ofEvents_eq];simp[MemAct.ofEvent]
 rw[<-A];have B:∀op∈u,op.act.touch?=none:=λop c=>by rw[d]at c;simp at c;subst c;rfl
 have f:∀op∈u,op.g=i:=λop c=>by grind
 have q:u[0]?=some ⟨i,fn,pos,.mark (.releaseMerge ad)⟩:=by grind
 exact h.wG (λa b=>a=b) rfl ⟨⟨.refl _,rfl⟩,λ_ _=>rfl⟩ (λb=>.inl rfl) (λop c=>by rw[d]at c;simp at c;subst c;simpa[MemAct.low]using o) (λa b e n y _ _ _ C=>by subst e;exact C.app u)
  (λj b n v h=>⟨j,rfl,h⟩) (λj b s h=>⟨j,rfl,h⟩) (λj b x h=>⟨j,rfl,h,λ_ h=>h⟩) h.kO
  (λsaid=>noRace_append (h.clean said) f λn a r op c b hb _=>by simp_all) (λop c a r=>by simp_all) (λm op a c r=>by grind)
  (fun n a r D h=>h.elim (λ⟨j,z,k⟩=>by
    by_cases e:j=i
    . subst e;exact .inr (.inr (.inl ⟨t.size+0,.inr rfl,nO k q rfl⟩))
    . exact .inr (.inl ⟨j,⟨z,e⟩,k.app _⟩)) (λ⟨p,z,k⟩=>.inr (.inr (.inl ⟨p,.inl z,k.app _⟩))))
end
section
variable{P:afn}{A:cd}{Fin:aeE}{Z:Base}{s:MS P}{f:Nat->Node P}{q:afh}{kk:afm}{OO:afl}{J M:afa}{gs:aeK}{gsz:Nat}{w w':World}{t u:Trace}{j:Nat}{x:bE P}{sh:Mu.Sh}{g:afd}
def dC.bU(h:dC P A Z s kk OO J M gsz w t)(hj:j<A.n)(z:x.busy=false)(B:s.c=.none\/s.c=.fH\/∃q,s.c=.wt q)(hd:Deaf t (A.b+j)=0)(E:∃op,u[0]?=some op/\op.g=A.b+j/\op.act=.mark (.releaseMerge ⟨A.gb,0,none⟩))(C:mD u)(S:x.owns=(s.w j).owns)(F:x.jw=(s.w j).jw)(T:cq A.n (s.bb j x sh))(G:ShM A.fb A.fo w' sh)
 (d:∀b,b≠A.fb->w'.heap[b]?=w.heap[b]?) (H:∃c e,w'.heap[A.fb]?=some (.cells c e (0,0))) (O:∀op∈u,(∀a,op.act.touch?=some a->a.kind=.atomic/\BE A a.loc)/\∀a,op.act≠.mark (.release a)):
 dC P A Z (s.bb j x sh) kk OO (λl=>J l/\l≠A.b+j) (λp=>M p\/p=t.size) gsz w' (t++u):=by
 have hb:=A.hb
 have D:∀l,((s.bb j x sh).w l).owns=(s.w l).owns:=λl=>by
  by_cases e:l=j
  . subst e;rw[bc,S]
  rw[cU e]
 refine⟨T,h.size,h.dd,h.off,h.Iu (λhd l _=>⟨?_,D l⟩) (λop k a I=>((O op k).1 a I).2),λhd=>by rw[d _ A.d1];exact h.CE hd,G,h.gr.same (.of_heap (d _ (zs A.d4))),H,by rw[d _ (zs A.d4)];exact h.BU,h.iL,h.fI,λi y U=>?_,λl Q K=>h.BV l Q (by simp_all),λK=>h.Rs λl Q=>by simp_all,λc L=>?_,
  λi=>?_,λp N=>?_,λL=>?_,h.mc u (λop k a I _ V=>?_),h.rl u (λop k a I _ V=>?_),h.sQ u,h.kS u (λop k=>(O op k).2),h.Ge,h.vn,h.lG,h.gq,h.la,by simp;exact aap h.n0 (adh _ _)⟩
 . by_cases e:l=j
   . subst e;rw[bc,F]
   rw[cU e]
 . obtain⟨l,f,o,r,v,W⟩:=h.tok i y U
   exact⟨l,f,o,r,by simp_all,W⟩
 . obtain⟨o,r⟩:=h.Rt c L
   simp_all
 . rw[h.hJ i]
   constructor
   . rintro⟨⟨l,o,r,v⟩|⟨o,r⟩,X⟩
     . exact .inl ⟨l,o,r,by rw[cU (by omega)];exact v⟩
     exact .inr ⟨o,r⟩
   rintro(⟨l,o,r,v⟩|⟨o,r⟩)
   . by_cases e:l=j
     . subst e;rw[bc,z]at v;cases v
     rw[cU e]at v;exact⟨.inl ⟨l,o,r,v⟩,by omega⟩
   exact⟨.inr ⟨o,r⟩,by omega⟩
 . rcases N with N|rfl
   . exact h.ya u p N
   obtain⟨op,R,Y,e3⟩:=E;refine⟨heard_new (m:=0) C R (by simp_all),h.n0,.inl ⟨?_,B⟩⟩;have e4:=act?_of (dX (t:=t) (m:=0) R)
   simp_all
 . obtain⟨p,o,r,v⟩:=h.oX u L
   grind
 . grind
 grind
variable(C:iV P A.ng)(X:jH P A.ng)
include C X in
def Sx  E  (Q:bT (cI P A Fin Z E) Z s f q kk OO J M gs w t) (hj:j<A.n) (m:s.w j=.dn .d1) (hg:gs[A.b+j]?=some g) (R:J8 P A j (.dn .d1) (kk (A.b+j)) (OO (A.b+j)) g)  sl :
 Goes P A Fin Z E s gs w t sl (A.b+j):=by
 have v:dC P A Z s kk OO J M gs.size w t:=Q.ex;have B:=bx (P:=P) (A:=A) (Fin:=Fin) (Z:=Z) E;have hb:=A.hb;have S:(A.b+j==0)=false:=by simp;omega
 obtain⟨fw,fn,tmps,todo,T,F,hM⟩:=R;obtain⟨g1,U,hr,g2,⟨k,G⟩,H⟩:=ZE (Wd:=mZ A) (main:=false) (w:=w) C X hM;obtain⟨x,u⟩:∃x:bE P,x=.dn .d2:=⟨_,rfl⟩;have d:(s.bb j x s.sh).w j=.dn .d2:=by rw[bc,u]
 have V:=o0 (P:=P) (A:=A) (s:=s) hj m
 have o:Deaf t (A.b+j)=0:=by obtain⟨_,_,o,_⟩:=Q.walk _ V;rw[o];show eT P A s (A.b+j)=0;rw[fX hj,m];rfl
 have K:=runT_crowd_go (P:=P) (sl:=sl) (i:=A.b+j) hg (by rw[S];exact U)
 have a7:cA P A s (A.b+j):=jL v.I hj (by rw[m];rfl)
 have L:∀op∈MemOp.ofEvents (A.b+j) g.frame.fn g.frame.place #[⟨.mark (.releaseMerge ⟨A.gb,0,none⟩),false,true⟩],op.g=A.b+j:=λop r=>by obtain⟨e,_,rfl⟩:=LK r;rfl
 have y3:∀op∈MemOp.ofEvents (A.b+j) g.frame.fn g.frame.place #[⟨.mark (.releaseMerge ⟨A.gb,0,none⟩),false,true⟩],(∀a,op.act.touch?=some a->a.kind=.atomic/\BE A a.loc)/\∀a,op.act≠.mark (.release a):=λop r=>by obtain⟨e,N,rfl⟩:=LK r;simp at N;subst N;exact⟨λa ha=>by simp[MemAct.ofEvent,MemAct.touch?]at ha,λa h=>by simp[MemAct.ofEvent]at h⟩
 have z:mD (MemOp.ofEvents (A.b+j) g.frame.fn g.frame.place #[⟨.mark (.releaseMerge ⟨A.gb,0,none⟩),false,true⟩]):=λop r=>by obtain⟨e,N,rfl⟩:=LK r;simp at N;subst N;simp[MemAct.ofEvent]
 have hG:A.gb<w.heap.size:=by obtain⟨c,e,h1⟩:=v.BU;exact(zG.1 h1).1
 have hP:=Q.dp.bU (i:=A.b+j) (ad:=⟨A.gb,0,none⟩) hG o g.frame.fn g.frame.place
 have D:s.c=.none\/s.c=.fH\/∃q,s.c=.wt q:=by
  cases e:s.c with
  |none=>exact .inl rfl
  |fH=>exact .inr (.inl rfl)
  |wt p=>exact .inr (.inr ⟨p,rfl⟩)
  |kQ=>have:=(v.I.g8 (by rw[e];rfl)).2.2.2 j hj;rw[m]at this;cases this
  |gone=>have:=(v.I.g8 (by rw[e];rfl)).2.2.2 j hj;rw[m]at this;cases this
 have hI:cq A.n (s.bb j x s.sh):=v.I.yO hj (by rw[m];rfl) (by rw[u];rfl) (.inl (by rw[u,m];rfl)) (by rw[u];rfl) (by rw[u,m];rfl)
 have hL:MS.iD A.n (s.bb j x s.sh) s:=vJ hj (by rw[u,m];simp[bE.cT])
 have W:=v.bU (x:=x) (sh:=s.sh) (w':=w) hj (by rw[u];rfl) D o ⟨⟨A.b+j,g.frame.fn,g.frame.place,.mark (.releaseMerge ⟨A.gb,0,none⟩)⟩,by rw[ofEvents_eq];simp[MemAct.ofEvent],rfl,rfl⟩ z (by rw[u,m];rfl) (by rw[u,m];rfl) hI v.mu (λ_ _=>rfl) v.xY y3
 have Y:Beside (cI P A Fin Z E) s (s.bb j x s.sh) f f q (upd q (A.b+j) k) kk kk OO OO J (λl=>J l/\l≠A.b+j) w (A.b+j) g g1:=sR E hj (by rw[u,m];rfl) (λi hi=>rfl) (λi hi=>upd_ne q k hi) (λ_ _ _=>rfl) (λ_ _ _=>rfl) (λ_ hn h=>⟨h,hn⟩) (.inl λh=>h) (λ{i k O y} H=>B.mO (s:=s) (i:=i) (k:=k) (O:=O) (g:=y) H)
 refine⟨_,_,K,s.bb j x s.sh,f,upd q (A.b+j) k,kk,OO,(λl=>J l/\l≠A.b+j),(λp=>M p\/p=t.size),_,_,_,rfl,hL,?_⟩
 refine bT.step B Q hg L hP W (λl y hl H=>B.vq v hl _ _ H) Y ⟨λhl=>absurd hl (mn hj d),λ_=>⟨mn hj d,?_,?_,g2,?_,?_⟩,λhh=>absurd hh (sT hj d),λ_ hn _=>absurd (o0 hj d) hn⟩
 . show A.b+j<A.b+A.n+1;omega
 . rw[Deaf_own,o]
   show _=eT P A (s.bb j x s.sh) (A.b+j);rw[fX hj,d];rfl
 . refine .inr (.inl ⟨j,hj,rfl,?_⟩)
   rw[d];exact⟨fw,fn,tmps,todo,T,F,H⟩
 exact .inr (by rw[upd_same];exact G)
end
section
variable{P:afn}{A:cd}{Fin:aeE}{Z:Base}{s s':MS P}{f f':Nat->Node P}{q q':afh}{kk kk':afm}{OO OO':afl}{J J' M:afa}{gs:aeK}{gsz:Nat}{w w':World}{t u:Trace}{i:Nat}{g g1:afd}
def uF{c:lF}:c.fP=true↔c=.gone:=by cases c<;>simp[lF.fP]
def rv{c:lF}:c.isNone=true↔c=.none:=by cases c<;>simp[lF.isNone]
def dC.XU{M'}(h:dC P A Z s kk OO J M gsz w t)(L:gu A s s' i)(G:∀l,l<A.n->(s'.w l).owns=(s.w l).owns)(O:∀l,l<A.n->(s'.w l).jw=(s.w l).jw)(H:yu P A s')(o:s'.c.fP=s.c.fP)(b:s'.c.isNone=s.c.isNone)
 (Q:∀p,M' p->M p) (av:s.c=.gone->∀p,M p->M' p) (R:(∃p,M' p)->(s.c=.none\/s.c=.fH\/∃q,s.c=.wt q)->(s'.c=.none\/s'.c=.fH\/∃q,s'.c=.wt q)) (S:∀i,fB P A s' i↔fB P A s i) (hI:cq A.n s') (T:s'.sh=s.sh) (U:tX A.gb w' s'.gc s'.gv s'.gm) (V:MW A.gb 0 w w')
 (W:∀op∈u,(∀a,op.act.touch?=some a->(a.kind=.atomic\/(a.kind=.said/\op.g=(if s.c.isNone then 0 else A.cl)))/\BE A a.loc)/\∀a,op.act≠.mark (.release a)):dC P A Z s' kk OO J M' gsz w' (t++u):=by
 obtain⟨m1,X,c,e,c',m3,m4,_⟩:=rq V h.BU
 have z:∀i,cA P A s' i->cA P A s i:=λi C=>by
  rcases C with Y|⟨j,k,r⟩|⟨k,r⟩
  . exact .inl Y
  . exact .inr (.inl ⟨j,by rw[<-L.sp];exact k,r⟩)
  refine .inr (.inr ⟨k,λe=>r ?_⟩);exact rv.1 (by rw[b];exact rv.2 e)
 have D:∀i,cA P A s i->cA P A s' i:=λi C=>by
  rcases C with Y|⟨j,k,r⟩|⟨k,r⟩
  . exact .inl Y
  . exact .inr (.inl ⟨j,by rw[L.sp];exact k,r⟩)
  refine .inr (.inr ⟨k,λe=>r ?_⟩);exact rv.1 (by rw[<-b];exact rv.2 e)
 have a7:s'.c=.gone↔s.c=.gone:=by rw[<-uF,<-uF,o]
 refine⟨hI,by rw[L.sp,b];exact h.size,by rw[L.d];exact h.dd,H,h.Iu (λ_ l E=>⟨O l E,G l E⟩) (λop v a F=>((W op v).1 a F).2),λhd=>by rw[X _ A.d2,o];exact h.CE hd,by rw[T];exact h.mu.same (.of_heap (X _ A.d4)),U,by rw[X _ A.d4];exact h.xY,⟨c',e,m4⟩,h.iL,h.fI,λi y hy=>?_,λl E a8=>h.BV l E (by simp_all),λa8=>h.Rs λl E=>by simp_all,λc hc=>?_,
  λi=>by rw[h.hJ i];simp_all,λp hp=>?_,λhc=>(by
   obtain⟨p,k,r,B⟩:=h.oX u (a7.1 hc)
   grind),λm a F hs N i C=>h.mc u (λop v a F _ N=>?_) m a F hs N i (z i C),λm a F hs N=>?_,λi C=>h.sQ u i (z i C),h.kS u (λop v=>(W op v).2),λi a9 hn=>h.Ge i a9 (λhb=>hn (D i hb)),h.vn,h.lG,h.gq,h.la,by simp;exact aap h.n0 (adh _ _)⟩
 . obtain⟨l,f,B,I,h5,h6⟩:=h.tok i y hy
   exact⟨l,f,B,I,by grind,h6⟩
 . obtain⟨B,I⟩:=h.Rt c hc
   simp_all
 . obtain⟨k,r,B⟩:=h.ya u p (Q p hp)
   refine⟨k,r,?_⟩;rcases B with⟨B,I⟩|⟨B,I⟩
   . exact .inl ⟨B,R ⟨p,hp⟩ I⟩
   simp_all
 . grind
 rw[b];obtain⟨x,hx,K⟩:=touch_of F;rcases getElem?_append_cases hx with⟨E,ad⟩|⟨_,al⟩
 . exact(h.said m a (by rw[touchAt_of ad];exact K) hs N).app u
 rcases((W x al).1 a K).1 with k|⟨_,k⟩
 . simp_all
 rw[<-k];exact⟨m,x,hx,rfl,.inl rfl⟩
def dC.Sz(h:dC P A Z s kk OO J M gsz w t)(v:gu A s s' i)(f:∀l,l<A.n->(s'.w l).owns=(s.w l).owns)(k:∀l,l<A.n->(s'.w l).jw=(s.w l).jw)(j:yu P A s')(b:s'.c.fP=s.c.fP)(d:s'.c.isNone=s.c.isNone)
 (m:(s.c=.none\/s.c=.fH\/∃q,s.c=.wt q)->(s'.c=.none\/s'.c=.fH\/∃q,s'.c=.wt q)) (e:∀i,fB P A s' i↔fB P A s i) (x:cq A.n s') (o:s'.sh=s.sh) (p:tX A.gb w' s'.gc s'.gv s'.gm) (r:MW A.gb 0 w w')
 (y:∀op∈u,(∀a,op.act.touch?=some a->(a.kind=.atomic\/(a.kind=.said/\op.g=(if s.c.isNone then 0 else A.cl)))/\BE A a.loc)/\∀a,op.act≠.mark (.release a)):dC P A Z s' kk OO J M gsz w' (t++u):=
 h.XU v f k j b d (λ_ h=>h) (λ_ _ h=>h) (λ_=>m) e x o p r y
def U2(b:Nat)(es:aeU):Prop:=∀e∈es,((e.loc=.mark .disable\/e.loc=.mark .enable)\/∃i,(i=0\/i=0+1)/\e.loc=.cell ⟨b,i,none⟩/\e.sync=true)\/∃i,(i=0\/i=1)/\(e.loc=.mark (.read ⟨b,i,none⟩)\/e.loc=.mark (.write ⟨b,i,none⟩))
def U3{b es}(h:EvM b 0 es):U2 b es:=λe a=>.inl (h e a)
def OL(kk:afm)(OO:afl)(B:Nat)(t:Trace)(i:Nat)(u:Trace):Prop:=∀op∈u,∀a,op.act.touch?=some a->(a.kind=.atomic\/a.kind=.said)/\(a.loc.isMemory=true->NU kk OO B a.loc)/\∀n b,touchAt t n=some b->b.loc=a.loc->(b.kind=.plain\/(a.kind=.said/\b.kind=.said))->Knows t i n
def cV.OK(h:cV Z kk OO J M w t)(d:∀op∈u,op.g=i)(y:w'.heap.size=w.heap.size)(z:Calm Z w w')(hb:∀b,Kept kk OO w w' b)(A:∀op∈u,op.act.low w.heap.size)(q:OL kk OO w.heap.size t i u)
 (l:∀m op a,u[m]?=some op->op.act.touch?=some a->a.loc.isMemory=true->Told Z J M (t++u) (t.size+m) a):cV Z kk OO J M w' (t++u):=
 h.wG (λa b=>a=b) y z hb A (λa b e n x _ _ _ B=>by subst e;exact B.app u) (λj b n v h=>⟨j,rfl,h⟩) (λj b s h=>⟨j,rfl,h⟩) (λj b x h=>⟨j,rfl,h,λ_ h=>h⟩) h.kO
  (fun said=>noRace_append (h.clean said) d λn a o op c b hb C=>by
    obtain⟨f,k,D⟩:=q op c b hb;obtain⟨E,_,_,F⟩:=C
    grind)
  (λop c a o r=>(q op c a o).2.1 r) l
  (λn a o r h=>h.elim (λ⟨j,f,k⟩=>.inr (.inl ⟨j,f,k.app _⟩)) (λ⟨p,f,k⟩=>.inr (.inr (.inl ⟨p,f,k.app _⟩))))
def nv{b e}(he:((e.loc=.mark .disable\/e.loc=.mark .enable)\/∃i,(i=0\/i=0+1)/\e.loc=.cell ⟨b,i,none⟩/\e.sync=true)\/∃i,(i=0\/i=1)/\(e.loc=.mark (.read ⟨b,i,none⟩)\/e.loc=.mark (.write ⟨b,i,none⟩))):
 (∀a,(MemAct.ofEvent e).touch?=some a->(a.kind=.atomic\/a.kind=.said)/\∃i,(i=0\/i=1)/\a.loc=.cell ⟨b,i,none⟩)/\(∀a,MemAct.ofEvent e≠.mark (.release a))/\∀B,b<B->(MemAct.ofEvent e).low B:=by
 rcases he with he|⟨i,d,he⟩
 . obtain⟨g,h,j⟩:=qu he
   simp_all
 obtain⟨loc,wr,k⟩:=e;rcases he with he|he<;>simp only at he<;>subst he
 all_goals
  refine⟨λa c=>?_,by simp[MemAct.ofEvent],λB f=>by simpa[MemAct.ofEvent,MemAct.low]using f⟩;simp only[MemAct.ofEvent,MemAct.touch?,kn]at c;subst c;exact⟨.inr rfl,i,d,rfl⟩
def EB  K  (Y:bT (cI P A Fin Z K) Z s f q kk OO J M gs w t) (Q:cA P A s i) (a7:¬gF P A s i) (hg:gs[i]?=some g){es}(a8:stepG P (i==0) g w=.go g1 w' es)
 (hS:gu A s s' i) (R:∀l,l<A.n->(s'.w l).owns=(s.w l).owns) (a9:∀l,l<A.n->(s'.w l).jw=(s.w l).jw) (S:yu P A s') (F:s'.c.fP=s.c.fP) (G:s'.c.isNone=s.c.isNone) (ad:(s.c=.none\/s.c=.fH\/∃q,s.c=.wt q)->(s'.c=.none\/s'.c=.fH\/∃q,s'.c=.wt q)) (H:∀i,fB P A s' i↔fB P A s i)
 (hI:cq A.n s') (al:s'.sh=s.sh) (av:tX A.gb w' s'.gc s'.gv s'.gm) (C:MW A.gb 0 w w') (u:EvM A.gb 0 es\/(U2 A.gb es/\i=(if s.c.isNone then 0 else A.cl))) (hL:MS.iD A.n s' s)
 (hT:(i=0\/J i)\/(EvM A.gb 0 es/\∀  m   op   a ,(MemOp.ofEvents i g.frame.fn g.frame.place es)[m]?=some op->op.act.touch?=some a->Z.Shun a.loc->a.kind=.atomic->Told Z J M (t++MemOp.ofEvents i g.frame.fn g.frame.place es) (t.size+m) a))
 (T:(s.gm=0->s'.gm=0)\/(mayWake P g=true/\(g1.status=.running\/g1.status=.finished))) (hf:∀j,j≠i->f' j=f j) (hq:∀j,j≠i->q' j=q j)
 (hs:Self P (cI P A Fin Z K) s' f' q' kk OO J (t++MemOp.ofEvents i g.frame.fn g.frame.place es) i g1)  sl :Goes P A Fin Z K s gs w t sl i:=by
 have D:dC P A Z s kk OO J M gs.size w t:=Y.ex;have B:=bx (P:=P) (A:=A) (Fin:=Fin) (Z:=Z) K;have U:=runT_crowd_go (P:=P) (sl:=sl) (i:=i) hg a8;have hG:A.gb<w.heap.size:=by obtain⟨c,e,E⟩:=D.BU;grind
 have o:U2 A.gb es:=u.elim U3 (·.1);have p:∀op∈MemOp.ofEvents i g.frame.fn g.frame.place es,op.g=i:=λop d=>by obtain⟨e,_,rfl⟩:=LK d;rfl
 have v:∀op∈MemOp.ofEvents i g.frame.fn g.frame.place es,∀a,op.act.touch?=some a->a.kind=.atomic\/(a.kind=.said/\op.g=(if s.c.isNone then 0 else A.cl)):=λop d a x=>by
  obtain⟨e,r,rfl⟩:=LK d
  rcases u with u|⟨_,hi⟩
  . exact .inl ((qu (u e r)).1 a x).1
  rcases((nv (o e r)).1 a x).1 with h|h
  . exact .inl h
  simp_all
 have y1:OL kk OO w.heap.size t i (MemOp.ofEvents i g.frame.fn g.frame.place es):=λop d a x=>by
  have ay:=v op d a x;have aC:=p op d;obtain⟨e,r,rfl⟩:=LK d;obtain⟨E,n,L,z⟩:=(nv (o e r)).1 a x;have aE:BE A a.loc:=by rw[z];exact⟨rfl,.inr ⟨rfl,L⟩⟩
  refine⟨E,λ_=>by rw[z];exact D.TX L,λm b hb X N=>?_⟩
  rcases N with N|⟨aL,ax⟩
  . exact D.quiet m b hb (by simp_all) N i Q
  have h5:=D.said m b hb (by simp_all) ax
  simp_all
 have y2:∀op∈MemOp.ofEvents i g.frame.fn g.frame.place es,op.act.low w.heap.size:=λop d=>by obtain⟨e,r,rfl⟩:=LK d;exact(nv (o e r)).2.2 _ hG
 have y3:∀op∈MemOp.ofEvents i g.frame.fn g.frame.place es,(∀a,op.act.touch?=some a->(a.kind=.atomic\/(a.kind=.said/\op.g=(if s.c.isNone then 0 else A.cl)))/\BE A a.loc)/\∀a,op.act≠.mark (.release a):=λop d=>⟨λa x=>⟨v op d a x,by
  obtain⟨e,r,rfl⟩:=LK d;obtain⟨_,n,L,z⟩:=(nv (o e r)).1 a x;rw[z];exact⟨rfl,.inr ⟨rfl,L⟩⟩⟩,by
  obtain⟨e,r,rfl⟩:=LK d;exact(nv (o e r)).2.1⟩
 have y4:∀op∈MemOp.ofEvents i g.frame.fn g.frame.place es,∀a,op.act.touch?=some a->Z.Shun a.loc:=λop d a x=>by obtain⟨e,r,rfl⟩:=LK d;obtain⟨E,n,L,z⟩:=(nv (o e r)).1 a x;rw[z];exact D.vn _ ⟨rfl,.inr ⟨rfl,L⟩⟩ ⟨_,rfl,rfl⟩
 obtain⟨m1,m2,c,e,c',m3,m4,_⟩:=rq C D.BU
 have hP:=Y.dp.OK (i:=i) p m1 (D.XS C) (D.XT C) y2 y1 (λm op a E z _=>by
  rcases hT with hJ|⟨u,hT⟩
  . have N:Knows (t++MemOp.ofEvents i g.frame.fn g.frame.place es) i (t.size+m):=knows_own E (p op (acb E))
    rcases hJ with rfl|hJ
    . exact .inl N
    exact .inr (.inl ⟨i,hJ,N⟩)
  refine hT m op a E z (y4 op (acb E) a z) ?_;obtain⟨e,r,rfl⟩:=LK (acb E);exact((qu (u e r)).1 a z).1)
 have V:dC P A Z s' kk OO J M gs.size w' (t++MemOp.ofEvents i g.frame.fn g.frame.place es):=D.Sz hS R a9 S F G ad H hI al av C y3
 have I:Beside (cI P A Fin Z K) s s' f f' q q' kk kk OO OO J J w' i g g1:=oh K hS hf hq (λ_ _ _=>rfl) (λ_ _ _=>rfl) (λ_ _ h=>h) (T.imp (λh=>⟨λh0=>by grind,h⟩) id) (λ{i k O y} hA=>B.mO (s:=s) (i:=i) (k:=k) (O:=O) (g:=y) hA)
 refine⟨_,_,U,s',f',q',kk,OO,J,M,_,_,_,rfl,hL,?_⟩;refine bT.step B Y hg p hP V (λl y X hA=>?_) I hs
 have W:l≠i:=λe=>a7 (e ▸ X)
 exact B.vq V ((I.held l W).2 X) _ _ (I.Wh l _ _ _ W X hA)
def Kb{g}:∀m,m<=u.size->(∀l op,l<m->u[l]?=some op->op.act≠.mark .enable)->Deaf t g<=(t++u).deaf g (t.size+m)
 |0,_,_=>by show Deaf t g<=(t++u).deaf g t.size;rw[deaf_old (aav _)];exact aav _
 | m+1,h,a=>by
   have b:m<u.size:=by omega
   have c:(t++u)[t.size+m]?=some u[m]:=by simp_all
   have d:=Kb (g:=g) m (by omega) (λl op e=>a l op (by omega));rw[<-Nat.add_assoc,deaf_succ c];have:=a m u[m] (by omega) (by simp[b]);unfold deafStep
   grind
def Ix{es fn pos}(hd:1<=Deaf t i)(o:∀  m   op   a ,(MemOp.ofEvents i fn pos es)[m]?=some op->op.act.touch?=some a->∀(l:Nat)  b ,l<m->(MemOp.ofEvents i fn pos es)[l]?=some b->b.act≠.mark .enable):∀  m   op   a ,(MemOp.ofEvents i fn pos es)[m]?=some op->op.act.touch?=some a->Z.Shun a.loc->a.kind=.atomic->Told Z J M (t++MemOp.ofEvents i fn pos es) (t.size+m) a:=λm op a d h p n=>by
 refine Lz (i:=i) d h p n λq=>?_
 obtain⟨x,f,_,c⟩:=q;rw[act?_of (dX d)]at f;have f:op.act.touch?=some x:=f;rw[h]at f;obtain rfl:=aax f;rcases c with c|⟨j,r,s⟩
 . exact c n
 have v:op.g=i:=by obtain⟨e,_,rfl⟩:=LK (acb d);rfl
 have:j=i:=by
  have w:(t++MemOp.ofEvents i fn pos es).g? (t.size+m)=some op.g:=by simp[Trace.g?,dX d]
  simp_all
 subst this;have z:=(zG.1 d).1;have:=Kb (t:=t) (u:=MemOp.ofEvents j fn pos es) (g:=j) m (by omega) (λl b y k=>o m op _ d h l b y k);omega
end
end
section
open Go.Conc
open Go.ConcN (sumTo upd sumTo_upd upd_ne upd_same)
variable{P:afn}
def MS.jy(s:MS P)(j:Nat)(x:bE P)(gc gv gm:Nat):MS P:={s with w:=λi=>if i=j then x else s.w i,gc:=gc,gv:=gv,gm:=gm}
section
variable{s:MS P}{j n:Nat}{x:bE P}{gc gv gm:Nat}
def cj:(s.jy j x gc gv gm).w j=x:=by simp[MS.jy]
def dZ{i}(h:i≠j):(s.jy j x gc gv gm).w i=s.w i:=by simp[MS.jy,h]
def SA:(λi=>((s.jy j x gc gv gm).w i).pc)=Mu.set (λi=>(s.w i).pc) j x.pc:=by
 funext i;by_cases h:i=j
 . subst h;rw[cj,Mu.ai]
 rw[dZ h,Mu.ah _ _ h]
def Gq(F:bE P->Nat)(hj:j<n):sumTo n (λi=>F ((s.jy j x gc gv gm).w i))+F (s.w j)=sumTo n (λi=>F (s.w i))+F x:=by
 have e:(λi=>F ((s.jy j x gc gv gm).w i))=upd (λi=>F (s.w i)) j (F x):=by
  funext i;by_cases h:i=j
  . subst h;rw[cj,upd_same]
  rw[dZ h,upd_ne _ _ h]
 rw[e];have:=sumTo_upd (λi=>F (s.w i)) (F x) id hj
 simp_all
def cq.XV(I:cq n s)(hj:j<n){p}(d:s.w j=.dn p)(b:x.ok=true)(f:x.kR=false)(g:x≠.wait)(k:x.pc=.out)
 (D:gc+(s.w j).cnt=s.gc+x.cnt) (r:gv<=1) (m:gv=1->s.c.waits=true/\gm=0)
 (t:∀i,i<n->((s.jy j x gc gv gm).w i=.dn .d5\/(s.jy j x gc gv gm).w i=.dn .d6)->gv=1/\gc=0)
 (o:∀i l,i<n->l<n->((s.jy j x gc gv gm).w i).last=true->((s.jy j x gc gv gm).w l).last=true->i=l)
 (u:∀i,i<n->(s.jy j x gc gv gm).w i=.dn .d7->gv=0/\gc=0/\gm=0/\s.c.waits=true)
 (v:gm<=1/\(gm=1->s.c.waits=true/\gv=0/\gc=0/\∀i,i<n->((s.jy j x gc gv gm).w i).last=false))
 (y:s.c.waits=true->gv=0->gm=0->∃i,i<n/\(s.jy j x gc gv gm).w i=.dn .d7)
 (z:gv=1->gc=0->∃i,i<n/\((s.jy j x gc gv gm).w i=.dn .d5\/(s.jy j x gc gv gm).w i=.dn .d6)):cq n (s.jy j x gc gv gm):=by
 refine⟨?_,r,m,t,o,u,v,y,z,λh=>?_,I.g9,λi a=>?_,I.Wf,I.sp,λi a=>?_,?_,λhd h i a=>?_,?_⟩
 . have q:=Gq (s:=s) (x:=x) (gc:=gc) (gv:=gv) (gm:=gm) bE.cnt hj
   have:=I.g1;show gc=sumTo n (λi=>((s.jy j x gc gv gm).w i).cnt)+s.ms.pend;omega
 . have:=(I.g8 h).2.2.2 j hj
   simp_all
 . by_cases e:i=j
   . subst e;rw[cj];exact b
   rw[dZ e];exact I.ok i a
 . by_cases e:i=j
   . subst e
     rw[cj,f];have:=I.idle i a;rw[d]at this;exact this
   rw[dZ e];exact I.idle i a
 . have:=I.ms
   show match s.ms with
   |.add l=>s.sp+l=n/\s.c=.none
   |.bP l p=>s.sp+l=n/\s.c=.none/\1<=l/\(p=.a0\/p=.a2\/p=.a4\/p=.ae)
   |.spawn l=>s.sp+l+1=n/\s.c=.none
   |.recv=>s.sp=n/\s.c≠.none
   |.parked=>s.sp=n/\s.c≠.none/\s.c≠.gone/\∀i,i<n->(s.jy j x gc gv gm).w i≠.wait
   |.off=>s.sp=n/\s.c≠.none
   cases e:s.ms with
   | parked=>
     rw[e]at this;obtain⟨A,B,C,E⟩:=this;refine⟨A,B,C,λi a=>?_⟩;by_cases e:i=j
     . subst e;rw[cj];exact g
     rw[dZ e];grind
   |_=>rw[e]at this;exact this
 . have:=I.early hd h j hj
   rw[d]at this;cases this
 rw[SA,k];have e:=kT (λi=>(s.w i).pc) j;rw[show(s.w j).pc=.out by rw[d];rfl]at e;rw[e];exact I.mu
inductive EC(s:MS P):J1->bE P->Nat->Nat->afa
 |ZX:s.gc=1->s.gv=1->EC s .d4 (.dn .d5) 0 1 s.gm
 |d4 (k:Nat):s.gc=k+1 -> ¬(k=0/\s.gv=1)->EC s .d4 .gone k s.gv s.gm
 |d5:EC s .d5 (.dn .d6) s.gc s.gv s.gm
 |d6:EC s .d6 (.dn .d7) s.gc 0 s.gm
 |d7:EC s .d7 .gone s.gc s.gv (s.gm+1)
def cq.done(I:cq n s)(hj:j<n){p}(b:s.w j=.dn p)(h:EC s p x gc gv gm):cq n (s.jy j x gc gv gm):=by
 have OM:∀{i:Nat},(s.w i).last=true->s.w i=.dn .d5\/s.w i=.dn .d6\/s.w i=.dn .d7:=λ{i} h=>by
  cases e:s.w i with
  |dn p=>cases p<;>simp_all [bE.last]
  |_=>rw[e]at h;simp[bE.last]at h
 have t:∀{i:Nat},i<n->(s.w i).last=true->s.gc=0:=λ{i} a h=>by
  rcases OM h with h|h|h
  . exact(I.g3 i a (.inl h)).2
  . exact(I.g3 i a (.inr h)).2
  exact(I.g4 i a h).2.1
 cases h with
 | ZX u v=>
   refine I.XV hj b rfl rfl (by simp) rfl (by rw[b,u];rfl) (by omega) (λ_=>I.BH v) (λi a h=>⟨rfl,rfl⟩) (λi l a g h d=>?_) (λi a h=>?_) ⟨I.g5.1,λh=>?_⟩ (λ_ h=>by omega) (λ_ _=>⟨j,hj,.inl cj⟩)
   . by_cases e:i=j
     . by_cases q:l=j
       . rw[e,q]
       rw[dZ q]at d;simp_all
     rw[dZ e]at h;simp_all
   . by_cases e:i=j
     . subst e;rw[cj]at h;cases h
     rw[dZ e]at h;have:=(I.g4 i a h).2.1;omega
   have:=(I.g5.2 h).2.1;omega
 | d4 k u v=>
   refine I.XV hj b rfl rfl (by simp) rfl (by rw[b,u];rfl) I.g2 I.BH (λi a h=>?_) (λi l a g h d=>?_) (λi a h=>?_) ⟨I.g5.1,λh=>?_⟩ (λh d y=>?_) (λh d=>absurd ⟨d,h⟩ v)
   . by_cases e:i=j
     . subst e;rw[cj]at h;simp_all
     rw[dZ e]at h;have:=(I.g3 i a h).2;omega
   . by_cases e:i=j
     . subst e;rw[cj]at h;cases h
     rw[dZ e]at h;simp_all
   . by_cases e:i=j
     . subst e;rw[cj]at h;cases h
     rw[dZ e]at h;have:=(I.g4 i a h).2.1;omega
   . have:=(I.g5.2 h).2.2.1;omega
   obtain⟨i,a,A⟩:=I.g6 h d y;have:=(I.g4 i a A).2.1;omega
 | d5=>
   obtain⟨r,o⟩:=I.g3 j hj (.inl b);obtain⟨m,m0⟩:=I.BH r
   have c:∀{i:Nat},((s.jy j (.dn .d6) s.gc s.gv s.gm).w i).last=(s.w i).last:=λ{i}=>by
    by_cases e:i=j
    . subst e;rw[cj,b];rfl
    rw[dZ e]
   refine I.XV hj b rfl rfl (by simp) rfl (by rw[b];rfl) I.g2 I.BH (λi a h=>⟨r,o⟩) (λi l a g h d=>?_) (λi a h=>?_) ⟨I.g5.1,λh=>?_⟩ (λh d=>by omega) (λ_ _=>⟨j,hj,.inr cj⟩)
   . rw[c]at h d;exact I.J7 i l a g h d
   . by_cases e:i=j
     . subst e;rw[cj]at h;cases h
     rw[dZ e]at h;exact I.g4 i a h
   omega
 | d6=>
   obtain⟨r,o⟩:=I.g3 j hj (.inr b);obtain⟨m,m0⟩:=I.BH r;have g:(s.w j).last=true:=by rw[b];rfl
   have c:∀{i:Nat},((s.jy j (.dn .d7) s.gc 0 s.gm).w i).last=(s.w i).last:=λ{i}=>by
    by_cases e:i=j
    . subst e;rw[cj,b];rfl
    rw[dZ e]
   refine I.XV hj b rfl rfl (by simp) rfl (by rw[b];rfl) (by omega) (λh=>by omega) (λi a h=>?_) (λi l a g h d=>?_) (λi a h=>⟨rfl,o,m0,m⟩) ⟨I.g5.1,λh=>by omega⟩ (λ_ _ _=>⟨j,hj,cj⟩) (λh=>by omega)
   . by_cases e:i=j
     . subst e;rw[cj]at h;simp_all
     rw[dZ e]at h;have z:(s.w i).last=true:=by rcases h with h|h<;>rw[h]<;>rfl
     exact absurd (I.J7 i j a hj z g) e
   rw[c]at h d;exact I.J7 i l a g h d
 | d7=>
   obtain⟨B,o,m0,m⟩:=I.g4 j hj b;have g:(s.w j).last=true:=by rw[b];rfl
   have f:∀{i:Nat},i<n->((s.jy j .gone s.gc s.gv (s.gm+1)).w i).last=false:=λ{i} a=>by
    by_cases e:i=j
    . subst e;rw[cj];rfl
    rw[dZ e];cases q:(s.w i).last with
    |false=>rfl
    |true=>exact absurd (I.J7 i j a hj q g) e
   refine I.XV hj b rfl rfl (by simp) rfl (by rw[b];rfl) I.g2 (λh=>by omega) (λi a h=>?_) (λi l a g h d=>?_) (λi a h=>?_) ⟨by omega,λh=>⟨m,B,o,λi a=>f a⟩⟩ (λ_ _ h=>by omega) (λh=>by omega)
   . have:=f a
     rcases h with h|h<;>rw[h]at this<;>cases this
   . simp_all
   grind
def lF.U4(c:lF)  a b :c.cT a<=c.cT b+2:=by
 cases c with
 | wt p=>
   cases p with
   |w2 k=>simp only[lF.cT];grind
   |_=>simp[lF.cT]
 |_=>simp[lF.cT]
def LA(hj:j<n){p}(d:s.w j=.dn p)(h:EC s p x gc gv gm):MS.iD n (s.jy j x gc gv gm) s:=by
 have e:=Gq (s:=s) (x:=x) (gc:=gc) (gv:=gv) (gm:=gm) bE.cT hj;refine .inl ?_;show s.ms.cT+sumTo n (λi=>((s.jy j x gc gv gm).w i).cT)+s.c.cT gc<s.ms.cT+sumTo n (λi=>(s.w i).cT)+s.c.cT s.gc;rw[d]at e;have:=lF.U4 s.c gc s.gc;cases h with
 |ZX f g=>have a:(bE.dn (P:=P) .d4).cT=10:=rfl;have b:(bE.dn (P:=P) .d5).cT=4:=rfl;omega
 |d4 k f g=>have a:(bE.dn (P:=P) .d4).cT=10:=rfl;have b:(bE.gone (P:=P)).cT=0:=rfl;omega
 |d5=>have a:(bE.dn (P:=P) .d5).cT=4:=rfl;have b:(bE.dn (P:=P) .d6).cT=3:=rfl;omega
 |d6=>have a:(bE.dn (P:=P) .d6).cT=3:=rfl;have b:(bE.dn (P:=P) .d7).cT=2:=rfl;omega
 |d7=>have a:(bE.dn (P:=P) .d7).cT=2:=rfl;have b:(bE.gone (P:=P)).cT=0:=rfl;omega
end
end
section
open Go.Conc
open Go.ConcN (sumTo upd sumTo_upd upd_ne upd_same)
def AE{e}(h:MemAct.ofEvent e=.mark .enable):e.loc=.mark .enable:=by
 obtain⟨loc,wr,a⟩:=e;cases loc with
 |mark m=>cases m<;>simp_all [MemAct.ofEvent]
 |cell b=>simp[MemAct.ofEvent]at h
 |obj r=>cases wr<;>cases a<;>simp[MemAct.ofEvent]at h
 |_=>simp[MemAct.ofEvent]at h
def o6{i fn pos es}(h:∀e∈es,e.loc≠.mark .enable):∀  m   op   a ,(MemOp.ofEvents i fn pos es)[m]?=some op->op.act.touch?=some a->∀(l:Nat)  b ,l<m->(MemOp.ofEvents i fn pos es)[l]?=some b->b.act≠.mark .enable:=λm op a _ _ l b _ c d=>by obtain⟨e,f,rfl⟩:=LK (acb c);exact h e f (AE d)
def LB{i fn pos ad}:∀  m   op   a ,(MemOp.ofEvents i fn pos (semEvents ad))[m]?=some op->op.act.touch?=some a->∀(l:Nat)  c ,l<m->(MemOp.ofEvents i fn pos (semEvents ad))[l]?=some c->c.act≠.mark .enable:=λm op a d f l c e b=>by
 rw[ofEvents_eq]at d b;simp only[semEvents]at d b
 match m,l,e with
 |0,l,e=>omega
 |1,0,_=>simp at b;subst b;simp[MemAct.ofEvent]
 |2,0,_=>simp at b;subst b;simp[MemAct.ofEvent]
 |2,1,_=>simp at b;subst b;simp[MemAct.ofEvent]
 |3,l,_=>simp at d;subst d;simp[MemAct.ofEvent,MemAct.touch?]at f
 |m+4,l,_=>simp at d
def ry:∀  n  {F},(∀l,l<n->F l<=1)->sumTo n F<=n
 |0,_,_=>aav _
 | n+1,F,h=>by
   have a:=ry n (F:=F) (λl b=>h l (by omega));have c:=h n (by omega);simp only[sumTo];omega
section
variable{P:afn}{A:cd}{Fin:aeE}{Z:Base}{s:MS P}{f:Nat->Node P}{q:afh}{kk:afm}{OO:afl}{J M:afa}{gs:aeK}{w w':World}{t u:Trace}{j:Nat}{x:bE P}{gc gv gm:Nat}{g g1:afd}
def Iy{p}(h:EC s p x gc gv gm):x.jK=true/\x.owns=false/\x.busy=false/\(bE.dn (P:=P) p).busy=false/\(bE.dn (P:=P) p).deaf=1/\(x=.gone\/∃a,x=.dn a/\x.deaf=1)/\x.jw=true:=by cases h<;>simp[bE.jK,bE.owns,bE.busy,bE.deaf,bE.jw]
def vK  r  (E:bT (cI P A Fin Z r) Z s f q kk OO J M gs w t) (hj:j<A.n){p}(d:s.w j=.dn p) (W:gs[A.b+j]?=some g){es}(X:stepG P false g w=.go g1 w' es) (F:EC s p x gc gv gm)
 (G:tX A.gb w' gc gv gm) (H:MW A.gb 0 w w') (u:EvM A.gb 0 es) (K:deafBehind 1 es=1)
 (Y:∀  m   op   a ,(MemOp.ofEvents (A.b+j) g.frame.fn g.frame.place es)[m]?=some op->op.act.touch?=some a->∀(l:Nat)  v ,l<m->(MemOp.ofEvents (A.b+j) g.frame.fn g.frame.place es)[l]?=some v->v.act≠.mark .enable)
 (y:(s.gm=0->gm=0)\/(mayWake P g=true/\(g1.status=.running\/g1.status=.finished)))
 (hs:(∃C,x=.dn C/\∃n D,kB P (mZ A) n g1 D/\J8 P A j (.dn C) (kk (A.b+j)) (OO (A.b+j)) D)\/(x=.gone/\∃m,QuitsD P m 1 g1))  sl :Goes P A Fin Z r s gs w t sl (A.b+j):=by
 have L:dC P A Z s kk OO J M gs.size w t:=E.ex;have hb:=A.hb;have a7:(A.b+j==0)=false:=by simp;omega
 obtain⟨f1,f2,f3,f4,f5,f6,f7⟩:=Iy F;have N:=o0 (P:=P) (A:=A) (s:=s) hj d
 have O:Deaf t (A.b+j)=1:=by obtain⟨_,_,Q,_⟩:=E.walk _ N;rw[Q];show eT P A s (A.b+j)=1;rw[fX hj,d];exact f5
 have c:(s.jy j x gc gv gm).w j=x:=cj
 have k:∀l,((s.jy j x gc gv gm).w l).busy=(s.w l).busy:=λl=>by
  by_cases e:l=j
  . simp_all
  rw[dZ e]
 have hS:gu A s (s.jy j x gc gv gm) (A.b+j):=⟨λl _ S=>dZ (by omega),λ_=>rfl,λ_=>rfl,rfl,rfl,.inl λl _=>by
  by_cases e:l=j
  . subst e;rw[cj,d,f1];rfl
  rw[dZ e]⟩
 have hI:=L.I.done hj d F;have hL:=LA hj d F;have z:∀fn pos,Deaf (t++MemOp.ofEvents (A.b+j) fn pos es) (A.b+j)=1:=λfn pos=>by rw[Deaf_own,O];exact K
 have go:∀(R:Nat),Self P (cI P A Fin Z r) (s.jy j x gc gv gm) f (upd q (A.b+j) R) kk OO J (t++MemOp.ofEvents (A.b+j) g.frame.fn g.frame.place es) (A.b+j) g1->Goes P A Fin Z r s gs w t sl (A.b+j):=λR o=>
  EB r E (jL L.I hj (by rw[d];rfl)) (sT hj d) W (by grind) hS (λl _=>by
   by_cases e:l=j
   . subst e;rw[cj,d,f2];rfl
   . rw[dZ e]) (λl _=>by
   by_cases e:l=j
   . subst e;rw[cj,d,f7];rfl
   rw[dZ e]) L.off rfl rfl id (λi=>by unfold fB;simp only[k];rfl) hI rfl G H (.inl u) hL (.inr ⟨u,Ix (by omega) Y⟩) y (λ_ _=>rfl) (λi hi=>upd_ne q R hi) o sl
 rcases hs with⟨C,rfl,n,D,B,a8⟩|⟨rfl,m,hq⟩
 . refine go n ⟨λS=>absurd S (mn hj c),λ_=>⟨mn hj c,?_,?_,D,?_,?_⟩,λhh=>absurd hh (sT hj c),λ_ hn _=>absurd (o0 hj c) hn⟩
   . show A.b+j<A.b+A.n+1;omega
   . rw[z]
     show 1=eT P A (s.jy j (.dn C) gc gv gm) (A.b+j);rw[fX hj,c]
     simp_all
   . exact .inr (.inl ⟨j,hj,rfl,by simp_all⟩)
   exact .inr (by rw[upd_same];exact B)
 have nl:¬eD P A (s.jy j .gone gc gv gm) (A.b+j):=by
  rintro(⟨e,_⟩|⟨l,T,U,V⟩|⟨e,_⟩)
  . omega
  . simp_all
  omega
 have nw:¬iK P A (s.jy j .gone gc gv gm) (A.b+j):=by
  rintro(⟨e,_⟩|⟨l,T,U,V⟩|⟨e,_⟩)
  . omega
  . simp_all
  omega
 have nh:¬gF P A (s.jy j .gone gc gv gm) (A.b+j):=by
  rintro(⟨e,_⟩|⟨l,T,U,V⟩)
  . omega
  simp_all
 exact go m ⟨λh=>absurd h nl,λh=>absurd h nw,λh=>absurd h nh,λ_ _ _=>⟨by omega,by rw[upd_same,z];exact hq⟩⟩
variable(C:iV P A.ng)(X:jH P A.ng)
def SB{n b kind cs g}(C:iV P n)(X:jH P n)(h:tY P n b kind .d7 cs g):mayWake P g=true:=by
 obtain⟨c,y,fr,f,⟨rfl,l⟩,m,i,j,rfl⟩:=h;have d:=Ig (y:=y) (a:=true) (by simp_all);obtain⟨e,k⟩:=C.d9 b (Fl.of y);rw[d]at e k;exact Ez i e X.qU
include C X in
def SC  y  (B:bT (cI P A Fin Z y) Z s f q kk OO J M gs w t) (hj:j<A.n){p}(r:s.w j=.dn p) (E:gs[A.b+j]?=some g) (L:J8 P A j (.dn p) (kk (A.b+j)) (OO (A.b+j)) g)  sl :Goes P A Fin Z y s gs w t sl (A.b+j):=by
 have z:dC P A Z s kk OO J M gs.size w t:=B.ex;have N:=z.I.ok j hj;rw[r]at N;have D:=L;obtain⟨fw,fn,tmps,todo,F,u,O⟩:=L;have v:=z.gr;have hn:=A.hn;have nx:∀{p' g1},jI P A.ng A.gb .deferred (mZ A) p' [mH P fw tmps todo,de P] g1->∃n g2,kB P (mZ A) n g1 g2/\J8 P A j (.dn p') (kk (A.b+j)) (OO (A.b+j)) g2:=λ⟨_,g2,⟨n,hs⟩,hA⟩=>⟨n,g2,hs,fw,fn,tmps,todo,F,u,hA⟩
 have cell:∀(i:Nat),(i=0\/i=1)->∀wr,EvM A.gb 0 #[⟨.cell ⟨A.gb,i,none⟩,wr,true⟩]:=λi hi wr e d=>by simp at d;subst d;exact .inr ⟨i,by simpa using hi,rfl,rfl⟩
 have x:EvM A.gb 0 #[⟨.cell ⟨A.gb,0,none⟩,false,true⟩,⟨.cell ⟨A.gb,0,none⟩,true,true⟩]:=λe d=>by simp at d;rcases d with rfl|rfl<;>exact .inr ⟨0,.inl rfl,rfl,rfl⟩
 have Q:EvM A.gb 0 (semEvents ⟨A.gb,1,none⟩):=λe d=>by
  simp[semEvents]at d
  rcases d with rfl|rfl|rfl|rfl
  . exact .inl (.inl rfl)
  . exact .inr ⟨1,.inr rfl,rfl,rfl⟩
  . exact .inr ⟨1,.inr rfl,rfl,rfl⟩
  exact .inl (.inr rfl)
 have R:∀l,l<A.n->(s.w l).cnt<=1:=λl _=>by
  cases e:s.w l with
  |dn p=>cases p<;>simp[bE.cnt]
  |_=>simp[bE.cnt]
 cases p<;>simp only[bE.ok,aal]at N
 case d1=>exact Sx C X y B hj r E D sl
 case d2=>exact Sw C X y B hj r E D sl
 case d4=>
  have a7:1<=s.gc:=by
   have h1:=z.I.g1;have:(s.w j).cnt<=sumTo A.n (λj=>(s.w j).cnt):=Go.ConcN.le_sumTo (f:=λj=>(s.w j).cnt) hj
   rw[r]at this;have e:(bE.dn (P:=P) .d4).cnt=1:=rfl;omega
  have a8:s.gc<=A.n+1:=by
   have h1:=z.I.g1;have h2:sumTo A.n (λj=>(s.w j).cnt)<=A.n:=ry A.n R
   have h3:s.ms.pend<=1:=by cases s.ms<;>simp[sd.pend];split<;>omega
   omega
  obtain⟨k,U⟩:∃k,s.gc=k+1:=⟨s.gc-1,by omega⟩
  have a:=v;rw[U]at a;obtain⟨g1,w',o,rfl,c,G⟩:=ZG (Wd:=mZ A) (main:=false) C X F u a (by omega) z.I.g2 O
  have H:MW A.gb 0 w (w.setCell ⟨A.gb,0,none⟩ (.int .u64 (fL k s.gv))):=⟨⟨.refl _,rfl⟩,.inr ⟨0,_,.inl rfl,rfl,rfl⟩⟩
  rcases G with⟨V,hv,S⟩|⟨W,Y⟩
  . subst V
    rw[hv]at c o H;exact vK y B hj r E o (.ZX U hv) c H x rfl (o6 (λe d=>by simp at d;rcases d with rfl|rfl<;>simp)) (.inl id) (.inl ⟨_,rfl,nx S⟩) sl
  exact vK y B hj r E o (.d4 k U W) c H x rfl (o6 (λe d=>by simp at d;rcases d with rfl|rfl<;>simp)) (.inl id) (.inr ⟨rfl,Y⟩) sl
 case d5=>obtain⟨v1,K⟩:=z.I.g3 j hj (.inl r);have a:=v;rw[v1,K]at a;obtain⟨g1,o,S⟩:=ZH (Wd:=mZ A) (main:=false) C X a O;exact vK y B hj r E o .d5 v (bC rfl) (cell 0 (.inl rfl) false) rfl (o6 (λe d=>by simp at d;subst d;simp)) (.inl id) (.inl ⟨_,rfl,nx S⟩) sl
 case d6=>obtain⟨v1,K⟩:=z.I.g3 j hj (.inr r);have a:=v;rw[v1,K]at a;obtain⟨g1,w',o,rfl,c,S⟩:=ZI (Wd:=mZ A) (main:=false) C X a O;exact vK y B hj r E o .d6 (by rw[K];exact c) (⟨⟨.refl _,rfl⟩,.inr ⟨0,_,.inl rfl,rfl,rfl⟩⟩) (cell 0 (.inl rfl) true) rfl (o6 (λe d=>by simp at d;subst d;simp)) (.inl id) (.inl ⟨_,rfl,nx S⟩) sl
 case d7=>
  obtain⟨v0,K,m0,a9⟩:=z.I.g4 j hj r;have a:=v;rw[v0,K]at a;have ad:=z.I.g5.1;obtain⟨g1,w',o,rfl,c,Y⟩:=ZJ (Wd:=mZ A) (main:=false) C X F u a (by omega) O
  obtain⟨m,hq⟩:=Y;have T:g1.status=.running\/g1.status=.finished:=by rcases hq.status with h|h<;>simp[h]
  exact vK y B hj r E o .d7 (by rw[K,v0];exact c) (⟨⟨.refl _,rfl⟩,.inr ⟨1,_,.inr rfl,rfl,rfl⟩⟩) Q rfl LB (.inr ⟨SB C X O,T⟩) (.inr ⟨rfl,m,hq⟩) sl
end
end
section
open Go.Conc
open Go.ConcN (sumTo upd sumTo_upd upd_ne upd_same)
variable{P:afn}
def MS.oi(s:MS P)(c:lF)(gv gm:Nat):MS P:={s with c:=c,gv:=gv,gm:=gm}
section
variable{s:MS P}{n:Nat}{c:lF}{gv gm:Nat}
def OM{x:bE P}(h:x.last=true):x=.dn .d5\/x=.dn .d6\/x=.dn .d7:=by
 cases x with
 |dn p=>cases p<;>simp_all [bE.last]
 |_=>simp[bE.last]at h
def cq.calm(I:cq n s)(h:s.c.waits=false):s.gv=0/\s.gm=0/\∀j,j<n->(s.w j).last=false:=by
 have b:s.gv=0:=by
  have:=I.g2;by_cases e:s.gv=1
  . have:=(I.BH e).1;simp_all
  omega
 refine⟨b,?_,λj a=>?_⟩
 . have:=I.g5.1
   by_cases e:s.gm=1
   . have:=(I.g5.2 e).1;simp_all
   omega
 cases e:(s.w j).last with
 |false=>rfl
 | true=>
   rcases OM e with e|e|e
   . have:=(I.g3 j a (.inl e)).1;omega
   . have:=(I.g3 j a (.inr e)).1;omega
   have:=(I.g4 j a e).2.2.2;simp_all
def cq.XW(I:cq n s)(h:s.c≠.none):s.sp=n:=by
 have:=I.ms
 grind
def cq.Gr(I:cq n s)(h:s.c≠.none)(l:s.gc=0)(g:∀j,j<n->(s.w j).last=false):∀j,j<n->s.w j=.gone:=λj a=>by
 have m:=I.g1;have o:(s.w j).cnt<=sumTo n (λj=>(s.w j).cnt):=Go.ConcN.le_sumTo (f:=λj=>(s.w j).cnt) a;have b:=I.idle j a;rw[I.XW h]at b;have i:=g j a;have k:=I.ok j a;have d:(s.w j).cnt=0:=by omega
 cases e:s.w j with
 |idle=>rw[e]at b;have:=b.1 rfl;omega
 |dn p=>rw[e]at i k d;cases p<;>simp_all [bE.last,bE.ok,bE.cnt]
 |gone=>rfl
 |_=>rw[e]at d;simp[bE.cnt]at d
inductive uG(s:MS P):lF->lF->Nat->afa
 |call:uG s .fH (.wt .w0) s.gv s.gm
 |w0:uG s (.wt .w0) (.wt .w1) s.gv s.gm
 |w1z:s.gc=0->uG s (.wt .w1) (.wt .we) s.gv s.gm
 |w1:s.gc≠0->uG s (.wt .w1) (.wt (.w2 s.gc)) s.gv s.gm
 |w2h:uG s (.wt (.w2 s.gc)) (.wt .w3) 1 s.gm
 |ZY (k:Nat):s.gc≠k->uG s (.wt (.w2 k)) (.wt .w1) s.gv s.gm
 |w3:uG s (.wt .w3) (.wt .w4) s.gv s.gm
 |w4:s.gm≠0->uG s (.wt .w4) (.wt .w5) s.gv (s.gm-1)
 |w5:uG s (.wt .w5) (.wt .we) s.gv s.gm
 |we:uG s (.wt .we) (.wt .wa) s.gv s.gm
 |wa:uG s (.wt .wa) .kQ s.gv s.gm
def cq.SD(I:cq n s)(v:s.c≠.none)(a:c≠.none)(e:c≠.gone)(b:c.ok=true)(f:gv<=1)(d:gv=1->c.waits=true/\gm=0)
 (g:∀j,j<n->(s.w j=.dn .d5\/s.w j=.dn .d6)->gv=1/\s.gc=0) (m:∀j,j<n->s.w j=.dn .d7->gv=0/\s.gc=0/\gm=0/\c.waits=true)
 (o:gm<=1/\(gm=1->c.waits=true/\gv=0/\s.gc=0/\∀j,j<n->(s.w j).last=false)) (q:c.waits=true->gv=0->gm=0->∃j,j<n/\s.w j=.dn .d7)
 (r:gv=1->s.gc=0->∃j,j<n/\(s.w j=.dn .d5\/s.w j=.dn .d6)) (t:c.OD=true->s.gc=0/\gv=0/\gm=0/\∀j,j<n->s.w j=.gone) (u:∀k,c=.wt (.w2 k)->k≠0):cq n (s.oi c gv gm):=by
 refine⟨I.g1,f,d,g,I.J7,m,o,q,r,t,u,I.ok,b,I.sp,I.idle,?_,λ_ h=>absurd h a,I.mu⟩;have:=I.ms
 show match s.ms with
  |.add l=>s.sp+l=n/\c=.none
  |.bP l p=>s.sp+l=n/\c=.none/\1<=l/\(p=.a0\/p=.a2\/p=.a4\/p=.ae)
  |.spawn l=>s.sp+l+1=n/\c=.none
  |.recv=>s.sp=n/\c≠.none
  |.parked=>s.sp=n/\c≠.none/\c≠.gone/\∀i,i<n->s.w i≠.wait
  |.off=>s.sp=n/\c≠.none
 grind
def cq.clo(I:cq n s){d}(l:s.c=d)(h:uG s d c gv gm):cq n (s.oi c gv gm):=by
 have calm:d.waits=false->c.waits=false->d≠.none->c≠.none->c≠.gone->c.ok=true->gv=s.gv->gm=s.gm->(c.OD=true->s.gc=0)->(∀k,c=.wt (.w2 k)->k≠0)->cq n (s.oi c gv gm):=by
  intro z A B q r t u v p m;subst u v;obtain⟨g,m0,b⟩:=I.calm (by simp_all)
  have e:s.c≠.none:=by simp_all
  refine I.SD e q r t I.g2 (λh=>by omega) I.g3 (λj a h=>?_) ⟨by omega,λh=>by omega⟩ (λh=>by simp_all) I.g7 (λh=>⟨p h,g,m0,I.Gr e (p h) b⟩) m
  have:=b j a;rw[h]at this;cases this
 have g8:d.OD=true->s.gc=0:=λh=>(I.g8 (by simp_all)).1
 cases h with
 |call=>exact calm rfl rfl (by simp) (by simp) (by simp) rfl rfl rfl (λh=>by cases h) (λk h=>by cases h)
 |w0=>exact calm rfl rfl (by simp) (by simp) (by simp) rfl rfl rfl (λh=>by cases h) (λk h=>by cases h)
 |w1z i=>exact calm rfl rfl (by simp) (by simp) (by simp) rfl rfl rfl (λ_=>i) (λk h=>by cases h)
 |w1 i=>exact calm rfl rfl (by simp) (by simp) (by simp) rfl rfl rfl (λh=>by cases h) (λk h=>by simp_all)
 |ZY k i=>exact calm rfl rfl (by simp) (by simp) (by simp) rfl rfl rfl (λh=>by cases h) (λk h=>by cases h)
 |w5=>exact calm rfl rfl (by simp) (by simp) (by simp) rfl rfl rfl (λ_=>g8 rfl) (λk h=>by cases h)
 |we=>exact calm rfl rfl (by simp) (by simp) (by simp) rfl rfl rfl (λ_=>g8 rfl) (λk h=>by cases h)
 |wa=>exact calm rfl rfl (by simp) (by simp) (by simp) rfl rfl rfl (λ_=>g8 rfl) (λk h=>by cases h)
 | w2h=>
   obtain⟨g,m0,b⟩:=I.calm (by rw[l];rfl)
   have w:=I.g9 s.gc l;refine I.SD (by grind) (by simp) (by simp) rfl (by omega) (λ_=>⟨rfl,m0⟩) (λj a h=>?_) (λj a h=>?_) ⟨by omega,λh=>by omega⟩ (λ_ h=>by omega) (λ_ h=>absurd h w) (λh=>by cases h) (λk h=>by cases h)
   . have:=(I.g3 j a h).1;omega
   have:=b j a;rw[h]at this;cases this
 | w3=>
   have x:s.c.waits=true:=by rw[l];rfl
   refine I.SD (by grind) (by simp) (by simp) rfl I.g2 (λh=>⟨rfl,(I.BH h).2⟩) I.g3 (λj a h=>?_) ⟨I.g5.1,λh=>⟨rfl,(I.g5.2 h).2⟩⟩ (λ_=>I.g6 x) I.g7 (λh=>by cases h) (λk h=>by cases h)
   have:=I.g4 j a h;exact⟨this.1,this.2.1,this.2.2.1,rfl⟩
 | w4 i=>
   have o:s.gm=1:=by have:=I.g5.1;omega
   obtain⟨y,g,f,b⟩:=I.g5.2 o;have e:s.c≠.none:=by grind
   refine I.SD e (by simp) (by simp) rfl I.g2 (λh=>by omega) I.g3 (λj a h=>?_) ⟨by omega,λh=>by omega⟩ (λh=>by cases h) I.g7 (λ_=>⟨f,g,by omega,I.Gr e f b⟩) (λk h=>by cases h)
   have:=b j a;rw[h]at this;cases this
def Gs{a}(b:s.c=a)(h:uG s a c gv gm):MS.iD n (s.oi c gv gm) s:=by
 refine .inl ?_;show s.ms.cT+sumTo n (λi=>(s.w i).cT)+c.cT s.gc<s.ms.cT+sumTo n (λi=>(s.w i).cT)+s.c.cT s.gc;rw[b]
 have:c.cT s.gc<a.cT s.gc:=by
  cases h with
  |ZY k d=>simp only[lF.cT];simp_all
  |_=>simp[lF.cT]
 omega
end
end
open Go.Conc
open Go.ConcN (sumTo upd sumTo_upd upd_ne upd_same)
section
variable{P:afn}{A:cd}{Fin:aeE}{Z:Base}{s:MS P}{f:Nat->Node P}{q:afh}{kk:afm}{OO:afl}{J M:afa}{gs:aeK}{w w':World}{t u:Trace}{c:lF}{p:J1}{gv gm:Nat}{g g1:afd}
def xd(e:s.c=.wt p):iK P A s A.cl:=.inr (.inr ⟨rfl,by simp_all⟩)
def ED{A:cd}(h:A.cl=0):A.dir=true:=by simp[cd.dir,h]
def EE(hd:A.dir=false)(h:s.ms≠.off):yu P A s:=⟨λe=>by simp_all,λe=>by simp_all,λ_=>h⟩
def EF(b:yu P A s)(e:s.c=.wt p):¬eD P A s A.cl:=by
 have:=A.hb;rintro(⟨h,a⟩|⟨l,d,f,a⟩|⟨_,a⟩)
 . rw[b.1 (ED h) (by rw[e];simp)]at a;exact a
 . omega
 simp_all
def tC(b:yu P A s):¬gF P A s A.cl:=by
 have:=A.hb;rintro(⟨h,a⟩|⟨l,c,d,a⟩)
 . exact(b.2.1 (ED h)).2.1 a
 omega
def vL(a:yu P A s)(e:s.c=.wt p):eT P A s A.cl=vH p:=by
 have:=A.hb;unfold eT;by_cases h:A.cl=0
 . rw[Rp h,a.1 (ED h) (by rw[e];simp),e]
 simp_all
def Kc(h:s.c≠.none):cA P A s A.cl:=.inr (.inr ⟨rfl,h⟩)
def LC{a}(h:uG s a c gv gm):a.fP=false/\c.fP=false/\a.isNone=false/\c.isNone=false/\a.busy=true/\c.busy=true:=by cases h<;>simp[lF.fP,lF.isNone,lF.busy]
def ON:gu A s (s.oi c gv gm) A.cl:=⟨λ_ _ _=>rfl,λh=>absurd rfl h,λ_=>rfl,rfl,rfl,.inl λ_ _=>rfl⟩
def pM  u  (F:bT (cI P A Fin Z u) Z s f q kk OO J M gs w t){G}(v:s.c=G) (x:uG s G (.wt p) gv gm){d}(hd:Deaf t A.cl=d) (H:gs[A.cl]?=some g){es}(y:stepG P A.dir g w=.go g1 w' es)
 (z:tX A.gb w' s.gc gv gm) (B:MW A.gb 0 w w') (C:U2 A.gb es) (D:deafBehind d es=vH p) (j:s.gm=0->gm=0)
 (K:∃n r,kB P (mZ A) n g1 r/\Wg P A Fin (.wt p) (kk A.cl) (OO A.cl) r)  sl :Goes P A Fin Z u s gs w t sl A.cl:=by
 have h:dC P A Z s kk OO J M gs.size w t:=F.ex;have hb:=A.hb;obtain⟨f1,R,S,T,L,U⟩:=LC x;have k:s.c.isNone=false:=by simp_all
 have l:s.c≠.none:=λe=>by rw[e]at k;cases k
 obtain⟨n,r,m,E⟩:=K;have a:(s.oi (.wt p) gv gm).c=.wt p:=rfl;have o:yu P A (s.oi (.wt p) gv gm):=⟨λhd _=>h.off.1 hd l,λhd=>⟨(h.off.2.1 hd).1,(h.off.2.1 hd).2.1,by simp_all,by simp_all,by simp_all⟩,h.off.2.2⟩
 have hJ:J A.cl:=(h.hJ _).2 (.inr ⟨rfl,by simp_all⟩)
 refine EB (s':=s.oi (.wt p) gv gm) (f':=f) (q':=upd q A.cl n) u F (Kc l) (tC h.off) H y ON (λ_ _=>rfl) (λ_ _=>rfl) o (by simp_all) (by simp_all) (λ_=>.inr (.inr ⟨p,rfl⟩)) (λi=>?_) (h.I.clo v x) rfl z B (.inr ⟨C,by rw[k];rfl⟩) (Gs v x) (.inl (.inr hJ)) (.inl j) (λ_ _=>rfl) (λi N=>upd_ne q n N) ?_ sl
 . unfold fB
   rw[v,L];rfl
 refine⟨λO=>absurd O (EF o a),λ_=>⟨EF o a,?_,?_,r,?_,?_⟩,λQ=>absurd Q (tC o),λ_ k _=>absurd (xd a) k⟩
 . show A.cl<A.b+A.n+1;omega
 . rw[Deaf_own,hd,D]
   show _=eT P A (s.oi (.wt p) gv gm) A.cl;rw[vL o a]
 . exact .inr (.inr ⟨rfl,E⟩)
 exact .inr (by rw[upd_same];exact m)
variable(C:iV P A.ng)(X:jH P A.ng)
include C X in
def SE  v  (x:bT (cI P A Fin Z v) Z s f q kk OO J M gs w t) (u:s.c=.wt p) (Q:p≠.wa) (B:gs[A.cl]?=some g) (R:Wg P A Fin (.wt p) (kk A.cl) (OO A.cl) g)  sl :
 Goes P A Fin Z v s gs w t sl A.cl\/Iw P A s gs w sl A.cl g:=by
 have F:dC P A Z s kk OO J M gs.size w t:=x.ex;have G:=F.I.Wf;rw[u]at G;obtain⟨W,rest,D,hT⟩:=R;have d:=F.gr;have hn:=A.hn;have hb:=A.hb;have N:CallKind.normal≠CallKind.early:=by decide
 have nx:∀{Y g1},jI P A.ng A.gb .normal (mZ A) Y (W::rest) g1->∃n O,kB P (mZ A) n g1 O/\Wg P A Fin (.wt Y) (kk A.cl) (OO A.cl) O:=λ⟨_,O,⟨n,hs⟩,hA⟩=>⟨n,O,hs,W,rest,hA,hT⟩
 have cell:∀wr,U2 A.gb #[⟨.cell ⟨A.gb,0,none⟩,wr,true⟩]:=λwr e r=>by simp at r;subst r;exact .inl (.inr ⟨0,.inl rfl,rfl,rfl⟩)
 have hd:Deaf t A.cl=vH p:=by obtain⟨_,_,S,_⟩:=x.walk _ (xd u);rw[S];show eT P A s A.cl=_;rw[vL F.off u]
 have y:s.c.waits=false->s.gv=0:=λh=>(F.I.calm h).1
 have H:∀l,l<A.n->(s.w l).cnt<=1:=λl _=>by
  cases e:s.w l with
  |dn p=>cases p<;>simp[bE.cnt]
  |_=>simp[bE.cnt]
 have a7:s.gc<=A.n+1:=by
  have h1:=F.I.g1;have h2:sumTo A.n (λj=>(s.w j).cnt)<=A.n:=ry A.n H
  have h3:s.ms.pend<=1:=by cases s.ms<;>simp[sd.pend];split<;>omega
  omega
 cases p<;>simp only[lF.ok,aal]at G
 case w0=>obtain⟨g1,a,m⟩:=ZK (Wd:=mZ A) (main:=A.dir) (w:=w) C X D N;exact .inl (pM v x u .w0 hd B a d (bC rfl) (λe r=>by simp at r;subst r;exact .inl (.inl (.inl rfl))) rfl id (nx m) sl)
 case w1=>
  have K:=y (by rw[u];rfl)
  have b:=d;rw[K]at b;obtain⟨g1,a,m⟩:=ZL (Wd:=mZ A) (main:=A.dir) C X b (by omega) D
  rcases m with⟨T,m⟩|⟨T,m⟩
  . exact .inl (pM v x u (.w1z T) hd B a d (bC rfl) (cell false) rfl id (nx m) sl)
  exact .inl (pM v x u (.w1 T) hd B a d (bC rfl) (cell false) rfl id (nx m) sl)
 case we=>
  obtain⟨g1,a,m⟩:=ZM (Wd:=mZ A) (main:=A.dir) (w:=w) C X (λw h=>h.1) D N
  exact .inl (pM v x u .we hd B a d (bC rfl) (λe r=>by simp at r;subst r;exact .inl (.inl (.inr rfl))) rfl id (nx m) sl)
 case wa=>exact absurd rfl Q
 case w2 k=>
  have K:=y (by rw[u];rfl)
  have b:=d;rw[K]at b
  rcases ZN (Wd:=mZ A) (main:=A.dir) C X (λw h=>h.2.1) b D with⟨E,g1,w',a,rfl,z,m⟩|⟨E,g1,a,m⟩
  . subst E
    exact .inl (pM v x u .w2h hd B a z (⟨⟨.refl _,rfl⟩,.inr ⟨0,_,.inl rfl,rfl,rfl⟩⟩) (λe r=>by simp at r;rcases r with rfl|rfl<;>exact .inl (.inr ⟨0,.inl rfl,rfl,rfl⟩)) rfl id (nx m) sl)
  exact .inl (pM v x u (.ZY k E) hd B a d (bC rfl) (cell false) rfl id (nx m) sl)
 case w3=>obtain⟨g1,a,m⟩:=ZO (Wd:=mZ A) (main:=A.dir) (w:=w) C X D N;exact .inl (pM v x u .w3 hd B a d (bC rfl) (λe r=>by simp at r;subst r;exact .inr ⟨1,.inr rfl,.inr rfl⟩) rfl id (nx m) sl)
 case w4=>
  by_cases L:s.gm=0
  . right
    have b:=d;rw[L]at b;have a:=XD (main:=A.dir) C X b D;refine⟨.inr ⟨rfl,u,L⟩,?_⟩;have h:=runT_crowd_go (P:=P) (sl:=sl) (i:=A.cl) B a
    have U:woken P g {g with status:=.blocked} w=id:=funext λo=>by unfold Go.Conc.woken;simp
    rw[U,Array.map_id]at h;exact h
  left;obtain⟨g1,w',a,rfl,z,m⟩:=ZP (Wd:=mZ A) (main:=A.dir) C X d L D N
  exact pM v x u (.w4 L) hd B a z (⟨⟨.refl _,rfl⟩,.inr ⟨1,_,.inr rfl,rfl,rfl⟩⟩) (λe r=>by
   simp[semEvents]at r
   rcases r with rfl|rfl|rfl|rfl
   . exact .inl (.inl (.inl rfl))
   . exact .inl (.inr ⟨1,.inr rfl,rfl,rfl⟩)
   . exact .inl (.inr ⟨1,.inr rfl,rfl,rfl⟩)
   exact .inl (.inl (.inr rfl))) rfl (λh=>absurd h L) (nx m) sl
 case w5=>
  obtain⟨V,K,m0,_⟩:=F.I.g8 (by rw[u];rfl)
  have b:=d;rw[V,K]at b;obtain⟨g1,a,m⟩:=ZQ (Wd:=mZ A) (main:=A.dir) C X b D;exact .inl (pM v x u .w5 hd B a d (bC rfl) (cell false) rfl id (nx m) sl)
end
section
variable{Z:Base}{kk:afm}{OO:afl}{J M:afa}{w:World}{t:Trace}
def cV.XX(h:cV Z kk OO J M w t){i ad}(E:J i)(r:ad.block<w.heap.size)(hd:Deaf t i=0)(F:∀p,M p->t.heard p/\Z.N0<=p/\t.act? p=some (.mark (.releaseMerge ad)))
 (G:∀m a,Z.N0<=m->t.act? m≠some (.mark (.release a)))  fn   pos :
 cV Z kk OO J (λ_=>False) w (t++MemOp.ofEvents i fn pos #[⟨.mark (.acquire ad),false,true⟩]):=by
 obtain⟨u,D⟩:∃u,u=MemOp.ofEvents i fn pos #[⟨.mark (.acquire ad),false,true⟩]:=⟨_,rfl⟩;have f:u=#[⟨i,fn,pos,.mark (.acquire ad)⟩]:=by rw[D,ofEvents_eq];simp[MemAct.ofEvent]
 rw[<-D];have H:∀op∈u,op.act.touch?=none:=λop c=>by rw[f]at c;simp at c;subst c;rfl
 have l:∀op∈u,op.g=i:=λop c=>by grind
 have z:u[0]?=some ⟨i,fn,pos,.mark (.acquire ad)⟩:=by grind
 have d:mD u:=λop c=>by grind
 have o:∀k,Z.N0<=k->∀a,(t++u).act? k≠some (.mark (.release a)):=λk A a e=>by
  rcases tA e with⟨q,_⟩|⟨op,c,q⟩
  . simp_all
  grind
 exact h.wG (λa b=>a=b) rfl ⟨⟨.refl _,rfl⟩,λ_ _=>rfl⟩ (λb=>.inl rfl) (λop c=>by rw[f]at c;simp at c;subst c;simpa[MemAct.low]using r) (λa b e n y _ _ _ A=>by subst e;exact A.app u)
  (λj b n v h=>⟨j,rfl,h⟩) (λj b s h=>⟨j,rfl,h⟩) (λj b x h=>⟨j,rfl,h,λ_ h=>h⟩) h.kO
  (λsaid=>noRace_append (h.clean said) l λn a B op c b hb _=>by simp_all) (λop c a B=>by simp_all) (λm op a c B=>by grind)
  (λn a B L h=>h.elim (λ⟨j,q,C⟩=>.inr (.inl ⟨j,q,C.app _⟩)) (λ⟨p,q,C⟩=>by obtain⟨I,N,K⟩:=F p q;exact .inr (.inl ⟨i,E,pH (y:=⟨i,fn,pos,.mark (.acquire ad)⟩) d z rfl hd K I (λk A=>o k (by omega) ad) C⟩)))
end
section
variable{P:afn}{A:cd}{Fin:aeE}{Z:Base}{s:MS P}{f:Nat->Node P}{q:afh}{kk:afm}{OO:afl}{J M:afa}{gs:aeK}{w w':World}{t u:Trace}{c:lF}{p:J1}{gv gm:Nat}{g g1:afd}
def xe(e:s.c=.kQ\/s.c=.fH):eD P A s A.cl:=.inr (.inr ⟨rfl,by grind⟩)
def Kd(hd:A.dir=false)(e:s.c=.kQ\/s.c=.fH):¬iK P A s A.cl:=by
 have:=A.hb;have:=xX hd;rintro(⟨e,_⟩|⟨l,b,d,a⟩|⟨_,a⟩)
 . omega
 . omega
 grind
def Ke(hd:A.dir=false)(e:s.c≠.fH):cZ P A Fin s A.cl=uE P A:=by
 have:=A.hb;have:=xX hd;unfold cZ
 grind
def Kf(hd:A.dir=false)(e:s.c=.fH):cZ P A Fin s A.cl=Aw P A:=by
 have:=A.hb;have:=xX hd;unfold cZ
 grind
def TY{x}:Sl P A s A.cl x:=λj h X a b _=>by have:=A.hb;omega
variable(C:iV P A.ng)(X:jH P A.ng)
include C X in
def SF  v  (F:bT (cI P A Fin Z v) Z s f q kk OO J M gs w t) (o:s.c=.wt .wa) (V:gs[A.cl]?=some g) (G:Wg P A Fin (.wt .wa) (kk A.cl) (OO A.cl) g) (d:A.dir=false)  sl :
 Goes P A Fin Z v s gs w t sl A.cl:=by
 have j:dC P A Z s kk OO J M gs.size w t:=F.ex;have B:=bx (P:=P) (A:=A) (Fin:=Fin) (Z:=Z) v;obtain⟨c0,rest,hM,W⟩:=G;rw[KD (by rw[d];simp)]at W
 have a7:=xX d;have hb:=A.hb;have H:(A.cl==0)=false:=by simp;omega
 obtain⟨g1,K,hr,⟨k,x⟩⟩:=XC (Wd:=λ_=>True) (main:=false) (w:=w) C X hM (by decide)
 obtain⟨tr⟩:=T.tree (P:=P) (m:=uE P A) rfl (W _ (ar.Le.refl _));obtain⟨T,_⟩:=TT.pre x tr;have z:=runT_crowd_go (P:=P) (sl:=sl) (i:=A.cl) V (by rw[H];exact K)
 have L:=xd (P:=P) (A:=A) o
 have hd:Deaf t A.cl=0:=by obtain⟨_,_,N,_⟩:=F.walk _ L;rw[N];show eT P A s A.cl=_;rw[vL j.off o];rfl
 have hJ:J A.cl:=(j.hJ _).2 (.inr ⟨rfl,by rw[o];rfl⟩)
 have hG:A.gb<w.heap.size:=by obtain⟨c,e,Q⟩:=j.BU;exact(zG.1 Q).1
 have hP:=F.dp.XX (i:=A.cl) (ad:=⟨A.gb,0,none⟩) hJ hG hd (λp D=>by
  obtain⟨Q,h2,u⟩:=j.hM p D
  rcases u with⟨u,_⟩|⟨u,_⟩
  . exact⟨Q,h2,u⟩
  . rw[o]at u;cases u) j.norel g.frame.fn g.frame.place
 have E:∀op∈MemOp.ofEvents A.cl g.frame.fn g.frame.place #[⟨.mark (.acquire ⟨A.gb,0,none⟩),false,true⟩],op.g=A.cl:=λop r=>by obtain⟨e,_,rfl⟩:=LK r;rfl
 have R:dC P A Z (s.oi .kQ s.gv s.gm) kk OO J (λ_=>False) gs.size w (t++MemOp.ofEvents A.cl g.frame.fn g.frame.place #[⟨.mark (.acquire ⟨A.gb,0,none⟩),false,true⟩]):=
  j.XU (ON (s:=s) (c:=.kQ)) (λ_ _=>rfl) (λ_ _=>rfl) (EE d (j.off.2.2 d)) (by rw[o];rfl) (by rw[o];rfl) (λp D=>D.elim) (λe=>by rw[o]at e;cases e) (λ⟨p,D⟩=>D.elim) (λi=>by unfold fB;rw[o];rfl) (j.I.clo o .wa) rfl j.gr (bC rfl) (λop r=>by obtain⟨e,Y,rfl⟩:=LK r;simp at Y;subst Y;exact⟨λa ha=>by simp[MemAct.ofEvent,MemAct.touch?]at ha,λa h=>by simp[MemAct.ofEvent]at h⟩)
 have S:Beside (cI P A Fin Z v) s (s.oi .kQ s.gv s.gm) f (cz f A.cl ⟨uE P A,kk A.cl,OO A.cl,g1,T⟩) q q kk kk OO OO J J w A.cl g g1:=oh v ON (λi hi=>aA _ _ hi) (λ_ _=>rfl) (λ_ _ _=>rfl) (λ_ _ _=>rfl) (λ_ _ h=>h) (.inl ⟨id,id⟩) (λ{i k O y} U=>B.mO (s:=s) (i:=i) (k:=k) (O:=O) (g:=y) U)
 refine⟨_,_,z,s.oi .kQ s.gv s.gm,cz f A.cl ⟨uE P A,kk A.cl,OO A.cl,g1,T⟩,q,kk,OO,J,(λ_=>False),_,_,_,rfl,Gs o .wa,?_⟩
 refine bT.step B F V E hP R (λl y hl U=>B.vq j hl _ _ U) S ⟨λ_=>?_,λh=>absurd h (Kd d (.inl rfl)),λh=>absurd h (tC (EE d (j.off.2.2 d))),λh=>absurd (xe (.inl rfl)) h⟩
 rw[au];refine⟨by show A.cl<A.b+A.n+1;omega,rfl,?_,rfl,rfl,hr,?_,.inr hJ,TY⟩
 . show uE P A=cZ P A Fin (s.oi .kQ s.gv s.gm) A.cl
   rw[Ke d (by simp[MS.oi])]
 . rw[Deaf_own,hd];rfl
end
def xf {P y s fr x f eQ kind} (a:FR y s fr) (h:bn s=some x):fr≠Frame.enter P f eQ kind:=fun e=>by
 obtain⟨ops,i,rest,kk,o,as,b,d,g,j,k,c,l⟩:=dQ (f:=x.1) (svs:=x.2) a h;have:fr.todo = .inRegion ops (i :: rest) :: kk:=by rw[c];rfl
 rw[e] at this;simp[Frame.enter] at this
def EG{fr a cs b}(h:G fr cs=G a b):fr=a:=by have:=congrArg Goroutine.frame h;exact this
section
variable{P:afn}{A:cd}{Fin:aeE}{Z:Base}{s:MS P}{f:Nat->Node P}{q:afh}{kk:afm}{OO:afl}{J M:afa}{gs:aeK}{w w':World}{t u:Trace}{j:Nat}{c:lF}{p:J1}{gv gm:Nat}{g g1:afd}
variable(C:iV P A.ng)(X:jH P A.ng)
include C in
def Gt{b kind a cs f eQ n Wd d}(h:kB P Wd n (G (Frame.enter P f eQ a) cs) d)(g:tY P A.ng b kind .w0 cs d):n≠0:=λe=>by subst e;obtain⟨c,y,fr,i,rfl,l,j,k,rfl⟩:=g;exact xf j (C.w0 b kind).1 (EG h).symm
include C in
def OP{b kind a cs f eQ n Wd d}(h:kB P Wd n (G (Frame.enter P f eQ a) cs) d)(g:tY P A.ng b kind .a0 cs d):n≠0:=λe=>by subst e;obtain⟨c,y,fr,i,rfl,l,j,k,rfl⟩:=g;exact xf j (C.a0 b kind).1 (EG h).symm
include C in
def OQ{b kind a cs f eQ n Wd d}(h:kB P Wd n (G (Frame.enter P f eQ a) cs) d)(g:tY P A.ng b kind .d1 cs d):n≠0:=λe=>by subst e;obtain⟨c,y,fr,i,rfl,l,j,k,rfl⟩:=g;exact xf j (C.d1 b).1 (EG h).symm
include C X in
def LF  h  (i:bT (cI P A Fin Z h) Z s f q kk OO J M gs w t) (u:s.c=.fH){k O N}(j:k=kk A.cl) (l:O=OO A.cl) (z:gs[A.cl]?=some g) (B:(Aw P A).dM k O g N) (a:A.dir=false)  sl :
 Goes P A Fin Z h s gs w t sl A.cl:=by
 have v:dC P A Z s kk OO J M gs.size w t:=i.ex;obtain⟨_,_,_,_,_,_,m,_⟩:=i.live _ (xe (.inr u));obtain⟨rfl,x,rest,rfl,D⟩:=B;subst j l;obtain⟨E,⟨n,d⟩,y⟩:=sI (P:=P) (n:=A.ng) (b:=A.gb) (kind:=.normal) (cs:=x::rest) (Wd:=mZ A) X C;cases n with
 |zero=>exact absurd rfl (Gt C d y)
 |succ n=>obtain⟨g1,⟨F,o⟩,p⟩:=d;have r:mZ A w:=(bx (P:=P) (A:=A) (Fin:=Fin) (Z:=Z) h).wd v;exact pM h i u .call m z (by rw[a];exact o false w r) v.gr (bC rfl) (λe G=>by simp at G) rfl id ⟨n,E,p,x,rest,y,by rw[KD (by rw[a];simp)];exact D⟩ sl
def vM(hj:j<A.n)(e:s.w j=.BD):eD P A s (A.b+j):=.inr (.inl ⟨j,hj,rfl,by simp_all⟩)
def xg(hj:j<A.n)(e:s.w j=.BD):¬gF P A s (A.b+j):=by
 have:=A.hb;rintro(⟨e,_⟩|⟨l,a,c,d⟩)
 . omega
 simp_all
include C X in
def LG  r  (u:bT (cI P A Fin Z r) Z s f q kk OO J M gs w t) (hj:j<A.n) (c:s.w j=.BD){k O N}(H:gs[A.b+j]?=some g) (K:(mY P A).dM k O g N)  sl :
 Goes P A Fin Z r s gs w t sl (A.b+j):=by
 have o:dC P A Z s kk OO J M gs.size w t:=u.ex;have hb:=A.hb;obtain⟨_,_,_,_,_,_,v,_⟩:=u.live _ (vM hj c);obtain⟨rfl,F,fn,tmps,todo,y,p,rfl⟩:=K;have z:(A.b+j==0)=false:=by simp;omega
 obtain⟨L,⟨n,m⟩,G⟩:=Ag (P:=P) (n:=A.ng) (b:=A.gb) (kind:=.deferred) (cs:=[mH P F tmps todo,de P]) (Wd:=mZ A) X (λw h=>h.1) C
 cases n with
 |zero=>exact absurd rfl (OQ C m G)
 | succ n=>
   obtain⟨g1,⟨Q,B⟩,D⟩:=m;have E:mZ A w:=(bx (P:=P) (A:=A) (Fin:=Fin) (Z:=Z) r).wd o;obtain⟨x,d⟩:∃x:bE P,x=.dn .d1:=⟨_,rfl⟩;have a:(s.bb j x s.sh).w j=.dn .d1:=by rw[bc,d]
   have R:cq A.n (s.bb j x s.sh):=o.I.yO hj (by rw[c];rfl) (by rw[d];rfl) (.inl (by rw[d,c];rfl)) (by rw[d];rfl) (by rw[d,c];rfl)
   have S:MS.iD A.n (s.bb j x s.sh) s:=vJ hj (by rw[d,c];simp[bE.cT])
   have hJ:J (A.b+j):=(o.hJ _).2 (.inl ⟨j,hj,rfl,by rw[c];rfl⟩)
   refine EB (s':=s.bb j x s.sh) (f':=f) (q':=upd q (A.b+j) n) (es:=#[]) r u (jL o.I hj (by rw[c];rfl)) (xg hj c) H (by rw[z];exact B false w E) (Az hj (.inl (by rw[d,c];rfl))) (λl _=>?_) (λl _=>?_) o.off rfl rfl id (rp hj (by rw[d,c];rfl)) R rfl o.gr (bC rfl) (.inl hQ) S (.inl (.inr hJ)) (.inl id) (λ_ _=>rfl) (λi T=>upd_ne q n T) ?_ sl
   . by_cases e:l=j
     . subst e;rw[bc,d,c];rfl
     rw[cU e]
   . by_cases e:l=j
     . subst e;rw[bc,d,c];rfl
     rw[cU e]
   refine⟨λU=>absurd U (mn hj a),λ_=>⟨mn hj a,?_,?_,L,?_,?_⟩,λV=>absurd V (sT hj a),λ_ W _=>absurd (o0 hj a) W⟩
   . show A.b+j<A.b+A.n+1;omega
   . rw[Deaf_own,v]
     show _=eT P A (s.bb j x s.sh) (A.b+j);rw[fX hj,a];rfl
   . refine .inr (.inl ⟨j,hj,rfl,?_⟩)
     rw[a];exact⟨F,fn,tmps,todo,y,p,G⟩
   exact .inr (by rw[upd_same];exact D)
end
section
variable{P:afn}
def MS.pN(s:MS P)(ms:sd)(gc:Nat):MS P:={s with ms:=ms,gc:=gc}
inductive Gu(s:MS P):sd->sd->afa
 |call (j:Nat):1<=j->Gu s (.add j) (.bP j .a0) s.gc
 |a0 (j:Nat):Gu s (.bP j .a0) (.bP j .a2) s.gc
 |a2 (j:Nat) (p:J1):p=.a4\/p=.ae->Gu s (.bP j .a2) (.bP j p) (s.gc+1)
 |a4 (j:Nat):Gu s (.bP j .a4) (.bP j .ae) s.gc
 |ae (j:Nat):Gu s (.bP j .ae) (.spawn (j-1)) s.gc
def cq.mai{n}{s:MS P}(I:cq n s){m0 m1 gc}(f:s.ms=m0)(h:Gu s m0 m1 gc):cq n (s.pN m1 gc)/\s.c=.none:=by
 have a:=I.ms;rw[f]at a;have d:s.c=.none:=by cases h<;>first|exact a.2|exact a.2.1
 obtain⟨k,i,g⟩:=I.calm (by rw[d];rfl);refine⟨⟨?_,I.g2,I.BH,λj b h=>?_,I.J7,λj b h=>?_,⟨I.g5.1,λh=>(by have h:s.gm=1:=h;omega)⟩,I.g6,λh=>(by have h:s.gv=1:=h;omega),λh=>?_,I.g9,I.ok,I.Wf,I.sp,I.idle,?_,I.early,I.mu⟩,d⟩
 . have:=I.g1
   rw[f]at this;show gc=sumTo n (λj=>(s.w j).cnt)+m1.pend;cases h with
   |a2 j p e=>rcases e with rfl|rfl<;>simp_all [sd.pend]
   |_=>simp_all [sd.pend]
 . have h:s.w j=.dn .d5\/s.w j=.dn .d6:=h
   have:=g j b;rcases h with h|h<;>rw[h]at this<;>cases this
 . have h:s.w j=.dn .d7:=h
   have:=g j b;rw[h]at this;cases this
 . have h:s.c.OD=true:=h
   rw[d]at h;cases h
 cases h with
 |call j b=>exact⟨a.1,a.2,b,.inl rfl⟩
 |a0 j=>exact⟨a.1,a.2.1,a.2.2.1,.inr (.inl rfl)⟩
 |a2 j p e=>exact⟨a.1,a.2.1,a.2.2.1,.inr (.inr e)⟩
 |a4 j=>exact⟨a.1,a.2.1,a.2.2.1,.inr (.inr (.inr rfl))⟩
 |ae j=>exact⟨by have l:=a.1;have m:=a.2.2.1;show s.sp+(j-1)+1=n;omega,a.2.1⟩
def OR{n}{s:MS P}{m0 m1 gc}(a:s.c=.none)(hj:∀j p,m0=.bP j p->1<=j)(b:s.ms=m0)(h:Gu s m0 m1 gc):MS.iD n (s.pN m1 gc) s:=by
 refine .inl ?_;show m1.cT+sumTo n (λi=>(s.w i).cT)+s.c.cT gc<s.ms.cT+sumTo n (λi=>(s.w i).cT)+s.c.cT s.gc;rw[b,a];have e:∀x,lF.cT x .none=0:=λ_=>rfl
 rw[e,e]
 have:m1.cT<m0.cT:=by
  cases h with
  |a2 j p d=>rcases d with rfl|rfl<;>simp[sd.cT]
  |ae j=>have:=hj j .ae rfl;simp only[sd.cT];omega
  |_=>simp[sd.cT]
 omega
end
section
variable{P:afn}{A:cd}{Fin:aeE}{Z:Base}{s:MS P}{f f':Nat->Node P}{q q':afh}{kk:afm}{OO:afl}{J M:afa}{gs:aeK}{w w':World}{t u:Trace}{j:Nat}{c:lF}{p:J1}{gc:Nat}{g g1:afd}{m0 m1:sd}
def Iz(e:s.ms=.bP j p):iK P A s 0:=.inl ⟨rfl,by simp_all⟩
def Kg(b:s.c=.none)(e:s.ms=.bP j p):¬eD P A s 0:=by
 have:=A.hb;rintro(⟨_,a⟩|⟨l,d,f,a⟩|⟨_,a⟩)
 . simp_all
 . omega
 simp_all
def pe(e:s.ms≠.parked):¬gF P A s 0:=by
 have:=A.hb;rintro(⟨_,a⟩|⟨l,b,c,a⟩)
 . exact e a
 omega
def Kh(e:s.ms=.bP j p):eT P A s 0=vH p:=by
 unfold eT
 simp_all
def XY:gu A s (s.pN m1 gc) 0:=⟨λ_ _ _=>rfl,λ_=>rfl,λh=>absurd rfl h,rfl,rfl,.inl λ_ _=>rfl⟩
def xh  r  (Q:bT (cI P A Fin Z r) Z s f q kk OO J M gs w t) (z:s.ms=m0) (o:Gu s m0 m1 gc){d}(hd:Deaf t 0=d) (T:gs[0]?=some g){es}(B:stepG P true g w=.go g1 w' es)
 (C:tX A.gb w' gc s.gv s.gm) (D:MW A.gb 0 w w') (E:U2 A.gb es)
 (U:(∃j p n y,m1=.bP j p/\deafBehind d es=vH p/\kB P (mZ A) n g1 y/\Y3 P A Fin (.bP j p) (kk 0) (OO 0) y)\/
   (∃j,m1=.spawn j/\deafBehind d es=0/\g1.status=.running/\∃R:TT P (Ir P A Fin j) (kk 0) (OO 0) g1,True))  sl :Goes P A Fin Z r s gs w t sl 0:=by
 have S:dC P A Z s kk OO J M gs.size w t:=Q.ex;have hb:=A.hb;have V:((0:Nat)==0)=true:=rfl;obtain⟨W,k⟩:=S.I.mai z o;have F:s.c.isNone=true:=by rw[k];rfl
 have Y:MS.iD A.n (s.pN m1 gc) s:=OR k (λj p e=>by have:=S.I.ms;simp_all) z o
 have ho:yu P A (s.pN m1 gc):=⟨λ_ h=>absurd k h,λ_=>⟨by cases o<;>simp[MS.pN],by cases o<;>simp[MS.pN],by rw[show(s.pN m1 gc).c=.none from k];simp⟩,λ_=>by cases o<;>simp[MS.pN]⟩
 have G:s.ms≠.parked:=by rw[z];cases o<;>simp
 have H:∀fn pos,Deaf (t++MemOp.ofEvents 0 fn pos es) 0=deafBehind d es:=λfn pos=>by rw[Deaf_own,hd]
 have go:∀(f':Nat->Node P) (q':afh),(∀i,i≠0->f' i=f i)->(∀i,i≠0->q' i=q i)->Self P (cI P A Fin Z r) (s.pN m1 gc) f' q' kk OO J (t++MemOp.ofEvents 0 g.frame.fn g.frame.place es) 0 g1->Goes P A Fin Z r s gs w t sl 0:=λf' q' hf hq m=>EB (s':=s.pN m1 gc) r Q (.inl rfl) (pe G) T B XY (λ_ _=>rfl) (λ_ _=>rfl) ho rfl rfl id (λi=>aaL) W rfl C D (.inr ⟨E,by rw[F];rfl⟩) Y (.inl (.inl rfl)) (.inl id) hf hq m sl
 rcases U with⟨j,p,n,y,rfl,u,v,K⟩|⟨j,rfl,u,hr,R,_⟩
 . have a:(s.pN (.bP j p) gc).ms=.bP j p:=rfl
   refine go f (upd q 0 n) (λ_ _=>rfl) (λi L=>upd_ne q n L) ⟨λhl=>absurd hl (Kg (s:=s.pN (.bP j p) gc) k a),λ_=>⟨Kg (s:=s.pN (.bP j p) gc) k a,?_,?_,y,?_,?_⟩,λhh=>absurd hh (pe (by simp_all)),λ_ F _=>absurd (Iz a) F⟩
   . show 0<A.b+A.n+1;omega
   . rw[H,u]
     show _=eT P A (s.pN (.bP j p) gc) 0;rw[Kh a]
   . exact .inl ⟨rfl,K⟩
   exact .inr (by rw[upd_same];exact v)
 have N:eD P A (s.pN (.spawn j) gc) 0:=.inl ⟨rfl,trivial⟩
 have O:¬iK P A (s.pN (.spawn j) gc) 0:=by
  rintro(⟨_,x⟩|⟨l,h1,h2,x⟩|⟨_,x⟩)
  . exact x
  . omega
  rw[show(s.pN (.spawn j) gc).c=.none from k]at x;exact x
 refine go (cz f 0 ⟨Ir P A Fin j,kk 0,OO 0,g1,R⟩) q (λi L=>aA _ _ L) (λ_ _=>rfl) ⟨λ_=>?_,λh=>absurd h O,λh=>absurd h (pe (by simp[MS.pN])),λh=>absurd N h⟩
 rw[au];refine⟨by show 0<A.b+A.n+1;omega,rfl,?_,rfl,rfl,hr,by grind,.inl rfl,λl h X h1 h2 _=>by omega⟩
 show Ir P A Fin j=cZ P A Fin (s.pN (.spawn j) gc) 0;unfold cZ;rw[Rp rfl];rfl
variable(C:iV P A.ng)(X:jH P A.ng)
include C X in
def Gv  y  (z:bT (cI P A Fin Z y) Z s f q kk OO J M gs w t) (i:s.ms=.bP j p) (B:gs[0]?=some g) (L:Y3 P A Fin (.bP j p) (kk 0) (OO 0) g)  sl :Goes P A Fin Z y s gs w t sl 0:=by
 have H:dC P A Z s kk OO J M gs.size w t:=z.ex;have D:=H.I.ms;rw[i]at D;obtain⟨_,V,W,Y⟩:=D;obtain⟨N,a7,hl⟩:=H.I.calm (by rw[V];rfl)
 obtain⟨R,rest,K,S⟩:=L;have d:=H.gr;have hn:=A.hn;have O:CallKind.normal≠CallKind.early:=by decide
 have nx:∀{U g1},jI P A.ng A.gb .normal (mZ A) U (R::rest) g1->∃n b,kB P (mZ A) n g1 b/\Y3 P A Fin (.bP j U) (kk 0) (OO 0) b:=λ⟨_,b,⟨n,hs⟩,hA⟩=>⟨n,b,hs,R,rest,hA,S⟩
 have hd:Deaf t 0=vH p:=by obtain⟨_,_,Q,_⟩:=z.walk _ (Iz i);rw[Q];show eT P A s 0=_;rw[Kh i]
 have E:∀l,l<A.n->(s.w l).cnt<=1:=λl _=>by
  cases e:s.w l with
  |dn p=>cases p<;>simp[bE.cnt]
  |_=>simp[bE.cnt]
 have a8:s.gc<=A.n+1:=by
  have o:=H.I.g1;have r:sumTo A.n (λj=>(s.w j).cnt)<=A.n:=ry A.n E
  have h3:s.ms.pend<=1:=by cases s.ms<;>simp[sd.pend];split<;>omega
  omega
 rcases Y with rfl|rfl|rfl|rfl
 . obtain⟨g1,a,hN⟩:=ZA (Wd:=mZ A) (main:=true) (w:=w) C X K O
   obtain⟨n,b,o,r⟩:=nx hN;exact xh y z i (.a0 j) hd B a d (bC rfl) (λe c=>by simp at c;subst c;exact .inl (.inl (.inl rfl))) (.inl ⟨j,_,n,b,rfl,rfl,o,r⟩) sl
 . have u:=d
   rw[N]at u;obtain⟨g1,w',a,rfl,x,hN⟩:=ZB (Wd:=mZ A) (main:=true) (v:=0) C X (λw h=>h.2.1) u (by omega) K
   have F:U2 A.gb #[⟨.cell ⟨A.gb,0,none⟩,false,true⟩,⟨.cell ⟨A.gb,0,none⟩,true,true⟩]:=λe c=>by simp at c;rcases c with rfl|rfl<;>exact .inl (.inr ⟨0,.inl rfl,rfl,rfl⟩)
   rcases hN with hN|hN
   . obtain⟨n,b,o,r⟩:=nx hN
     exact xh y z i (.a2 j _ (.inl rfl)) hd B a (by rw[N];exact x) (⟨⟨.refl _,rfl⟩,.inr ⟨0,_,.inl rfl,rfl,rfl⟩⟩) F (.inl ⟨j,_,n,b,rfl,rfl,o,r⟩) sl
   obtain⟨n,b,o,r⟩:=nx hN;exact xh y z i (.a2 j _ (.inr rfl)) hd B a (by rw[N];exact x) (⟨⟨.refl _,rfl⟩,.inr ⟨0,_,.inl rfl,rfl,rfl⟩⟩) F (.inl ⟨j,_,n,b,rfl,rfl,o,r⟩) sl
 . obtain⟨g1,a,hN⟩:=ZC (Wd:=mZ A) (main:=true) (w:=w) C X K O
   obtain⟨n,b,o,r⟩:=nx hN;exact xh y z i (.a4 j) hd B a d (bC rfl) (λe c=>by simp at c;subst c;exact .inr ⟨1,.inr rfl,.inl rfl⟩) (.inl ⟨j,_,n,b,rfl,rfl,o,r⟩) sl
 obtain⟨g1,a,hr,⟨k,G⟩⟩:=ZD (Wd:=λ_=>True) (main:=true) (w:=w) C X K O
 obtain⟨tr⟩:=T.tree (P:=P) (m:=Ir P A Fin (j-1)) rfl S;obtain⟨T,_⟩:=TT.pre G tr;exact xh y z i (.ae j) hd B a d (bC rfl) (λe c=>by simp at c;subst c;exact .inl (.inl (.inr rfl))) (.inr ⟨j-1,rfl,rfl,hr,T,trivial⟩) sl
include C X in
def OS  c  (d:bT (cI P A Fin Z c) Z s f q kk OO J M gs w t) (r:s.ms=.add (j+1)){k O N}(h:k=kk 0) (i:O=OO 0) (y:gs[0]?=some g) (z:(rX P A Fin (j+1)).dM k O g N)  sl :
 Goes P A Fin Z c s gs w t sl 0:=by
 have u:dC P A Z s kk OO J M gs.size w t:=d.ex;obtain⟨_,_,_,_,_,_,l,_⟩:=d.live 0 (.inl ⟨rfl,by rw[r];trivial⟩);obtain⟨rfl,v,rest,rfl,B⟩:=z;subst h i;obtain⟨D,⟨n,a⟩,x⟩:=BS (P:=P) (n:=A.ng) (b:=A.gb) (kind:=.normal) (cs:=v::rest) (Wd:=mZ A) X;cases n with
 |zero=>exact absurd rfl (OP C a x)
 |succ n=>obtain⟨g1,⟨E,m⟩,o⟩:=a;have p:mZ A w:=(bx (P:=P) (A:=A) (Fin:=Fin) (Z:=Z) c).wd u;exact xh c d r (.call (j+1) (by omega)) l y (m true w p) u.gr (bC rfl) (λe F=>by simp at F) (.inl ⟨j+1,.a0,n,D,rfl,rfl,o,v,rest,x,B⟩) sl
end
