import Derived.Test.YtabmephejpgigaaGreatDoorC10
set_option linter.all false
namespace Go.cr
section
open Go.Conc
open Go.ConcN (sumTo upd sumTo_upd upd_ne upd_same)
section
variable{P:abm}{A:bJ}{Fin:aaG}{Z:Base}{s:MS P}{f:Nat->Node P}{q:abg}{kk:abl}{OO:abk}{J M:aba}{gs:aaJ}{w w':World}{t:Trace}{j:Nat}{x:bo P}{sh:Mu.Sh}{g g1:abd}
def Cc  n :20<=AB n:=by unfold AB;omega
def pX{X h}(hj:j<A.n)(a:s.w j=.run h X){y}(b:x.nd=some y)(c:x.work=true)(hu:y=X\/Relation.TransGen oC y X)
 (hi:4*Mu.meas A.n (Mu.set (λi=>(s.w i).pc) j x.pc) sh+x.ex A.n<4*Mu.meas A.n (λi=>(s.w i).pc) s.sh+2*AB A.n):MS.fL A.n (s.aT j x sh) s:=by
 have d:(s.w j).work=true:=by rw[a];rfl
 rcases hu with rfl|hu
 . exact vi hj d c (by rw[b,a];rfl) (by rw[a];exact hi)
 . exact AF hj d c ⟨y,X,b,by rw[a];rfl,hu⟩
variable(C:fQ P A.nm)(X:fR P A.nm)(F:lO P A.nm)
include C X F in
def G1  D  (H:bC (bV P A Fin Z D) Z s f q kk OO J M gs w t) (hj:j<A.n){h X0}(a:s.w j=.run h X0){Y:GW P}(hf:f (A.b+j)=Y.node) (hl:O8 P A j Y.k Y.O Y.g Y.N)  sl :
 Goes P A Fin Z D s gs w t sl (A.b+j):=by
 have B:cS P A Z s kk OO J M gs.size w t:=H.ex;obtain⟨_,d,l,r,u,_,E,_,y⟩:=H.live _ (jO hj a);rw[hf]at d l r u y;have d:gs[A.b+j]?=some Y.g:=d;have r:Y.k=kk (A.b+j):=r;have u:Y.O=OO (A.b+j):=u;have l:Y.m=gW P A j:=by have:Y.m=cx P A Fin s (A.b+j):=l;rw[this,mY hj a]
 obtain⟨kind,c,rest,e,hk,hg,K,z,G,L⟩:=hl;rw[r]at z L;rw[u]at K L
 have hh:h=false:=by
  cases h with
  |false=>rfl
  |true=>exact absurd K (B.yp j hj (by rw[a];rfl))
 subst hh;have Q:(s.w j).work=true:=by rw[a];rfl
 have v:(s.w j).pc=.out:=by rw[a];rfl
 have hu:=y j false X0 hj rfl a Y.node (.inl rfl) trivial;obtain⟨g2,⟨n,p⟩,R⟩:=qB (P:=P) (n:=A.nm) (b:=A.fb) (o:=A.fo) (kind:=kind) (cs:=c::rest) (Wd:=kF A) F;rw[<-hg]at p;have a9:=Cc A.n;cases n with
 | zero=>
   have e0:Y.g=g2:=p;rw[<-e0]at R;obtain⟨g1,S,hr,g3,⟨k,T⟩,U⟩:=Au (Wd:=kF A) (main:=false) (w:=w) C X R;refine B7 (x:=.lk .gT Y) (sh:=s.sh) D H hj Q E (jB hj a) rfl (by rw[a];rfl) (λ_=>by rw[a];rfl) (B.I.Wa hj Q rfl rfl v rfl) (pX hj a rfl rfl hu ?_) d S (bg rfl) B.mu (λe he=>by simp at he;subst he;exact .inl (.inl rfl)) rfl ⟨k,g3,T,kind,c,rest,e,hk,U,l,K,z,G,L⟩ (.inl λV=>V) sl
   show 4*Mu.meas A.n (Mu.set (λi=>(s.w i).pc) j .gT) s.sh+0<_
   rw[B6 hj v];unfold AB;omega
 | succ n=>
   obtain⟨g1,⟨ad,W⟩,a7⟩:=p;have a8:kF A w:=(bf (P:=P) (A:=A) (Fin:=Fin) (Z:=Z) D).wd B;refine B7 (x:=.lk .ld Y) (sh:=s.sh) D H hj Q E (jB hj a) rfl (by rw[a];rfl) (λ_=>by rw[a];rfl) (B.I.still hj Q rfl rfl (by rw[v];rfl)) (pX hj a rfl rfl hu ?_) d (W false w a8) (bg rfl) B.mu eZ rfl ⟨n,g2,a7,kind,c,rest,e,hk,R,l,K,z,G,L⟩ (.inl λV=>V) sl
   have e1:Mu.set (λi=>(s.w i).pc) j (bo.lk .ld Y).pc=λi=>(s.w i).pc:=by
    have:=jf (λi=>(s.w i).pc) j
    rw[show(s.w j).pc=(bo.lk .ld Y).pc from v]at this
    exact this
   rw[e1];show _+AB A.n<_;omega
end
section
variable{P:abm}{A:bJ}{Fin:aaG}{Z:Base}{s:MS P}{f:Nat->Node P}{q:abg}{kk:abl}{OO:abk}{J M:aba}{gs:aaJ}{w w':World}{t:Trace}{j:Nat}{x:bo P}{sh:Mu.Sh}{g g1:abd}
variable(C:fQ P A.nm)(X:fR P A.nm)(F:lO P A.nm)
include C X F in
def Cd  H  (R:bC (bV P A Fin Z H) Z s f q kk OO J M gs w t) (hj:j<A.n){h X0}(d:s.w j=.run h X0){Y:GW P}(hf:f (A.b+j)=Y.node) (hl:FV P A j Y.k Y.O Y.g (Dw P A Y.N))  sl :
 Goes P A Fin Z H s gs w t sl (A.b+j):=by
 have D:cS P A Z s kk OO J M gs.size w t:=R.ex;obtain⟨_,e,p,y,z,_,K,_,B⟩:=R.live _ (jO hj d);rw[hf]at e p y z B;have e:gs[A.b+j]?=some Y.g:=e;have y:Y.k=kk (A.b+j):=y;have z:Y.O=OO (A.b+j):=z;have p:Y.m=gW P A j:=by have:Y.m=cx P A Fin s (A.b+j):=p;rw[this,mY hj d]
 obtain⟨kind,c,rest,tf,xo,a,hk,hg,E,Br,L,T,Q,U⟩:=hl;rw[y]at L Q U;rw[z]at E Br U
 have hh:h=true:=by
  obtain⟨l,_,hl,h2,h3,_⟩:=D.tok _ _ E;obtain rfl:l=j:=by omega
  rw[d]at h3;exact h3
 subst hh;have S:(s.w j).work=true:=by rw[d];rfl
 have G:(s.w j).pc=.held:=by rw[d];rfl
 have hu:=B j true X0 hj rfl d Y.node (.inl rfl) trivial;obtain⟨g2,⟨n,r⟩,V⟩:=oq (P:=P) (n:=A.nm) (b:=A.fb) (o:=A.fo) (kind:=kind) (cs:=c::rest) (Wd:=kF A) F;rw[<-hg]at r;have av:=Cc A.n
 have e1:Mu.set (λi=>(s.w i).pc) j .held=λi=>(s.w i).pc:=by
  have:=jf (λi=>(s.w i).pc) j
  rw[show(s.w j).pc=.held from G]at this
  exact this
 have u:∃f x a,OO (A.b+j) A.fb=some (.part f)/\OO (A.b+j) A.mb=some x/\jY (kk (A.b+j)) x a/\A.GI a/\(A.dir=true->(kk (A.b+j)).cell A.fb (A.cell j)=some (A.val j))/\Dw P A Y.N (kk (A.b+j)) (((OO (A.b+j)).del A.mb).del A.fb) (jG kind c rest (.tuple #[])):=⟨tf,xo,a,E,Br,L,T,Q,U⟩;cases n with
 | zero=>
   have e0:Y.g=g2:=r;rw[<-e0]at V;obtain⟨v,hv⟩:=((bf (P:=P) (A:=A) (Fin:=Fin) (Z:=Z) H).wd D).2.2;obtain⟨g1,W,hr,g3,⟨k,a7⟩,a8⟩:=wq (Wd:=kF A) (main:=false) (w:=w) C X (λw h=>h.2.2) hv V
   refine B7 (x:=.un .ur Y) (sh:=s.sh) H R hj S K (jB hj d) rfl (by rw[d];rfl) (λ_=>by rw[d];rfl) (D.I.still hj S rfl rfl (by rw[G];rfl)) (pX hj d rfl rfl hu ?_) e W (bg rfl) D.mu eZ rfl ⟨k,g3,a7,kind,c,rest,hk,a8,p,λ_=>u,λh=>absurd (.inr rfl) h⟩ (.inl λh0=>h0) sl
   show 4*Mu.meas A.n (Mu.set (λi=>(s.w i).pc) j .held) s.sh+4<_
   rw[e1];omega
 | succ n=>
   obtain⟨g1,⟨ax,a9⟩,ad⟩:=r;have al:kF A w:=(bf (P:=P) (A:=A) (Fin:=Fin) (Z:=Z) H).wd D;refine B7 (x:=.un .FG Y) (sh:=s.sh) H R hj S K (jB hj d) rfl (by rw[d];rfl) (λ_=>by rw[d];rfl) (D.I.still hj S rfl rfl (by rw[G];rfl)) (pX hj d rfl rfl hu ?_) e (a9 false w al) (bg rfl) D.mu eZ rfl ⟨n,g2,ad,kind,c,rest,hk,V,p,λ_=>u,λh=>absurd (.inl rfl) h⟩ (.inl λh0=>h0) sl
   show 4*Mu.meas A.n (Mu.set (λi=>(s.w i).pc) j .held) s.sh+5<_
   rw[e1];omega
end
section
variable{P:abm}{A:bJ}{Z:Base}{s:MS P}{kk:abl}{OO:abk}{J M:aba}{gsz:Nat}{w w':World}{t:Trace}
def cS.SL(h:cS P A Z s kk OO J M gsz w t)(a:MW A.gb 0 w w'):Calm Z w w':=by obtain⟨d,c,_⟩:=nK a h.yo;have:=h.eD.2.2;exact⟨a.1,λb hb=>c b (by omega)⟩
def cS.SM(h:cS P A Z s kk OO J M gsz w t)(d:MW A.gb 0 w w'):∀b,Kept kk OO w w' b:=λb=>by
 obtain⟨p,f,c,e,g,j,k,l,q⟩:=nK d h.yo;by_cases hb:b=A.gb
 . subst hb
   refine .inr (.inr ⟨c,g,e,j,k,l,λi x a=>(by rw[(h.fT i).2]at a;cases a),λn=>?_⟩);by_cases m:n=0
   . subst m;exact .inr λi=>(h.dT i).2.2.1
   . by_cases o:n=1
     . subst o;exact .inr λi=>(h.dT i).2.2.2
     simp_all
 . exact .inl (f b hb)
def cS.Pd(h:cS P A Z s kk OO J M gsz w t){n}(a:n=0\/n=1):Jd kk OO w.heap.size (.cell ⟨A.gb,n,none⟩):=by
 have b:A.gb<w.heap.size:=by obtain⟨c,e,d⟩:=h.yo;grind
 refine⟨b,λi=>⟨dK (h.fT i).2,?_⟩⟩
 rcases a with rfl|rfl
 . exact(h.dT i).2.2.1
 . exact(h.dT i).2.2.2
def cS.JX(h:cS P A Z s kk OO J M gsz w t){es}(p:EvM A.gb 0 es){i}(hi:bQ P A s i)  fn   pos :
 AG kk OO w.heap.size t i (MemOp.ofEvents i fn pos es)/\(∀op∈MemOp.ofEvents i fn pos es,op.act.low w.heap.size)/\(∀op∈MemOp.ofEvents i fn pos es,(∀a,op.act.touch?=some a->a.kind=.atomic/\xZ A a.loc)/\∀a,op.act≠.mark (.release a))/\
 ∀op∈MemOp.ofEvents i fn pos es,∀a,op.act.touch?=some a->Z.Shun a.loc:=by
 have v:A.gb<w.heap.size:=by obtain⟨c,e,j⟩:=h.yo;grind
 refine⟨λop d a k=>?_,λop d=>?_,λop d=>?_,λop d a k=>?_⟩<;>obtain⟨e,l,rfl⟩:=zH d<;>obtain⟨o,q,x⟩:=mX (p e l)
 . obtain⟨j,n,f,g⟩:=o a k
   have f:n=0\/n=1:=by omega
   refine⟨j,λ_=>by rw[g];exact h.Pd f,λm b hb r u=>h.quiet m b hb ?_ u i hi⟩
   rw[r,g];exact⟨rfl,.inr ⟨rfl,f⟩⟩
 . grind
 . refine⟨λa k=>?_,q⟩
   obtain⟨j,n,f,g⟩:=o a k;exact⟨j,by rw[g];exact⟨rfl,.inr ⟨rfl,by omega⟩⟩⟩
 . obtain⟨j,n,f,g⟩:=o a k
   have f:n=0\/n=1:=by omega
   rw[g];exact h.rS _ ⟨rfl,.inr ⟨rfl,f⟩⟩ ⟨_,rfl,rfl⟩
def G2{Z J M t u}{i m:Nat}{op a}(e:u[m]?=some op)(f:op.act.touch?=some a)(b:Z.Shun a.loc)(c:a.kind=.atomic)(d:¬(t++u).counts (t.size+m)):Told Z J M (t++u) (t.size+m) a:=.inr (.inr (.inr ⟨b,c,λh=>absurd h d⟩))
end
end
section
open Go.Conc
open Go.ConcN (sumTo upd sumTo_upd upd_ne upd_same)
variable{P:abm}
section
variable{s:MS P}{j n:Nat}{x:bo P}{sh:Mu.Sh}
def sb(hj:j<n)(h:x.bZ<(s.w j).bZ):MS.fL n (s.aT j x sh) s:=by
 have:=sa (s:=s) (x:=x) (sh:=sh) bo.bZ hj;refine .inl ?_;show s.ms.bZ+sumTo n (λi=>((s.aT j x sh).w i).bZ)+s.c.bZ s.gc<s.ms.bZ+sumTo n (λi=>(s.w i).bZ)+s.c.bZ s.gc;omega
def bN.vm(I:bN n s)(hj:j<n)(a:(s.w j).AE=true)(b:x.AE=true)(c:x.iq=(s.w j).iq\/s.d=true)(e:x.ok=true)(f:x.pc=(s.w j).pc):bN n (s.aT j x s.sh):=I.same hj a b c e (by rw[f,jf (λi=>(s.w i).pc)];exact I.mu)
end
end
section
open Go.Conc
open Go.ConcN (sumTo upd sumTo_upd upd_ne upd_same)
section
variable{P:abm}{A:bJ}{Fin:aaG}{Z:Base}{s:MS P}{f f':Nat->Node P}{q q':abg}{kk kk':abl}{OO OO':abk}{J J' M:aba}{gs:aaJ}{w w':World}{t:Trace}{j:Nat}{x:bo P}{sh:Mu.Sh}{g g1:abd}
def l8(hj:j<A.n){p}(e:s.w j=.dn p):fS P A s (A.b+j):=.inr (.inl ⟨j,hj,rfl,by simp_all⟩)
def jP(hj:j<A.n){p}(e:s.w j=.dn p):¬dq P A s (A.b+j):=by
 have:=A.hb;rintro(⟨e,_⟩|⟨l,a,c,d⟩|⟨e,_⟩)
 . omega
 . simp_all
 . omega
def pj(hj:j<A.n){p}(e:s.w j=.dn p):¬eL P A s (A.b+j):=by
 have:=A.hb;rintro(⟨e,_⟩|⟨l,a,c,d⟩)
 . omega
 simp_all
end
section
variable{P:abm}{A:bJ}{Fin:aaG}{Z:Base}{s:MS P}{f:Nat->Node P}{q:abg}{kk:abl}{OO:abk}{J M:aba}{gs:aaJ}{gsz:Nat}{w w':World}{t u:Trace}{j:Nat}{x:bo P}{sh:Mu.Sh}{g:abd}
variable(C:ga P A.ng)(X:il P A.ng)
include C X in
def NJ  z  (L:bC (bV P A Fin Z z) Z s f q kk OO J M gs w t) (hj:j<A.n) (d:s.w j=.dn .d2) (hg:gs[A.b+j]?=some g) (N:FX P A j (.dn .d2) (kk (A.b+j)) (OO (A.b+j)) g)  sl :
 Goes P A Fin Z z s gs w t sl (A.b+j):=by
 have r:cS P A Z s kk OO J M gs.size w t:=L.ex;have B:=bf (P:=P) (A:=A) (Fin:=Fin) (Z:=Z) z;have hb:=A.hb;have Q:(A.b+j==0)=false:=by simp;omega
 obtain⟨fw,fn,tmps,todo,R,D,hM⟩:=N;obtain⟨g1,S,hr,g2,⟨k,E⟩,F⟩:=UO (Wd:=kF A) (main:=false) (w:=w) C X hM;obtain⟨x,o⟩:∃x:bo P,x=.dn .d4:=⟨_,rfl⟩;have c:(s.aT j x s.sh).w j=.dn .d4:=by rw[aU,o]
 have T:=l8 (P:=P) (A:=A) (s:=s) hj d
 have u:Deaf t (A.b+j)=0:=by obtain⟨_,_,u,_⟩:=L.walk _ T;rw[u];show dC P A s (A.b+j)=0;rw[dY hj,d];rfl
 have G:=runT_crowd_go (P:=P) (sl:=sl) (i:=A.b+j) hg (by rw[Q];exact S)
 have H:bQ P A s (A.b+j):=ir r.I hj (by rw[d];rfl)
 obtain⟨y1,y2,y3,y4⟩:=r.JX (es:=#[⟨.mark .disable,false,true⟩]) (λe K=>by simp at K;subst K;exact .inl (.inl rfl)) H g.frame.fn g.frame.place
 have p:∀op∈MemOp.ofEvents (A.b+j) g.frame.fn g.frame.place #[⟨.mark .disable,false,true⟩],op.g=A.b+j:=λop v=>by obtain⟨e,_,rfl⟩:=zH v;rfl
 have U:∀op∈MemOp.ofEvents (A.b+j) g.frame.fn g.frame.place #[⟨.mark .disable,false,true⟩],op.act.touch?=none:=λop v=>by obtain⟨e,K,rfl⟩:=zH v;simp at K;subst K;rfl
 have hP:=L.cJ.O9 (i:=A.b+j) (w':=w) p rfl ⟨⟨.refl _,rfl⟩,λ_ _=>rfl⟩ (λb=>.inl rfl) y2 y1 (λm op a h1 h2 _=>by rw[U op (Ze h1)]at h2;cases h2)
 have hI:bN A.n (s.aT j x s.sh):=r.I.vm hj (by rw[d];rfl) (by rw[o];rfl) (.inl (by rw[o,d];rfl)) (by rw[o];rfl) (by rw[o,d];rfl)
 have hL:MS.fL A.n (s.aT j x s.sh) s:=sb hj (by rw[o,d];simp[bo.bZ])
 have V:=r.wD (x:=x) (sh:=s.sh) (w':=w) hj (by rw[o,d];rfl) (by rw[o,d];rfl) (λ_=>by rw[o,d];rfl) hI r.mu (λ_ _=>rfl) r.uA y3
 have W:Beside (bV P A Fin Z z) s (s.aT j x s.sh) f f q (upd q (A.b+j) k) kk kk OO OO J J w (A.b+j) g g1:=pe z hj (by rw[o,d];rfl) (λi hi=>rfl) (λi hi=>upd_ne q k hi) (λ_ _ _=>rfl) (λ_ _ _=>rfl) (λ_ _ h=>h) (.inl λh=>h) (λ{i k O y} F=>B.kq (s:=s) (i:=i) (k:=k) (O:=O) (g:=y) F)
 refine⟨_,_,G,s.aT j x s.sh,f,upd q (A.b+j) k,kk,OO,J,M,_,_,_,rfl,hL,?_⟩;refine bC.step B L hg p hP V (λl y Y F=>B.rW r Y _ _ F) W ⟨λY=>absurd Y (jP hj c),λ_=>⟨jP hj c,?_,?_,g2,?_,?_⟩,λhh=>absurd hh (pj hj c),λ_ hn _=>absurd (l8 hj c) hn⟩
 . show A.b+j<A.b+A.n+1;omega
 . rw[Deaf_own,u]
   show _=dC P A (s.aT j x s.sh) (A.b+j);rw[dY hj,c];rfl
 . refine .inr (.inl ⟨j,hj,rfl,?_⟩)
   rw[c];exact⟨fw,fn,tmps,todo,R,D,F⟩
 . exact .inr (by rw[upd_same];exact E)
end
section
variable{Z:Base}{kk:abl}{OO:abk}{J M:aba}{w:World}{t:Trace}
def cq.bS(h:cq Z kk OO J M w t){i ad}(o:ad.block<w.heap.size)(hd:Deaf t i=0)  fn   pos :
 cq Z kk OO (λl=>J l/\l≠i) (λp=>M p\/p=t.size) w (t++MemOp.ofEvents i fn pos #[⟨.mark (.releaseMerge ad),false,true⟩]):=by
 obtain⟨u,A⟩:∃u,u=MemOp.ofEvents i fn pos #[⟨.mark (.releaseMerge ad),false,true⟩]:=⟨_,rfl⟩;have d:u=#[⟨i,fn,pos,.mark (.releaseMerge ad)⟩]:=by rw[A,ofEvents_eq];simp[MemAct.ofEvent]
 rw[<-A];have B:∀op∈u,op.act.touch?=none:=λop c=>by rw[d]at c;simp at c;subst c;rfl
 have f:∀op∈u,op.g=i:=λop c=>by grind
 have q:u[0]?=some ⟨i,fn,pos,.mark (.releaseMerge ad)⟩:=by grind
 exact h.sZ (λa b=>a=b) rfl ⟨⟨.refl _,rfl⟩,λ_ _=>rfl⟩ (λb=>.inl rfl) (λop c=>by rw[d]at c;simp at c;subst c;simpa[MemAct.low]using o) (λa b e n y _ _ _ C=>by subst e;exact C.app u)
  (λj b n v h=>⟨j,rfl,h⟩) (λj b s h=>⟨j,rfl,h⟩) (λj b x h=>⟨j,rfl,h,λ_ h=>h⟩) h.jb
  (λsaid=>noRace_append (h.clean said) f λn a r op c b hb _=>by simp_all) (λop c a r=>by simp_all) (λm op a c r=>by grind)
  (fun n a r D h=>h.elim (λ⟨j,z,k⟩=>by
    by_cases e:j=i
    . subst e;exact .inr (.inr (.inl ⟨t.size+0,.inr rfl,lh k q rfl⟩))
    . exact .inr (.inl ⟨j,⟨z,e⟩,k.app _⟩)) (λ⟨p,z,k⟩=>.inr (.inr (.inl ⟨p,.inl z,k.app _⟩))))
end
section
variable{P:abm}{A:bJ}{Fin:aaG}{Z:Base}{s:MS P}{f:Nat->Node P}{q:abg}{kk:abl}{OO:abk}{J M:aba}{gs:aaJ}{gsz:Nat}{w w':World}{t u:Trace}{j:Nat}{x:bo P}{sh:Mu.Sh}{g:abd}
def cS.bS(h:cS P A Z s kk OO J M gsz w t)(hj:j<A.n)(z:x.busy=false)(B:s.c=.none\/s.c=.dS\/∃q,s.c=.wt q)(hd:Deaf t (A.b+j)=0)(E:∃op,u[0]?=some op/\op.g=A.b+j/\op.act=.mark (.releaseMerge ⟨A.gb,0,none⟩))(C:jZ u)(S:x.owns=(s.w j).owns)(F:x.gX=(s.w j).gX)(T:bN A.n (s.aT j x sh))(G:ShM A.fb A.fo w' sh)
 (d:∀b,b≠A.fb->w'.heap[b]?=w.heap[b]?) (H:∃c e,w'.heap[A.fb]?=some (.cells c e (0,0))) (O:∀op∈u,(∀a,op.act.touch?=some a->a.kind=.atomic/\xZ A a.loc)/\∀a,op.act≠.mark (.release a)):
 cS P A Z (s.aT j x sh) kk OO (λl=>J l/\l≠A.b+j) (λp=>M p\/p=t.size) gsz w' (t++u):=by
 have hb:=A.hb
 have D:∀l,((s.aT j x sh).w l).owns=(s.w l).owns:=λl=>by
  by_cases e:l=j
  . subst e;rw[aU,S]
  rw[cd e]
 refine⟨T,h.size,h.dd,h.off,h.Ei (λhd l _=>⟨?_,D l⟩) (λop k a I=>((O op k).1 a I).2),λhd=>by rw[d _ A.d1];exact h.yV hd,G,h.gr.same (.of_heap (d _ (zj A.d4))),H,by rw[d _ (zj A.d4)];exact h.yo,h.fT,h.dT,λi y U=>?_,λl Q K=>h.yp l Q (by simp_all),λK=>h.MV λl Q=>by simp_all,λc L=>?_,
  λi=>?_,λp N=>?_,λL=>?_,h.jM u (λop k a I _ V=>?_),h.nI u (λop k a I _ V=>?_),h.o6 u,h.je u (λop k=>(O op k).2),h.B3,h.rS,h.jA,h.eD,h.la,by simp;exact YO h.n0 (Zs _ _)⟩
 . by_cases e:l=j
   . subst e;rw[aU,F]
   rw[cd e]
 . obtain⟨l,f,o,r,v,W⟩:=h.tok i y U
   exact⟨l,f,o,r,by simp_all,W⟩
 . obtain⟨o,r⟩:=h.MX c L
   simp_all
 . rw[h.hJ i]
   constructor
   . rintro⟨⟨l,o,r,v⟩|⟨o,r⟩,X⟩
     . exact .inl ⟨l,o,r,by rw[cd (by omega)];exact v⟩
     exact .inr ⟨o,r⟩
   rintro(⟨l,o,r,v⟩|⟨o,r⟩)
   . by_cases e:l=j
     . subst e;rw[aU,z]at v;cases v
     rw[cd e]at v;exact⟨.inl ⟨l,o,r,v⟩,by omega⟩
   exact⟨.inr ⟨o,r⟩,by omega⟩
 . rcases N with N|rfl
   . exact h.uC u p N
   obtain⟨op,R,Y,e3⟩:=E;refine⟨heard_new (m:=0) C R (by simp_all),h.n0,.inl ⟨?_,B⟩⟩;have e4:=act?_of (di (t:=t) (m:=0) R)
   simp_all
 . obtain⟨p,o,r,v⟩:=h.lX u L
   grind
 . grind
 grind
variable(C:ga P A.ng)(X:il P A.ng)
include C X in
def NK  E  (Q:bC (bV P A Fin Z E) Z s f q kk OO J M gs w t) (hj:j<A.n) (m:s.w j=.dn .d1) (hg:gs[A.b+j]?=some g) (R:FX P A j (.dn .d1) (kk (A.b+j)) (OO (A.b+j)) g)  sl :
 Goes P A Fin Z E s gs w t sl (A.b+j):=by
 have v:cS P A Z s kk OO J M gs.size w t:=Q.ex;have B:=bf (P:=P) (A:=A) (Fin:=Fin) (Z:=Z) E;have hb:=A.hb;have S:(A.b+j==0)=false:=by simp;omega
 obtain⟨fw,fn,tmps,todo,T,F,hM⟩:=R;obtain⟨g1,U,hr,g2,⟨k,G⟩,H⟩:=UN (Wd:=kF A) (main:=false) (w:=w) C X hM;obtain⟨x,u⟩:∃x:bo P,x=.dn .d2:=⟨_,rfl⟩;have d:(s.aT j x s.sh).w j=.dn .d2:=by rw[aU,u]
 have V:=l8 (P:=P) (A:=A) (s:=s) hj m
 have o:Deaf t (A.b+j)=0:=by obtain⟨_,_,o,_⟩:=Q.walk _ V;rw[o];show dC P A s (A.b+j)=0;rw[dY hj,m];rfl
 have K:=runT_crowd_go (P:=P) (sl:=sl) (i:=A.b+j) hg (by rw[S];exact U)
 have a7:bQ P A s (A.b+j):=ir v.I hj (by rw[m];rfl)
 have L:∀op∈MemOp.ofEvents (A.b+j) g.frame.fn g.frame.place #[⟨.mark (.releaseMerge ⟨A.gb,0,none⟩),false,true⟩],op.g=A.b+j:=λop r=>by obtain⟨e,_,rfl⟩:=zH r;rfl
 have y3:∀op∈MemOp.ofEvents (A.b+j) g.frame.fn g.frame.place #[⟨.mark (.releaseMerge ⟨A.gb,0,none⟩),false,true⟩],(∀a,op.act.touch?=some a->a.kind=.atomic/\xZ A a.loc)/\∀a,op.act≠.mark (.release a):=λop r=>by obtain⟨e,N,rfl⟩:=zH r;simp at N;subst N;exact⟨λa ha=>by simp[MemAct.ofEvent,MemAct.touch?]at ha,λa h=>by simp[MemAct.ofEvent]at h⟩
 have z:jZ (MemOp.ofEvents (A.b+j) g.frame.fn g.frame.place #[⟨.mark (.releaseMerge ⟨A.gb,0,none⟩),false,true⟩]):=λop r=>by obtain⟨e,N,rfl⟩:=zH r;simp at N;subst N;simp[MemAct.ofEvent]
 have hG:A.gb<w.heap.size:=by obtain⟨c,e,h1⟩:=v.yo;exact(zs.1 h1).1
 have hP:=Q.cJ.bS (i:=A.b+j) (ad:=⟨A.gb,0,none⟩) hG o g.frame.fn g.frame.place
 have D:s.c=.none\/s.c=.dS\/∃q,s.c=.wt q:=by
  cases e:s.c with
  |none=>exact .inl rfl
  |dS=>exact .inr (.inl rfl)
  |wt p=>exact .inr (.inr ⟨p,rfl⟩)
  |jc=>have:=(v.I.g8 (by rw[e];rfl)).2.2.2 j hj;rw[m]at this;cases this
  |gone=>have:=(v.I.g8 (by rw[e];rfl)).2.2.2 j hj;rw[m]at this;cases this
 have hI:bN A.n (s.aT j x s.sh):=v.I.vm hj (by rw[m];rfl) (by rw[u];rfl) (.inl (by rw[u,m];rfl)) (by rw[u];rfl) (by rw[u,m];rfl)
 have hL:MS.fL A.n (s.aT j x s.sh) s:=sb hj (by rw[u,m];simp[bo.bZ])
 have W:=v.bS (x:=x) (sh:=s.sh) (w':=w) hj (by rw[u];rfl) D o ⟨⟨A.b+j,g.frame.fn,g.frame.place,.mark (.releaseMerge ⟨A.gb,0,none⟩)⟩,by rw[ofEvents_eq];simp[MemAct.ofEvent],rfl,rfl⟩ z (by rw[u,m];rfl) (by rw[u,m];rfl) hI v.mu (λ_ _=>rfl) v.uA y3
 have Y:Beside (bV P A Fin Z E) s (s.aT j x s.sh) f f q (upd q (A.b+j) k) kk kk OO OO J (λl=>J l/\l≠A.b+j) w (A.b+j) g g1:=pe E hj (by rw[u,m];rfl) (λi hi=>rfl) (λi hi=>upd_ne q k hi) (λ_ _ _=>rfl) (λ_ _ _=>rfl) (λ_ hn h=>⟨h,hn⟩) (.inl λh=>h) (λ{i k O y} H=>B.kq (s:=s) (i:=i) (k:=k) (O:=O) (g:=y) H)
 refine⟨_,_,K,s.aT j x s.sh,f,upd q (A.b+j) k,kk,OO,(λl=>J l/\l≠A.b+j),(λp=>M p\/p=t.size),_,_,_,rfl,hL,?_⟩
 refine bC.step B Q hg L hP W (λl y hl H=>B.rW v hl _ _ H) Y ⟨λhl=>absurd hl (jP hj d),λ_=>⟨jP hj d,?_,?_,g2,?_,?_⟩,λhh=>absurd hh (pj hj d),λ_ hn _=>absurd (l8 hj d) hn⟩
 . show A.b+j<A.b+A.n+1;omega
 . rw[Deaf_own,o]
   show _=dC P A (s.aT j x s.sh) (A.b+j);rw[dY hj,d];rfl
 . refine .inr (.inl ⟨j,hj,rfl,?_⟩)
   rw[d];exact⟨fw,fn,tmps,todo,T,F,H⟩
 exact .inr (by rw[upd_same];exact G)
end
section
variable{P:abm}{A:bJ}{Fin:aaG}{Z:Base}{s s':MS P}{f f':Nat->Node P}{q q':abg}{kk kk':abl}{OO OO':abk}{J J' M:aba}{gs:aaJ}{gsz:Nat}{w w':World}{t u:Trace}{i:Nat}{g g1:abd}
def qW{c:jz}:c.dV=true↔c=.gone:=by cases c<;>simp[jz.dV]
def nM{c:jz}:c.isNone=true↔c=.none:=by cases c<;>simp[jz.isNone]
def cS.SN{M'}(h:cS P A Z s kk OO J M gsz w t)(L:eE A s s' i)(G:∀l,l<A.n->(s'.w l).owns=(s.w l).owns)(O:∀l,l<A.n->(s'.w l).gX=(s.w l).gX)(H:uX P A s')(o:s'.c.dV=s.c.dV)(b:s'.c.isNone=s.c.isNone)
 (Q:∀p,M' p->M p) (av:s.c=.gone->∀p,M p->M' p) (R:(∃p,M' p)->(s.c=.none\/s.c=.dS\/∃q,s.c=.wt q)->(s'.c=.none\/s'.c=.dS\/∃q,s'.c=.wt q)) (S:∀i,dL P A s' i↔dL P A s i) (hI:bN A.n s') (T:s'.sh=s.sh) (U:qz A.gb w' s'.gc s'.gv s'.gm) (V:MW A.gb 0 w w')
 (W:∀op∈u,(∀a,op.act.touch?=some a->(a.kind=.atomic\/(a.kind=.said/\op.g=(if s.c.isNone then 0 else A.cl)))/\xZ A a.loc)/\∀a,op.act≠.mark (.release a)):cS P A Z s' kk OO J M' gsz w' (t++u):=by
 obtain⟨m1,X,c,e,c',m3,m4,_⟩:=nK V h.yo
 have z:∀i,bQ P A s' i->bQ P A s i:=λi C=>by
  rcases C with Y|⟨j,k,r⟩|⟨k,r⟩
  . exact .inl Y
  . exact .inr (.inl ⟨j,by rw[<-L.sp];exact k,r⟩)
  refine .inr (.inr ⟨k,λe=>r ?_⟩);exact nM.1 (by rw[b];exact nM.2 e)
 have D:∀i,bQ P A s i->bQ P A s' i:=λi C=>by
  rcases C with Y|⟨j,k,r⟩|⟨k,r⟩
  . exact .inl Y
  . exact .inr (.inl ⟨j,by rw[L.sp];exact k,r⟩)
  refine .inr (.inr ⟨k,λe=>r ?_⟩);exact nM.1 (by rw[<-b];exact nM.2 e)
 have a7:s'.c=.gone↔s.c=.gone:=by rw[<-qW,<-qW,o]
 refine⟨hI,by rw[L.sp,b];exact h.size,by rw[L.d];exact h.dd,H,h.Ei (λ_ l E=>⟨O l E,G l E⟩) (λop v a F=>((W op v).1 a F).2),λhd=>by rw[X _ A.d2,o];exact h.yV hd,by rw[T];exact h.mu.same (.of_heap (X _ A.d4)),U,by rw[X _ A.d4];exact h.uA,⟨c',e,m4⟩,h.fT,h.dT,λi y hy=>?_,λl E a8=>h.yp l E (by simp_all),λa8=>h.MV λl E=>by simp_all,λc hc=>?_,
  λi=>by rw[h.hJ i];simp_all,λp hp=>?_,λhc=>(by
   obtain⟨p,k,r,B⟩:=h.lX u (a7.1 hc)
   grind),λm a F hs N i C=>h.jM u (λop v a F _ N=>?_) m a F hs N i (z i C),λm a F hs N=>?_,λi C=>h.o6 u i (z i C),h.je u (λop v=>(W op v).2),λi a9 hn=>h.B3 i a9 (λhb=>hn (D i hb)),h.rS,h.jA,h.eD,h.la,by simp;exact YO h.n0 (Zs _ _)⟩
 . obtain⟨l,f,B,I,h5,h6⟩:=h.tok i y hy
   exact⟨l,f,B,I,by grind,h6⟩
 . obtain⟨B,I⟩:=h.MX c hc
   simp_all
 . obtain⟨k,r,B⟩:=h.uC u p (Q p hp)
   refine⟨k,r,?_⟩;rcases B with⟨B,I⟩|⟨B,I⟩
   . exact .inl ⟨B,R ⟨p,hp⟩ I⟩
   simp_all
 . grind
 rw[b];obtain⟨x,hx,K⟩:=touch_of F;rcases getElem?_append_cases hx with⟨E,ad⟩|⟨_,al⟩
 . exact(h.said m a (by rw[touchAt_of ad];exact K) hs N).app u
 rcases((W x al).1 a K).1 with k|⟨_,k⟩
 . simp_all
 rw[<-k];exact⟨m,x,hx,rfl,.inl rfl⟩
def cS.NL(h:cS P A Z s kk OO J M gsz w t)(v:eE A s s' i)(f:∀l,l<A.n->(s'.w l).owns=(s.w l).owns)(k:∀l,l<A.n->(s'.w l).gX=(s.w l).gX)(j:uX P A s')(b:s'.c.dV=s.c.dV)(d:s'.c.isNone=s.c.isNone)
 (m:(s.c=.none\/s.c=.dS\/∃q,s.c=.wt q)->(s'.c=.none\/s'.c=.dS\/∃q,s'.c=.wt q)) (e:∀i,dL P A s' i↔dL P A s i) (x:bN A.n s') (o:s'.sh=s.sh) (p:qz A.gb w' s'.gc s'.gv s'.gm) (r:MW A.gb 0 w w')
 (y:∀op∈u,(∀a,op.act.touch?=some a->(a.kind=.atomic\/(a.kind=.said/\op.g=(if s.c.isNone then 0 else A.cl)))/\xZ A a.loc)/\∀a,op.act≠.mark (.release a)):cS P A Z s' kk OO J M gsz w' (t++u):=
 h.SN v f k j b d (λ_ h=>h) (λ_ _ h=>h) (λ_=>m) e x o p r y
def P4(b:Nat)(es:aaU):Prop:=∀e∈es,((e.loc=.mark .disable\/e.loc=.mark .enable)\/∃i,(i=0\/i=0+1)/\e.loc=.cell ⟨b,i,none⟩/\e.sync=true)\/∃i,(i=0\/i=1)/\(e.loc=.mark (.read ⟨b,i,none⟩)\/e.loc=.mark (.write ⟨b,i,none⟩))
def P5{b es}(h:EvM b 0 es):P4 b es:=λe a=>.inl (h e a)
def JY(kk:abl)(OO:abk)(B:Nat)(t:Trace)(i:Nat)(u:Trace):Prop:=∀op∈u,∀a,op.act.touch?=some a->(a.kind=.atomic\/a.kind=.said)/\(a.loc.isMemory=true->Jd kk OO B a.loc)/\∀n b,touchAt t n=some b->b.loc=a.loc->(b.kind=.plain\/(a.kind=.said/\b.kind=.said))->Knows t i n
def cq.JX(h:cq Z kk OO J M w t)(d:∀op∈u,op.g=i)(y:w'.heap.size=w.heap.size)(z:Calm Z w w')(hb:∀b,Kept kk OO w w' b)(A:∀op∈u,op.act.low w.heap.size)(q:JY kk OO w.heap.size t i u)
 (l:∀m op a,u[m]?=some op->op.act.touch?=some a->a.loc.isMemory=true->Told Z J M (t++u) (t.size+m) a):cq Z kk OO J M w' (t++u):=
 h.sZ (λa b=>a=b) y z hb A (λa b e n x _ _ _ B=>by subst e;exact B.app u) (λj b n v h=>⟨j,rfl,h⟩) (λj b s h=>⟨j,rfl,h⟩) (λj b x h=>⟨j,rfl,h,λ_ h=>h⟩) h.jb
  (fun said=>noRace_append (h.clean said) d λn a o op c b hb C=>by
    obtain⟨f,k,D⟩:=q op c b hb;obtain⟨E,_,_,F⟩:=C
    grind)
  (λop c a o r=>(q op c a o).2.1 r) l
  (λn a o r h=>h.elim (λ⟨j,f,k⟩=>.inr (.inl ⟨j,f,k.app _⟩)) (λ⟨p,f,k⟩=>.inr (.inr (.inl ⟨p,f,k.app _⟩))))
def kP{b e}(he:((e.loc=.mark .disable\/e.loc=.mark .enable)\/∃i,(i=0\/i=0+1)/\e.loc=.cell ⟨b,i,none⟩/\e.sync=true)\/∃i,(i=0\/i=1)/\(e.loc=.mark (.read ⟨b,i,none⟩)\/e.loc=.mark (.write ⟨b,i,none⟩))):
 (∀a,(MemAct.ofEvent e).touch?=some a->(a.kind=.atomic\/a.kind=.said)/\∃i,(i=0\/i=1)/\a.loc=.cell ⟨b,i,none⟩)/\(∀a,MemAct.ofEvent e≠.mark (.release a))/\∀B,b<B->(MemAct.ofEvent e).low B:=by
 rcases he with he|⟨i,d,he⟩
 . obtain⟨g,h,j⟩:=mX he
   simp_all
 obtain⟨loc,wr,k⟩:=e;rcases he with he|he<;>simp only at he<;>subst he
 all_goals
  refine⟨λa c=>?_,by simp[MemAct.ofEvent],λB f=>by simpa[MemAct.ofEvent,MemAct.low]using f⟩;simp only[MemAct.ofEvent,MemAct.touch?,kn]at c;subst c;exact⟨.inr rfl,i,d,rfl⟩
def AJ  K  (Y:bC (bV P A Fin Z K) Z s f q kk OO J M gs w t) (Q:bQ P A s i) (a7:¬eL P A s i) (hg:gs[i]?=some g){es}(a8:stepG P (i==0) g w=.go g1 w' es)
 (hS:eE A s s' i) (R:∀l,l<A.n->(s'.w l).owns=(s.w l).owns) (a9:∀l,l<A.n->(s'.w l).gX=(s.w l).gX) (S:uX P A s') (F:s'.c.dV=s.c.dV) (G:s'.c.isNone=s.c.isNone) (ad:(s.c=.none\/s.c=.dS\/∃q,s.c=.wt q)->(s'.c=.none\/s'.c=.dS\/∃q,s'.c=.wt q)) (H:∀i,dL P A s' i↔dL P A s i)
 (hI:bN A.n s') (al:s'.sh=s.sh) (av:qz A.gb w' s'.gc s'.gv s'.gm) (C:MW A.gb 0 w w') (u:EvM A.gb 0 es\/(P4 A.gb es/\i=(if s.c.isNone then 0 else A.cl))) (hL:MS.fL A.n s' s)
 (hT:(i=0\/J i)\/(EvM A.gb 0 es/\∀  m   op   a ,(MemOp.ofEvents i g.frame.fn g.frame.place es)[m]?=some op->op.act.touch?=some a->Z.Shun a.loc->a.kind=.atomic->Told Z J M (t++MemOp.ofEvents i g.frame.fn g.frame.place es) (t.size+m) a))
 (T:(s.gm=0->s'.gm=0)\/(mayWake P g=true/\(g1.status=.running\/g1.status=.finished))) (hf:∀j,j≠i->f' j=f j) (hq:∀j,j≠i->q' j=q j)
 (hs:Self P (bV P A Fin Z K) s' f' q' kk OO J (t++MemOp.ofEvents i g.frame.fn g.frame.place es) i g1)  sl :Goes P A Fin Z K s gs w t sl i:=by
 have D:cS P A Z s kk OO J M gs.size w t:=Y.ex;have B:=bf (P:=P) (A:=A) (Fin:=Fin) (Z:=Z) K;have U:=runT_crowd_go (P:=P) (sl:=sl) (i:=i) hg a8;have hG:A.gb<w.heap.size:=by obtain⟨c,e,E⟩:=D.yo;grind
 have o:P4 A.gb es:=u.elim P5 (·.1);have p:∀op∈MemOp.ofEvents i g.frame.fn g.frame.place es,op.g=i:=λop d=>by obtain⟨e,_,rfl⟩:=zH d;rfl
 have v:∀op∈MemOp.ofEvents i g.frame.fn g.frame.place es,∀a,op.act.touch?=some a->a.kind=.atomic\/(a.kind=.said/\op.g=(if s.c.isNone then 0 else A.cl)):=λop d a x=>by
  obtain⟨e,r,rfl⟩:=zH d
  rcases u with u|⟨_,hi⟩
  . exact .inl ((mX (u e r)).1 a x).1
  rcases((kP (o e r)).1 a x).1 with h|h
  . exact .inl h
  simp_all
 have y1:JY kk OO w.heap.size t i (MemOp.ofEvents i g.frame.fn g.frame.place es):=λop d a x=>by
  have ay:=v op d a x;have aC:=p op d;obtain⟨e,r,rfl⟩:=zH d;obtain⟨E,n,L,z⟩:=(kP (o e r)).1 a x;have aE:xZ A a.loc:=by rw[z];exact⟨rfl,.inr ⟨rfl,L⟩⟩
  refine⟨E,λ_=>by rw[z];exact D.Pd L,λm b hb X N=>?_⟩
  rcases N with N|⟨aL,ax⟩
  . exact D.quiet m b hb (by simp_all) N i Q
  have h5:=D.said m b hb (by simp_all) ax
  simp_all
 have y2:∀op∈MemOp.ofEvents i g.frame.fn g.frame.place es,op.act.low w.heap.size:=λop d=>by obtain⟨e,r,rfl⟩:=zH d;exact(kP (o e r)).2.2 _ hG
 have y3:∀op∈MemOp.ofEvents i g.frame.fn g.frame.place es,(∀a,op.act.touch?=some a->(a.kind=.atomic\/(a.kind=.said/\op.g=(if s.c.isNone then 0 else A.cl)))/\xZ A a.loc)/\∀a,op.act≠.mark (.release a):=λop d=>⟨λa x=>⟨v op d a x,by
  obtain⟨e,r,rfl⟩:=zH d;obtain⟨_,n,L,z⟩:=(kP (o e r)).1 a x;rw[z];exact⟨rfl,.inr ⟨rfl,L⟩⟩⟩,by
  obtain⟨e,r,rfl⟩:=zH d;exact(kP (o e r)).2.1⟩
 have y4:∀op∈MemOp.ofEvents i g.frame.fn g.frame.place es,∀a,op.act.touch?=some a->Z.Shun a.loc:=λop d a x=>by obtain⟨e,r,rfl⟩:=zH d;obtain⟨E,n,L,z⟩:=(kP (o e r)).1 a x;rw[z];exact D.rS _ ⟨rfl,.inr ⟨rfl,L⟩⟩ ⟨_,rfl,rfl⟩
 obtain⟨m1,m2,c,e,c',m3,m4,_⟩:=nK C D.yo
 have hP:=Y.cJ.JX (i:=i) p m1 (D.SL C) (D.SM C) y2 y1 (λm op a E z _=>by
  rcases hT with hJ|⟨u,hT⟩
  . have N:Knows (t++MemOp.ofEvents i g.frame.fn g.frame.place es) i (t.size+m):=knows_own E (p op (Ze E))
    rcases hJ with rfl|hJ
    . exact .inl N
    exact .inr (.inl ⟨i,hJ,N⟩)
  refine hT m op a E z (y4 op (Ze E) a z) ?_;obtain⟨e,r,rfl⟩:=zH (Ze E);exact((mX (u e r)).1 a z).1)
 have V:cS P A Z s' kk OO J M gs.size w' (t++MemOp.ofEvents i g.frame.fn g.frame.place es):=D.NL hS R a9 S F G ad H hI al av C y3
 have I:Beside (bV P A Fin Z K) s s' f f' q q' kk kk OO OO J J w' i g g1:=lz K hS hf hq (λ_ _ _=>rfl) (λ_ _ _=>rfl) (λ_ _ h=>h) (T.imp (λh=>⟨λh0=>by grind,h⟩) id) (λ{i k O y} hA=>B.kq (s:=s) (i:=i) (k:=k) (O:=O) (g:=y) hA)
 refine⟨_,_,U,s',f',q',kk,OO,J,M,_,_,_,rfl,hL,?_⟩;refine bC.step B Y hg p hP V (λl y X hA=>?_) I hs
 have W:l≠i:=λe=>a7 (e ▸ X)
 exact B.rW V ((I.held l W).2 X) _ _ (I.Ro l _ _ _ W X hA)
def F0{g}:∀m,m<=u.size->(∀l op,l<m->u[l]?=some op->op.act≠.mark .enable)->Deaf t g<=(t++u).deaf g (t.size+m)
 |0,_,_=>by show Deaf t g<=(t++u).deaf g t.size;rw[deaf_old (YF _)];exact YF _
 | m+1,h,a=>by
   have b:m<u.size:=by omega
   have c:(t++u)[t.size+m]?=some u[m]:=by simp_all
   have d:=F0 (g:=g) m (by omega) (λl op e=>a l op (by omega));rw[<-Nat.add_assoc,deaf_succ c];have:=a m u[m] (by omega) (by simp[b]);unfold deafStep
   grind
def El{es fn pos}(hd:1<=Deaf t i)(o:∀  m   op   a ,(MemOp.ofEvents i fn pos es)[m]?=some op->op.act.touch?=some a->∀(l:Nat)  b ,l<m->(MemOp.ofEvents i fn pos es)[l]?=some b->b.act≠.mark .enable):∀  m   op   a ,(MemOp.ofEvents i fn pos es)[m]?=some op->op.act.touch?=some a->Z.Shun a.loc->a.kind=.atomic->Told Z J M (t++MemOp.ofEvents i fn pos es) (t.size+m) a:=λm op a d h p n=>by
 refine G2 (i:=i) d h p n λq=>?_
 obtain⟨x,f,_,c⟩:=q;rw[act?_of (di d)]at f;have f:op.act.touch?=some x:=f;rw[h]at f;obtain rfl:=YX f;rcases c with c|⟨j,r,s⟩
 . exact c n
 have v:op.g=i:=by obtain⟨e,_,rfl⟩:=zH (Ze d);rfl
 have:j=i:=by
  have w:(t++MemOp.ofEvents i fn pos es).g? (t.size+m)=some op.g:=by simp[Trace.g?,di d]
  simp_all
 subst this;have z:=(zs.1 d).1;have:=F0 (t:=t) (u:=MemOp.ofEvents j fn pos es) (g:=j) m (by omega) (λl b y k=>o m op _ d h l b y k);omega
end
end
section
open Go.Conc
open Go.ConcN (sumTo upd sumTo_upd upd_ne upd_same)
variable{P:abm}
def MS.gZ(s:MS P)(j:Nat)(x:bo P)(gc gv gm:Nat):MS P:={s with w:=λi=>if i=j then x else s.w i,gc:=gc,gv:=gv,gm:=gm}
section
variable{s:MS P}{j n:Nat}{x:bo P}{gc gv gm:Nat}
def bK:(s.gZ j x gc gv gm).w j=x:=by simp[MS.gZ]
def dk{i}(h:i≠j):(s.gZ j x gc gv gm).w i=s.w i:=by simp[MS.gZ,h]
def NM:(λi=>((s.gZ j x gc gv gm).w i).pc)=Mu.set (λi=>(s.w i).pc) j x.pc:=by
 funext i;by_cases h:i=j
 . subst h;rw[bK,Mu.aj]
 rw[dk h,Mu.ah _ _ h]
def Ce(F:bo P->Nat)(hj:j<n):sumTo n (λi=>F ((s.gZ j x gc gv gm).w i))+F (s.w j)=sumTo n (λi=>F (s.w i))+F x:=by
 have e:(λi=>F ((s.gZ j x gc gv gm).w i))=upd (λi=>F (s.w i)) j (F x):=by
  funext i;by_cases h:i=j
  . subst h;rw[bK,upd_same]
  rw[dk h,upd_ne _ _ h]
 rw[e];have:=sumTo_upd (λi=>F (s.w i)) (F x) id hj
 simp_all
def bN.SO(I:bN n s)(hj:j<n){p}(d:s.w j=.dn p)(b:x.ok=true)(f:x.jd=false)(g:x≠.wait)(k:x.pc=.out)
 (D:gc+(s.w j).cnt=s.gc+x.cnt) (r:gv<=1) (m:gv=1->s.c.waits=true/\gm=0)
 (t:∀i,i<n->((s.gZ j x gc gv gm).w i=.dn .d5\/(s.gZ j x gc gv gm).w i=.dn .d6)->gv=1/\gc=0)
 (o:∀i l,i<n->l<n->((s.gZ j x gc gv gm).w i).last=true->((s.gZ j x gc gv gm).w l).last=true->i=l)
 (u:∀i,i<n->(s.gZ j x gc gv gm).w i=.dn .d7->gv=0/\gc=0/\gm=0/\s.c.waits=true)
 (v:gm<=1/\(gm=1->s.c.waits=true/\gv=0/\gc=0/\∀i,i<n->((s.gZ j x gc gv gm).w i).last=false))
 (y:s.c.waits=true->gv=0->gm=0->∃i,i<n/\(s.gZ j x gc gv gm).w i=.dn .d7)
 (z:gv=1->gc=0->∃i,i<n/\((s.gZ j x gc gv gm).w i=.dn .d5\/(s.gZ j x gc gv gm).w i=.dn .d6)):bN n (s.gZ j x gc gv gm):=by
 refine⟨?_,r,m,t,o,u,v,y,z,λh=>?_,I.g9,λi a=>?_,I.Rm,I.sp,λi a=>?_,?_,λhd h i a=>?_,?_⟩
 . have q:=Ce (s:=s) (x:=x) (gc:=gc) (gv:=gv) (gm:=gm) bo.cnt hj
   have:=I.g1;show gc=sumTo n (λi=>((s.gZ j x gc gv gm).w i).cnt)+s.ms.pend;omega
 . have:=(I.g8 h).2.2.2 j hj
   simp_all
 . by_cases e:i=j
   . subst e;rw[bK];exact b
   rw[dk e];exact I.ok i a
 . by_cases e:i=j
   . subst e
     rw[bK,f];have:=I.idle i a;rw[d]at this;exact this
   rw[dk e];exact I.idle i a
 . have:=I.ms
   show match s.ms with
   |.add l=>s.sp+l=n/\s.c=.none
   |.bs l p=>s.sp+l=n/\s.c=.none/\1<=l/\(p=.a0\/p=.a2\/p=.a4\/p=.ae)
   |.spawn l=>s.sp+l+1=n/\s.c=.none
   |.recv=>s.sp=n/\s.c≠.none
   |.parked=>s.sp=n/\s.c≠.none/\s.c≠.gone/\∀i,i<n->(s.gZ j x gc gv gm).w i≠.wait
   |.off=>s.sp=n/\s.c≠.none
   cases e:s.ms with
   | parked=>
     rw[e]at this;obtain⟨A,B,C,E⟩:=this;refine⟨A,B,C,λi a=>?_⟩;by_cases e:i=j
     . subst e;rw[bK];exact g
     rw[dk e];grind
   |_=>rw[e]at this;exact this
 . have:=I.early hd h j hj
   rw[d]at this;cases this
 rw[NM,k];have e:=jf (λi=>(s.w i).pc) j;rw[show(s.w j).pc=.out by rw[d];rfl]at e;rw[e];exact I.mu
inductive AL(s:MS P):FT->bo P->Nat->Nat->aba
 |U6:s.gc=1->s.gv=1->AL s .d4 (.dn .d5) 0 1 s.gm
 |d4 (k:Nat):s.gc=k+1 -> ¬(k=0/\s.gv=1)->AL s .d4 .gone k s.gv s.gm
 |d5:AL s .d5 (.dn .d6) s.gc s.gv s.gm
 |d6:AL s .d6 (.dn .d7) s.gc 0 s.gm
 |d7:AL s .d7 .gone s.gc s.gv (s.gm+1)
def bN.done(I:bN n s)(hj:j<n){p}(b:s.w j=.dn p)(h:AL s p x gc gv gm):bN n (s.gZ j x gc gv gm):=by
 have JZ:∀{i:Nat},(s.w i).last=true->s.w i=.dn .d5\/s.w i=.dn .d6\/s.w i=.dn .d7:=λ{i} h=>by
  cases e:s.w i with
  |dn p=>cases p<;>simp_all [bo.last]
  |_=>rw[e]at h;simp[bo.last]at h
 have t:∀{i:Nat},i<n->(s.w i).last=true->s.gc=0:=λ{i} a h=>by
  rcases JZ h with h|h|h
  . exact(I.g3 i a (.inl h)).2
  . exact(I.g3 i a (.inr h)).2
  exact(I.g4 i a h).2.1
 cases h with
 | U6 u v=>
   refine I.SO hj b rfl rfl (by simp) rfl (by rw[b,u];rfl) (by omega) (λ_=>I.Ef v) (λi a h=>⟨rfl,rfl⟩) (λi l a g h d=>?_) (λi a h=>?_) ⟨I.g5.1,λh=>?_⟩ (λ_ h=>by omega) (λ_ _=>⟨j,hj,.inl bK⟩)
   . by_cases e:i=j
     . by_cases q:l=j
       . rw[e,q]
       rw[dk q]at d;simp_all
     rw[dk e]at h;simp_all
   . by_cases e:i=j
     . subst e;rw[bK]at h;cases h
     rw[dk e]at h;have:=(I.g4 i a h).2.1;omega
   have:=(I.g5.2 h).2.1;omega
 | d4 k u v=>
   refine I.SO hj b rfl rfl (by simp) rfl (by rw[b,u];rfl) I.g2 I.Ef (λi a h=>?_) (λi l a g h d=>?_) (λi a h=>?_) ⟨I.g5.1,λh=>?_⟩ (λh d y=>?_) (λh d=>absurd ⟨d,h⟩ v)
   . by_cases e:i=j
     . subst e;rw[bK]at h;simp_all
     rw[dk e]at h;have:=(I.g3 i a h).2;omega
   . by_cases e:i=j
     . subst e;rw[bK]at h;cases h
     rw[dk e]at h;simp_all
   . by_cases e:i=j
     . subst e;rw[bK]at h;cases h
     rw[dk e]at h;have:=(I.g4 i a h).2.1;omega
   . have:=(I.g5.2 h).2.2.1;omega
   obtain⟨i,a,A⟩:=I.g6 h d y;have:=(I.g4 i a A).2.1;omega
 | d5=>
   obtain⟨r,o⟩:=I.g3 j hj (.inl b);obtain⟨m,m0⟩:=I.Ef r
   have c:∀{i:Nat},((s.gZ j (.dn .d6) s.gc s.gv s.gm).w i).last=(s.w i).last:=λ{i}=>by
    by_cases e:i=j
    . subst e;rw[bK,b];rfl
    rw[dk e]
   refine I.SO hj b rfl rfl (by simp) rfl (by rw[b];rfl) I.g2 I.Ef (λi a h=>⟨r,o⟩) (λi l a g h d=>?_) (λi a h=>?_) ⟨I.g5.1,λh=>?_⟩ (λh d=>by omega) (λ_ _=>⟨j,hj,.inr bK⟩)
   . rw[c]at h d;exact I.FW i l a g h d
   . by_cases e:i=j
     . subst e;rw[bK]at h;cases h
     rw[dk e]at h;exact I.g4 i a h
   omega
 | d6=>
   obtain⟨r,o⟩:=I.g3 j hj (.inr b);obtain⟨m,m0⟩:=I.Ef r;have g:(s.w j).last=true:=by rw[b];rfl
   have c:∀{i:Nat},((s.gZ j (.dn .d7) s.gc 0 s.gm).w i).last=(s.w i).last:=λ{i}=>by
    by_cases e:i=j
    . subst e;rw[bK,b];rfl
    rw[dk e]
   refine I.SO hj b rfl rfl (by simp) rfl (by rw[b];rfl) (by omega) (λh=>by omega) (λi a h=>?_) (λi l a g h d=>?_) (λi a h=>⟨rfl,o,m0,m⟩) ⟨I.g5.1,λh=>by omega⟩ (λ_ _ _=>⟨j,hj,bK⟩) (λh=>by omega)
   . by_cases e:i=j
     . subst e;rw[bK]at h;simp_all
     rw[dk e]at h;have z:(s.w i).last=true:=by rcases h with h|h<;>rw[h]<;>rfl
     exact absurd (I.FW i j a hj z g) e
   rw[c]at h d;exact I.FW i l a g h d
 | d7=>
   obtain⟨B,o,m0,m⟩:=I.g4 j hj b;have g:(s.w j).last=true:=by rw[b];rfl
   have f:∀{i:Nat},i<n->((s.gZ j .gone s.gc s.gv (s.gm+1)).w i).last=false:=λ{i} a=>by
    by_cases e:i=j
    . subst e;rw[bK];rfl
    rw[dk e];cases q:(s.w i).last with
    |false=>rfl
    |true=>exact absurd (I.FW i j a hj q g) e
   refine I.SO hj b rfl rfl (by simp) rfl (by rw[b];rfl) I.g2 (λh=>by omega) (λi a h=>?_) (λi l a g h d=>?_) (λi a h=>?_) ⟨by omega,λh=>⟨m,B,o,λi a=>f a⟩⟩ (λ_ _ h=>by omega) (λh=>by omega)
   . have:=f a
     rcases h with h|h<;>rw[h]at this<;>cases this
   . simp_all
   grind
def jz.P6(c:jz)  a b :c.bZ a<=c.bZ b+2:=by
 cases c with
 | wt p=>
   cases p with
   |w2 k=>simp only[jz.bZ];grind
   |_=>simp[jz.bZ]
 |_=>simp[jz.bZ]
def G3(hj:j<n){p}(d:s.w j=.dn p)(h:AL s p x gc gv gm):MS.fL n (s.gZ j x gc gv gm) s:=by
 have e:=Ce (s:=s) (x:=x) (gc:=gc) (gv:=gv) (gm:=gm) bo.bZ hj;refine .inl ?_;show s.ms.bZ+sumTo n (λi=>((s.gZ j x gc gv gm).w i).bZ)+s.c.bZ gc<s.ms.bZ+sumTo n (λi=>(s.w i).bZ)+s.c.bZ s.gc;rw[d]at e;have:=jz.P6 s.c gc s.gc;cases h with
 |U6 f g=>have a:(bo.dn (P:=P) .d4).bZ=10:=rfl;have b:(bo.dn (P:=P) .d5).bZ=4:=rfl;omega
 |d4 k f g=>have a:(bo.dn (P:=P) .d4).bZ=10:=rfl;have b:(bo.gone (P:=P)).bZ=0:=rfl;omega
 |d5=>have a:(bo.dn (P:=P) .d5).bZ=4:=rfl;have b:(bo.dn (P:=P) .d6).bZ=3:=rfl;omega
 |d6=>have a:(bo.dn (P:=P) .d6).bZ=3:=rfl;have b:(bo.dn (P:=P) .d7).bZ=2:=rfl;omega
 |d7=>have a:(bo.dn (P:=P) .d7).bZ=2:=rfl;have b:(bo.gone (P:=P)).bZ=0:=rfl;omega
end
end
section
open Go.Conc
open Go.ConcN (sumTo upd sumTo_upd upd_ne upd_same)
def wG{e}(h:MemAct.ofEvent e=.mark .enable):e.loc=.mark .enable:=by
 obtain⟨loc,wr,a⟩:=e;cases loc with
 |mark m=>cases m<;>simp_all [MemAct.ofEvent]
 |cell b=>simp[MemAct.ofEvent]at h
 |obj r=>cases wr<;>cases a<;>simp[MemAct.ofEvent]at h
 |_=>simp[MemAct.ofEvent]at h
def l9{i fn pos es}(h:∀e∈es,e.loc≠.mark .enable):∀  m   op   a ,(MemOp.ofEvents i fn pos es)[m]?=some op->op.act.touch?=some a->∀(l:Nat)  b ,l<m->(MemOp.ofEvents i fn pos es)[l]?=some b->b.act≠.mark .enable:=λm op a _ _ l b _ c d=>by obtain⟨e,f,rfl⟩:=zH (Ze c);exact h e f (wG d)
def G4{i fn pos ad}:∀  m   op   a ,(MemOp.ofEvents i fn pos (semEvents ad))[m]?=some op->op.act.touch?=some a->∀(l:Nat)  c ,l<m->(MemOp.ofEvents i fn pos (semEvents ad))[l]?=some c->c.act≠.mark .enable:=λm op a d f l c e b=>by
 rw[ofEvents_eq]at d b;simp only[semEvents]at d b
 match m,l,e with
 |0,l,e=>omega
 |1,0,_=>simp at b;subst b;simp[MemAct.ofEvent]
 |2,0,_=>simp at b;subst b;simp[MemAct.ofEvent]
 |2,1,_=>simp at b;subst b;simp[MemAct.ofEvent]
 |3,l,_=>simp at d;subst d;simp[MemAct.ofEvent,MemAct.touch?]at f
 |m+4,l,_=>simp at d
def nN:∀  n  {F},(∀l,l<n->F l<=1)->sumTo n F<=n
 |0,_,_=>YF _
 | n+1,F,h=>by
   have a:=nN n (F:=F) (λl b=>h l (by omega));have c:=h n (by omega);simp only[sumTo];omega
section
variable{P:abm}{A:bJ}{Fin:aaG}{Z:Base}{s:MS P}{f:Nat->Node P}{q:abg}{kk:abl}{OO:abk}{J M:aba}{gs:aaJ}{w w':World}{t u:Trace}{j:Nat}{x:bo P}{gc gv gm:Nat}{g g1:abd}
def Em{p}(h:AL s p x gc gv gm):x.iq=true/\x.owns=false/\x.busy=false/\(bo.dn (P:=P) p).busy=false/\(bo.dn (P:=P) p).deaf=1/\(x=.gone\/∃a,x=.dn a/\x.deaf=1)/\x.gX=true:=by cases h<;>simp[bo.iq,bo.owns,bo.busy,bo.deaf,bo.gX]
def sc  r  (E:bC (bV P A Fin Z r) Z s f q kk OO J M gs w t) (hj:j<A.n){p}(d:s.w j=.dn p) (W:gs[A.b+j]?=some g){es}(X:stepG P false g w=.go g1 w' es) (F:AL s p x gc gv gm)
 (G:qz A.gb w' gc gv gm) (H:MW A.gb 0 w w') (u:EvM A.gb 0 es) (K:deafBehind 1 es=1)
 (Y:∀  m   op   a ,(MemOp.ofEvents (A.b+j) g.frame.fn g.frame.place es)[m]?=some op->op.act.touch?=some a->∀(l:Nat)  v ,l<m->(MemOp.ofEvents (A.b+j) g.frame.fn g.frame.place es)[l]?=some v->v.act≠.mark .enable)
 (y:(s.gm=0->gm=0)\/(mayWake P g=true/\(g1.status=.running\/g1.status=.finished)))
 (hs:(∃C,x=.dn C/\∃n D,iQ P (kF A) n g1 D/\FX P A j (.dn C) (kk (A.b+j)) (OO (A.b+j)) D)\/(x=.gone/\∃m,QuitsD P m 1 g1))  sl :Goes P A Fin Z r s gs w t sl (A.b+j):=by
 have L:cS P A Z s kk OO J M gs.size w t:=E.ex;have hb:=A.hb;have a7:(A.b+j==0)=false:=by simp;omega
 obtain⟨f1,f2,f3,f4,f5,f6,f7⟩:=Em F;have N:=l8 (P:=P) (A:=A) (s:=s) hj d
 have O:Deaf t (A.b+j)=1:=by obtain⟨_,_,Q,_⟩:=E.walk _ N;rw[Q];show dC P A s (A.b+j)=1;rw[dY hj,d];exact f5
 have c:(s.gZ j x gc gv gm).w j=x:=bK
 have k:∀l,((s.gZ j x gc gv gm).w l).busy=(s.w l).busy:=λl=>by
  by_cases e:l=j
  . simp_all
  rw[dk e]
 have hS:eE A s (s.gZ j x gc gv gm) (A.b+j):=⟨λl _ S=>dk (by omega),λ_=>rfl,λ_=>rfl,rfl,rfl,.inl λl _=>by
  by_cases e:l=j
  . subst e;rw[bK,d,f1];rfl
  rw[dk e]⟩
 have hI:=L.I.done hj d F;have hL:=G3 hj d F;have z:∀fn pos,Deaf (t++MemOp.ofEvents (A.b+j) fn pos es) (A.b+j)=1:=λfn pos=>by rw[Deaf_own,O];exact K
 have go:∀(R:Nat),Self P (bV P A Fin Z r) (s.gZ j x gc gv gm) f (upd q (A.b+j) R) kk OO J (t++MemOp.ofEvents (A.b+j) g.frame.fn g.frame.place es) (A.b+j) g1->Goes P A Fin Z r s gs w t sl (A.b+j):=λR o=>
  AJ r E (ir L.I hj (by rw[d];rfl)) (pj hj d) W (by grind) hS (λl _=>by
   by_cases e:l=j
   . subst e;rw[bK,d,f2];rfl
   . rw[dk e]) (λl _=>by
   by_cases e:l=j
   . subst e;rw[bK,d,f7];rfl
   rw[dk e]) L.off rfl rfl id (λi=>by unfold dL;simp only[k];rfl) hI rfl G H (.inl u) hL (.inr ⟨u,El (by omega) Y⟩) y (λ_ _=>rfl) (λi hi=>upd_ne q R hi) o sl
 rcases hs with⟨C,rfl,n,D,B,a8⟩|⟨rfl,m,hq⟩
 . refine go n ⟨λS=>absurd S (jP hj c),λ_=>⟨jP hj c,?_,?_,D,?_,?_⟩,λhh=>absurd hh (pj hj c),λ_ hn _=>absurd (l8 hj c) hn⟩
   . show A.b+j<A.b+A.n+1;omega
   . rw[z]
     show 1=dC P A (s.gZ j (.dn C) gc gv gm) (A.b+j);rw[dY hj,c]
     simp_all
   . exact .inr (.inl ⟨j,hj,rfl,by simp_all⟩)
   exact .inr (by rw[upd_same];exact B)
 have nl:¬dq P A (s.gZ j .gone gc gv gm) (A.b+j):=by
  rintro(⟨e,_⟩|⟨l,T,U,V⟩|⟨e,_⟩)
  . omega
  . simp_all
  omega
 have nw:¬fS P A (s.gZ j .gone gc gv gm) (A.b+j):=by
  rintro(⟨e,_⟩|⟨l,T,U,V⟩|⟨e,_⟩)
  . omega
  . simp_all
  omega
 have nh:¬eL P A (s.gZ j .gone gc gv gm) (A.b+j):=by
  rintro(⟨e,_⟩|⟨l,T,U,V⟩)
  . omega
  simp_all
 exact go m ⟨λh=>absurd h nl,λh=>absurd h nw,λh=>absurd h nh,λ_ _ _=>⟨by omega,by rw[upd_same,z];exact hq⟩⟩
variable(C:ga P A.ng)(X:il P A.ng)
def NN{n b kind cs g}(C:ga P n)(X:il P n)(h:qA P n b kind .d7 cs g):mayWake P g=true:=by
 obtain⟨c,y,fr,f,⟨rfl,l⟩,m,i,j,rfl⟩:=h;have d:=Ec (y:=y) (a:=true) (by simp_all);obtain⟨e,k⟩:=C.d9 b (Fl.of y);rw[d]at e k;exact AH i e X.nG
include C X in
def NO  y  (B:bC (bV P A Fin Z y) Z s f q kk OO J M gs w t) (hj:j<A.n){p}(r:s.w j=.dn p) (E:gs[A.b+j]?=some g) (L:FX P A j (.dn p) (kk (A.b+j)) (OO (A.b+j)) g)  sl :Goes P A Fin Z y s gs w t sl (A.b+j):=by
 have z:cS P A Z s kk OO J M gs.size w t:=B.ex;have N:=z.I.ok j hj;rw[r]at N;have D:=L;obtain⟨fw,fn,tmps,todo,F,u,O⟩:=L;have v:=z.gr;have hn:=A.hn;have nx:∀{p' g1},im P A.ng A.gb .deferred (kF A) p' [kg P fw tmps todo,cA P] g1->∃n g2,iQ P (kF A) n g1 g2/\FX P A j (.dn p') (kk (A.b+j)) (OO (A.b+j)) g2:=λ⟨_,g2,⟨n,hs⟩,hA⟩=>⟨n,g2,hs,fw,fn,tmps,todo,F,u,hA⟩
 have cell:∀(i:Nat),(i=0\/i=1)->∀wr,EvM A.gb 0 #[⟨.cell ⟨A.gb,i,none⟩,wr,true⟩]:=λi hi wr e d=>by simp at d;subst d;exact .inr ⟨i,by simpa using hi,rfl,rfl⟩
 have x:EvM A.gb 0 #[⟨.cell ⟨A.gb,0,none⟩,false,true⟩,⟨.cell ⟨A.gb,0,none⟩,true,true⟩]:=λe d=>by simp at d;rcases d with rfl|rfl<;>exact .inr ⟨0,.inl rfl,rfl,rfl⟩
 have Q:EvM A.gb 0 (semEvents ⟨A.gb,1,none⟩):=λe d=>by
  simp[semEvents]at d
  rcases d with rfl|rfl|rfl|rfl
  . exact .inl (.inl rfl)
  . exact .inr ⟨1,.inr rfl,rfl,rfl⟩
  . exact .inr ⟨1,.inr rfl,rfl,rfl⟩
  exact .inl (.inr rfl)
 have R:∀l,l<A.n->(s.w l).cnt<=1:=λl _=>by
  cases e:s.w l with
  |dn p=>cases p<;>simp[bo.cnt]
  |_=>simp[bo.cnt]
 cases p<;>simp only[bo.ok,LK]at N
 case d1=>exact NK C X y B hj r E D sl
 case d2=>exact NJ C X y B hj r E D sl
 case d4=>
  have a7:1<=s.gc:=by
   have h1:=z.I.g1;have:(s.w j).cnt<=sumTo A.n (λj=>(s.w j).cnt):=Go.ConcN.le_sumTo (f:=λj=>(s.w j).cnt) hj
   rw[r]at this;have e:(bo.dn (P:=P) .d4).cnt=1:=rfl;omega
  have a8:s.gc<=A.n+1:=by
   have h1:=z.I.g1;have h2:sumTo A.n (λj=>(s.w j).cnt)<=A.n:=nN A.n R
   have h3:s.ms.pend<=1:=by cases s.ms<;>simp[oE.pend];split<;>omega
   omega
  obtain⟨k,U⟩:∃k,s.gc=k+1:=⟨s.gc-1,by omega⟩
  have a:=v;rw[U]at a;obtain⟨g1,w',o,rfl,c,G⟩:=UQ (Wd:=kF A) (main:=false) C X F u a (by omega) z.I.g2 O
  have H:MW A.gb 0 w (w.setCell ⟨A.gb,0,none⟩ (.int .u64 (dU k s.gv))):=⟨⟨.refl _,rfl⟩,.inr ⟨0,_,.inl rfl,rfl,rfl⟩⟩
  rcases G with⟨V,hv,S⟩|⟨W,Y⟩
  . subst V
    rw[hv]at c o H;exact sc y B hj r E o (.U6 U hv) c H x rfl (l9 (λe d=>by simp at d;rcases d with rfl|rfl<;>simp)) (.inl id) (.inl ⟨_,rfl,nx S⟩) sl
  exact sc y B hj r E o (.d4 k U W) c H x rfl (l9 (λe d=>by simp at d;rcases d with rfl|rfl<;>simp)) (.inl id) (.inr ⟨rfl,Y⟩) sl
 case d5=>obtain⟨v1,K⟩:=z.I.g3 j hj (.inl r);have a:=v;rw[v1,K]at a;obtain⟨g1,o,S⟩:=US (Wd:=kF A) (main:=false) C X a O;exact sc y B hj r E o .d5 v (bg rfl) (cell 0 (.inl rfl) false) rfl (l9 (λe d=>by simp at d;subst d;simp)) (.inl id) (.inl ⟨_,rfl,nx S⟩) sl
 case d6=>obtain⟨v1,K⟩:=z.I.g3 j hj (.inr r);have a:=v;rw[v1,K]at a;obtain⟨g1,w',o,rfl,c,S⟩:=UT (Wd:=kF A) (main:=false) C X a O;exact sc y B hj r E o .d6 (by rw[K];exact c) (⟨⟨.refl _,rfl⟩,.inr ⟨0,_,.inl rfl,rfl,rfl⟩⟩) (cell 0 (.inl rfl) true) rfl (l9 (λe d=>by simp at d;subst d;simp)) (.inl id) (.inl ⟨_,rfl,nx S⟩) sl
 case d7=>
  obtain⟨v0,K,m0,a9⟩:=z.I.g4 j hj r;have a:=v;rw[v0,K]at a;have ad:=z.I.g5.1;obtain⟨g1,w',o,rfl,c,Y⟩:=UU (Wd:=kF A) (main:=false) C X F u a (by omega) O
  obtain⟨m,hq⟩:=Y;have T:g1.status=.running\/g1.status=.finished:=by rcases hq.status with h|h<;>simp[h]
  exact sc y B hj r E o .d7 (by rw[K,v0];exact c) (⟨⟨.refl _,rfl⟩,.inr ⟨1,_,.inr rfl,rfl,rfl⟩⟩) Q rfl G4 (.inr ⟨NN C X O,T⟩) (.inr ⟨rfl,m,hq⟩) sl
end
end
section
open Go.Conc
open Go.ConcN (sumTo upd sumTo_upd upd_ne upd_same)
variable{P:abm}
def MS.lC(s:MS P)(c:jz)(gv gm:Nat):MS P:={s with c:=c,gv:=gv,gm:=gm}
section
variable{s:MS P}{n:Nat}{c:jz}{gv gm:Nat}
def JZ{x:bo P}(h:x.last=true):x=.dn .d5\/x=.dn .d6\/x=.dn .d7:=by
 cases x with
 |dn p=>cases p<;>simp_all [bo.last]
 |_=>simp[bo.last]at h
def bN.calm(I:bN n s)(h:s.c.waits=false):s.gv=0/\s.gm=0/\∀j,j<n->(s.w j).last=false:=by
 have b:s.gv=0:=by
  have:=I.g2;by_cases e:s.gv=1
  . have:=(I.Ef e).1;simp_all
  omega
 refine⟨b,?_,λj a=>?_⟩
 . have:=I.g5.1
   by_cases e:s.gm=1
   . have:=(I.g5.2 e).1;simp_all
   omega
 cases e:(s.w j).last with
 |false=>rfl
 | true=>
   rcases JZ e with e|e|e
   . have:=(I.g3 j a (.inl e)).1;omega
   . have:=(I.g3 j a (.inr e)).1;omega
   have:=(I.g4 j a e).2.2.2;simp_all
def bN.SP(I:bN n s)(h:s.c≠.none):s.sp=n:=by
 have:=I.ms
 grind
def bN.Cf(I:bN n s)(h:s.c≠.none)(l:s.gc=0)(g:∀j,j<n->(s.w j).last=false):∀j,j<n->s.w j=.gone:=λj a=>by
 have m:=I.g1;have o:(s.w j).cnt<=sumTo n (λj=>(s.w j).cnt):=Go.ConcN.le_sumTo (f:=λj=>(s.w j).cnt) a;have b:=I.idle j a;rw[I.SP h]at b;have i:=g j a;have k:=I.ok j a;have d:(s.w j).cnt=0:=by omega
 cases e:s.w j with
 |idle=>rw[e]at b;have:=b.1 rfl;omega
 |dn p=>rw[e]at i k d;cases p<;>simp_all [bo.last,bo.ok,bo.cnt]
 |gone=>rfl
 |_=>rw[e]at d;simp[bo.cnt]at d
inductive qX(s:MS P):jz->jz->Nat->aba
 |call:qX s .dS (.wt .w0) s.gv s.gm
 |w0:qX s (.wt .w0) (.wt .w1) s.gv s.gm
 |Wb:s.gc=0->qX s (.wt .w1) (.wt .we) s.gv s.gm
 |w1:s.gc≠0->qX s (.wt .w1) (.wt (.w2 s.gc)) s.gv s.gm
 |Wc:qX s (.wt (.w2 s.gc)) (.wt .w3) 1 s.gm
 |U7 (k:Nat):s.gc≠k->qX s (.wt (.w2 k)) (.wt .w1) s.gv s.gm
 |w3:qX s (.wt .w3) (.wt .w4) s.gv s.gm
 |w4:s.gm≠0->qX s (.wt .w4) (.wt .w5) s.gv (s.gm-1)
 |w5:qX s (.wt .w5) (.wt .we) s.gv s.gm
 |we:qX s (.wt .we) (.wt .wa) s.gv s.gm
 |wa:qX s (.wt .wa) .jc s.gv s.gm
def bN.NP(I:bN n s)(v:s.c≠.none)(a:c≠.none)(e:c≠.gone)(b:c.ok=true)(f:gv<=1)(d:gv=1->c.waits=true/\gm=0)
 (g:∀j,j<n->(s.w j=.dn .d5\/s.w j=.dn .d6)->gv=1/\s.gc=0) (m:∀j,j<n->s.w j=.dn .d7->gv=0/\s.gc=0/\gm=0/\c.waits=true)
 (o:gm<=1/\(gm=1->c.waits=true/\gv=0/\s.gc=0/\∀j,j<n->(s.w j).last=false)) (q:c.waits=true->gv=0->gm=0->∃j,j<n/\s.w j=.dn .d7)
 (r:gv=1->s.gc=0->∃j,j<n/\(s.w j=.dn .d5\/s.w j=.dn .d6)) (t:c.JP=true->s.gc=0/\gv=0/\gm=0/\∀j,j<n->s.w j=.gone) (u:∀k,c=.wt (.w2 k)->k≠0):bN n (s.lC c gv gm):=by
 refine⟨I.g1,f,d,g,I.FW,m,o,q,r,t,u,I.ok,b,I.sp,I.idle,?_,λ_ h=>absurd h a,I.mu⟩;have:=I.ms
 show match s.ms with
  |.add l=>s.sp+l=n/\c=.none
  |.bs l p=>s.sp+l=n/\c=.none/\1<=l/\(p=.a0\/p=.a2\/p=.a4\/p=.ae)
  |.spawn l=>s.sp+l+1=n/\c=.none
  |.recv=>s.sp=n/\c≠.none
  |.parked=>s.sp=n/\c≠.none/\c≠.gone/\∀i,i<n->s.w i≠.wait
  |.off=>s.sp=n/\c≠.none
 grind
def bN.We(I:bN n s){d}(l:s.c=d)(h:qX s d c gv gm):bN n (s.lC c gv gm):=by
 have calm:d.waits=false->c.waits=false->d≠.none->c≠.none->c≠.gone->c.ok=true->gv=s.gv->gm=s.gm->(c.JP=true->s.gc=0)->(∀k,c=.wt (.w2 k)->k≠0)->bN n (s.lC c gv gm):=by
  intro z A B q r t u v p m;subst u v;obtain⟨g,m0,b⟩:=I.calm (by simp_all)
  have e:s.c≠.none:=by simp_all
  refine I.NP e q r t I.g2 (λh=>by omega) I.g3 (λj a h=>?_) ⟨by omega,λh=>by omega⟩ (λh=>by simp_all) I.g7 (λh=>⟨p h,g,m0,I.Cf e (p h) b⟩) m
  have:=b j a;rw[h]at this;cases this
 have g8:d.JP=true->s.gc=0:=λh=>(I.g8 (by simp_all)).1
 cases h with
 |call=>exact calm rfl rfl (by simp) (by simp) (by simp) rfl rfl rfl (λh=>by cases h) (λk h=>by cases h)
 |w0=>exact calm rfl rfl (by simp) (by simp) (by simp) rfl rfl rfl (λh=>by cases h) (λk h=>by cases h)
 |Wb i=>exact calm rfl rfl (by simp) (by simp) (by simp) rfl rfl rfl (λ_=>i) (λk h=>by cases h)
 |w1 i=>exact calm rfl rfl (by simp) (by simp) (by simp) rfl rfl rfl (λh=>by cases h) (λk h=>by simp_all)
 |U7 k i=>exact calm rfl rfl (by simp) (by simp) (by simp) rfl rfl rfl (λh=>by cases h) (λk h=>by cases h)
 |w5=>exact calm rfl rfl (by simp) (by simp) (by simp) rfl rfl rfl (λ_=>g8 rfl) (λk h=>by cases h)
 |we=>exact calm rfl rfl (by simp) (by simp) (by simp) rfl rfl rfl (λ_=>g8 rfl) (λk h=>by cases h)
 |wa=>exact calm rfl rfl (by simp) (by simp) (by simp) rfl rfl rfl (λ_=>g8 rfl) (λk h=>by cases h)
 | Wc=>
   obtain⟨g,m0,b⟩:=I.calm (by rw[l];rfl)
   have w:=I.g9 s.gc l;refine I.NP (by grind) (by simp) (by simp) rfl (by omega) (λ_=>⟨rfl,m0⟩) (λj a h=>?_) (λj a h=>?_) ⟨by omega,λh=>by omega⟩ (λ_ h=>by omega) (λ_ h=>absurd h w) (λh=>by cases h) (λk h=>by cases h)
   . have:=(I.g3 j a h).1;omega
   have:=b j a;rw[h]at this;cases this
 | w3=>
   have x:s.c.waits=true:=by rw[l];rfl
   refine I.NP (by grind) (by simp) (by simp) rfl I.g2 (λh=>⟨rfl,(I.Ef h).2⟩) I.g3 (λj a h=>?_) ⟨I.g5.1,λh=>⟨rfl,(I.g5.2 h).2⟩⟩ (λ_=>I.g6 x) I.g7 (λh=>by cases h) (λk h=>by cases h)
   have:=I.g4 j a h;exact⟨this.1,this.2.1,this.2.2.1,rfl⟩
 | w4 i=>
   have o:s.gm=1:=by have:=I.g5.1;omega
   obtain⟨y,g,f,b⟩:=I.g5.2 o;have e:s.c≠.none:=by grind
   refine I.NP e (by simp) (by simp) rfl I.g2 (λh=>by omega) I.g3 (λj a h=>?_) ⟨by omega,λh=>by omega⟩ (λh=>by cases h) I.g7 (λ_=>⟨f,g,by omega,I.Cf e f b⟩) (λk h=>by cases h)
   have:=b j a;rw[h]at this;cases this
def Cg{a}(b:s.c=a)(h:qX s a c gv gm):MS.fL n (s.lC c gv gm) s:=by
 refine .inl ?_;show s.ms.bZ+sumTo n (λi=>(s.w i).bZ)+c.bZ s.gc<s.ms.bZ+sumTo n (λi=>(s.w i).bZ)+s.c.bZ s.gc;rw[b]
 have:c.bZ s.gc<a.bZ s.gc:=by
  cases h with
  |U7 k d=>simp only[jz.bZ];simp_all
  |_=>simp[jz.bZ]
 omega
end
end
open Go.Conc
open Go.ConcN (sumTo upd sumTo_upd upd_ne upd_same)
section
variable{P:abm}{A:bJ}{Fin:aaG}{Z:Base}{s:MS P}{f:Nat->Node P}{q:abg}{kk:abl}{OO:abk}{J M:aba}{gs:aaJ}{w w':World}{t u:Trace}{c:jz}{p:FT}{gv gm:Nat}{g g1:abd}
def tx(e:s.c=.wt p):fS P A s A.cl:=.inr (.inr ⟨rfl,by simp_all⟩)
def AM{A:bJ}(h:A.cl=0):A.dir=true:=by simp[bJ.dir,h]
def AN(hd:A.dir=false)(h:s.ms≠.off):uX P A s:=⟨λe=>by simp_all,λe=>by simp_all,λ_=>h⟩
def AO(b:uX P A s)(e:s.c=.wt p):¬dq P A s A.cl:=by
 have:=A.hb;rintro(⟨h,a⟩|⟨l,d,f,a⟩|⟨_,a⟩)
 . rw[b.1 (AM h) (by rw[e];simp)]at a;exact a
 . omega
 simp_all
def pY(b:uX P A s):¬eL P A s A.cl:=by
 have:=A.hb;rintro(⟨h,a⟩|⟨l,c,d,a⟩)
 . exact(b.2.1 (AM h)).2.1 a
 omega
def sd(a:uX P A s)(e:s.c=.wt p):dC P A s A.cl=r8 p:=by
 have:=A.hb;unfold dC;by_cases h:A.cl=0
 . rw[YG h,a.1 (AM h) (by rw[e];simp),e]
 simp_all
def F1(h:s.c≠.none):bQ P A s A.cl:=.inr (.inr ⟨rfl,h⟩)
def G5{a}(h:qX s a c gv gm):a.dV=false/\c.dV=false/\a.isNone=false/\c.isNone=false/\a.busy=true/\c.busy=true:=by cases h<;>simp[jz.dV,jz.isNone,jz.busy]
def J0:eE A s (s.lC c gv gm) A.cl:=⟨λ_ _ _=>rfl,λh=>absurd rfl h,λ_=>rfl,rfl,rfl,.inl λ_ _=>rfl⟩
def mH  u  (F:bC (bV P A Fin Z u) Z s f q kk OO J M gs w t){G}(v:s.c=G) (x:qX s G (.wt p) gv gm){d}(hd:Deaf t A.cl=d) (H:gs[A.cl]?=some g){es}(y:stepG P A.dir g w=.go g1 w' es)
 (z:qz A.gb w' s.gc gv gm) (B:MW A.gb 0 w w') (C:P4 A.gb es) (D:deafBehind d es=r8 p) (j:s.gm=0->gm=0)
 (K:∃n r,iQ P (kF A) n g1 r/\Rn P A Fin (.wt p) (kk A.cl) (OO A.cl) r)  sl :Goes P A Fin Z u s gs w t sl A.cl:=by
 have h:cS P A Z s kk OO J M gs.size w t:=F.ex;have hb:=A.hb;obtain⟨f1,R,S,T,L,U⟩:=G5 x;have k:s.c.isNone=false:=by simp_all
 have l:s.c≠.none:=λe=>by rw[e]at k;cases k
 obtain⟨n,r,m,E⟩:=K;have a:(s.lC (.wt p) gv gm).c=.wt p:=rfl;have o:uX P A (s.lC (.wt p) gv gm):=⟨λhd _=>h.off.1 hd l,λhd=>⟨(h.off.2.1 hd).1,(h.off.2.1 hd).2.1,by simp_all,by simp_all,by simp_all⟩,h.off.2.2⟩
 have hJ:J A.cl:=(h.hJ _).2 (.inr ⟨rfl,by simp_all⟩)
 refine AJ (s':=s.lC (.wt p) gv gm) (f':=f) (q':=upd q A.cl n) u F (F1 l) (pY h.off) H y J0 (λ_ _=>rfl) (λ_ _=>rfl) o (by simp_all) (by simp_all) (λ_=>.inr (.inr ⟨p,rfl⟩)) (λi=>?_) (h.I.We v x) rfl z B (.inr ⟨C,by rw[k];rfl⟩) (Cg v x) (.inl (.inr hJ)) (.inl j) (λ_ _=>rfl) (λi N=>upd_ne q n N) ?_ sl
 . unfold dL
   rw[v,L];rfl
 refine⟨λO=>absurd O (AO o a),λ_=>⟨AO o a,?_,?_,r,?_,?_⟩,λQ=>absurd Q (pY o),λ_ k _=>absurd (tx a) k⟩
 . show A.cl<A.b+A.n+1;omega
 . rw[Deaf_own,hd,D]
   show _=dC P A (s.lC (.wt p) gv gm) A.cl;rw[sd o a]
 . exact .inr (.inr ⟨rfl,E⟩)
 exact .inr (by rw[upd_same];exact m)
variable(C:ga P A.ng)(X:il P A.ng)
include C X in
def NQ  v  (x:bC (bV P A Fin Z v) Z s f q kk OO J M gs w t) (u:s.c=.wt p) (Q:p≠.wa) (B:gs[A.cl]?=some g) (R:Rn P A Fin (.wt p) (kk A.cl) (OO A.cl) g)  sl :
 Goes P A Fin Z v s gs w t sl A.cl\/Ek P A s gs w sl A.cl g:=by
 have F:cS P A Z s kk OO J M gs.size w t:=x.ex;have G:=F.I.Rm;rw[u]at G;obtain⟨W,rest,D,hT⟩:=R;have d:=F.gr;have hn:=A.hn;have hb:=A.hb;have N:CallKind.normal≠CallKind.early:=by decide
 have nx:∀{Y g1},im P A.ng A.gb .normal (kF A) Y (W::rest) g1->∃n O,iQ P (kF A) n g1 O/\Rn P A Fin (.wt Y) (kk A.cl) (OO A.cl) O:=λ⟨_,O,⟨n,hs⟩,hA⟩=>⟨n,O,hs,W,rest,hA,hT⟩
 have cell:∀wr,P4 A.gb #[⟨.cell ⟨A.gb,0,none⟩,wr,true⟩]:=λwr e r=>by simp at r;subst r;exact .inl (.inr ⟨0,.inl rfl,rfl,rfl⟩)
 have hd:Deaf t A.cl=r8 p:=by obtain⟨_,_,S,_⟩:=x.walk _ (tx u);rw[S];show dC P A s A.cl=_;rw[sd F.off u]
 have y:s.c.waits=false->s.gv=0:=λh=>(F.I.calm h).1
 have H:∀l,l<A.n->(s.w l).cnt<=1:=λl _=>by
  cases e:s.w l with
  |dn p=>cases p<;>simp[bo.cnt]
  |_=>simp[bo.cnt]
 have a7:s.gc<=A.n+1:=by
  have h1:=F.I.g1;have h2:sumTo A.n (λj=>(s.w j).cnt)<=A.n:=nN A.n H
  have h3:s.ms.pend<=1:=by cases s.ms<;>simp[oE.pend];split<;>omega
  omega
 cases p<;>simp only[jz.ok,LK]at G
 case w0=>obtain⟨g1,a,m⟩:=UW (Wd:=kF A) (main:=A.dir) (w:=w) C X D N;exact .inl (mH v x u .w0 hd B a d (bg rfl) (λe r=>by simp at r;subst r;exact .inl (.inl (.inl rfl))) rfl id (nx m) sl)
 case w1=>
  have K:=y (by rw[u];rfl)
  have b:=d;rw[K]at b;obtain⟨g1,a,m⟩:=UX (Wd:=kF A) (main:=A.dir) C X b (by omega) D
  rcases m with⟨T,m⟩|⟨T,m⟩
  . exact .inl (mH v x u (.Wb T) hd B a d (bg rfl) (cell false) rfl id (nx m) sl)
  exact .inl (mH v x u (.w1 T) hd B a d (bg rfl) (cell false) rfl id (nx m) sl)
 case we=>
  obtain⟨g1,a,m⟩:=UY (Wd:=kF A) (main:=A.dir) (w:=w) C X (λw h=>h.1) D N
  exact .inl (mH v x u .we hd B a d (bg rfl) (λe r=>by simp at r;subst r;exact .inl (.inl (.inr rfl))) rfl id (nx m) sl)
 case wa=>exact absurd rfl Q
 case w2 k=>
  have K:=y (by rw[u];rfl)
  have b:=d;rw[K]at b
  rcases UZ (Wd:=kF A) (main:=A.dir) C X (λw h=>h.2.1) b D with⟨E,g1,w',a,rfl,z,m⟩|⟨E,g1,a,m⟩
  . subst E
    exact .inl (mH v x u .Wc hd B a z (⟨⟨.refl _,rfl⟩,.inr ⟨0,_,.inl rfl,rfl,rfl⟩⟩) (λe r=>by simp at r;rcases r with rfl|rfl<;>exact .inl (.inr ⟨0,.inl rfl,rfl,rfl⟩)) rfl id (nx m) sl)
  exact .inl (mH v x u (.U7 k E) hd B a d (bg rfl) (cell false) rfl id (nx m) sl)
 case w3=>obtain⟨g1,a,m⟩:=U1 (Wd:=kF A) (main:=A.dir) (w:=w) C X D N;exact .inl (mH v x u .w3 hd B a d (bg rfl) (λe r=>by simp at r;subst r;exact .inr ⟨1,.inr rfl,.inr rfl⟩) rfl id (nx m) sl)
 case w4=>
  by_cases L:s.gm=0
  . right
    have b:=d;rw[L]at b;have a:=SA (main:=A.dir) C X b D;refine⟨.inr ⟨rfl,u,L⟩,?_⟩;have h:=runT_crowd_go (P:=P) (sl:=sl) (i:=A.cl) B a
    have U:woken P g {g with status:=.blocked} w=id:=funext λo=>by unfold Go.Conc.woken;simp
    rw[U,Array.map_id]at h;exact h
  left;obtain⟨g1,w',a,rfl,z,m⟩:=U2 (Wd:=kF A) (main:=A.dir) C X d L D N
  exact mH v x u (.w4 L) hd B a z (⟨⟨.refl _,rfl⟩,.inr ⟨1,_,.inr rfl,rfl,rfl⟩⟩) (λe r=>by
   simp[semEvents]at r
   rcases r with rfl|rfl|rfl|rfl
   . exact .inl (.inl (.inl rfl))
   . exact .inl (.inr ⟨1,.inr rfl,rfl,rfl⟩)
   . exact .inl (.inr ⟨1,.inr rfl,rfl,rfl⟩)
   exact .inl (.inl (.inr rfl))) rfl (λh=>absurd h L) (nx m) sl
 case w5=>
  obtain⟨V,K,m0,_⟩:=F.I.g8 (by rw[u];rfl)
  have b:=d;rw[V,K]at b;obtain⟨g1,a,m⟩:=U3 (Wd:=kF A) (main:=A.dir) C X b D;exact .inl (mH v x u .w5 hd B a d (bg rfl) (cell false) rfl id (nx m) sl)
end
section
variable{Z:Base}{kk:abl}{OO:abk}{J M:aba}{w:World}{t:Trace}
def cq.SS(h:cq Z kk OO J M w t){i ad}(E:J i)(r:ad.block<w.heap.size)(hd:Deaf t i=0)(F:∀p,M p->t.heard p/\Z.N0<=p/\t.act? p=some (.mark (.releaseMerge ad)))
 (G:∀m a,Z.N0<=m->t.act? m≠some (.mark (.release a)))  fn   pos :
 cq Z kk OO J (λ_=>False) w (t++MemOp.ofEvents i fn pos #[⟨.mark (.acquire ad),false,true⟩]):=by
 obtain⟨u,D⟩:∃u,u=MemOp.ofEvents i fn pos #[⟨.mark (.acquire ad),false,true⟩]:=⟨_,rfl⟩;have f:u=#[⟨i,fn,pos,.mark (.acquire ad)⟩]:=by rw[D,ofEvents_eq];simp[MemAct.ofEvent]
 rw[<-D];have H:∀op∈u,op.act.touch?=none:=λop c=>by rw[f]at c;simp at c;subst c;rfl
 have l:∀op∈u,op.g=i:=λop c=>by grind
 have z:u[0]?=some ⟨i,fn,pos,.mark (.acquire ad)⟩:=by grind
 have d:jZ u:=λop c=>by grind
 have o:∀k,Z.N0<=k->∀a,(t++u).act? k≠some (.mark (.release a)):=λk A a e=>by
  rcases pW e with⟨q,_⟩|⟨op,c,q⟩
  . simp_all
  grind
 exact h.sZ (λa b=>a=b) rfl ⟨⟨.refl _,rfl⟩,λ_ _=>rfl⟩ (λb=>.inl rfl) (λop c=>by rw[f]at c;simp at c;subst c;simpa[MemAct.low]using r) (λa b e n y _ _ _ A=>by subst e;exact A.app u)
  (λj b n v h=>⟨j,rfl,h⟩) (λj b s h=>⟨j,rfl,h⟩) (λj b x h=>⟨j,rfl,h,λ_ h=>h⟩) h.jb
  (λsaid=>noRace_append (h.clean said) l λn a B op c b hb _=>by simp_all) (λop c a B=>by simp_all) (λm op a c B=>by grind)
  (λn a B L h=>h.elim (λ⟨j,q,C⟩=>.inr (.inl ⟨j,q,C.app _⟩)) (λ⟨p,q,C⟩=>by obtain⟨I,N,K⟩:=F p q;exact .inr (.inl ⟨i,E,mE (y:=⟨i,fn,pos,.mark (.acquire ad)⟩) d z rfl hd K I (λk A=>o k (by omega) ad) C⟩)))
end
section
variable{P:abm}{A:bJ}{Fin:aaG}{Z:Base}{s:MS P}{f:Nat->Node P}{q:abg}{kk:abl}{OO:abk}{J M:aba}{gs:aaJ}{w w':World}{t u:Trace}{c:jz}{p:FT}{gv gm:Nat}{g g1:abd}
def tz(e:s.c=.jc\/s.c=.dS):dq P A s A.cl:=.inr (.inr ⟨rfl,by grind⟩)
def F3(hd:A.dir=false)(e:s.c=.jc\/s.c=.dS):¬fS P A s A.cl:=by
 have:=A.hb;have:=uz hd;rintro(⟨e,_⟩|⟨l,b,d,a⟩|⟨_,a⟩)
 . omega
 . omega
 grind
def F4(hd:A.dir=false)(e:s.c≠.dS):cx P A Fin s A.cl=qV P A:=by
 have:=A.hb;have:=uz hd;unfold cx
 grind
def F5(hd:A.dir=false)(e:s.c=.dS):cx P A Fin s A.cl=wA P A:=by
 have:=A.hb;have:=uz hd;unfold cx
 grind
def Pe{x}:Ny P A s A.cl x:=λj h X a b _=>by have:=A.hb;omega
variable(C:ga P A.ng)(X:il P A.ng)
include C X in
def NR  v  (F:bC (bV P A Fin Z v) Z s f q kk OO J M gs w t) (o:s.c=.wt .wa) (V:gs[A.cl]?=some g) (G:Rn P A Fin (.wt .wa) (kk A.cl) (OO A.cl) g) (d:A.dir=false)  sl :
 Goes P A Fin Z v s gs w t sl A.cl:=by
 have j:cS P A Z s kk OO J M gs.size w t:=F.ex;have B:=bf (P:=P) (A:=A) (Fin:=Fin) (Z:=Z) v;obtain⟨c0,rest,hM,W⟩:=G;rw[YA (by rw[d];simp)]at W
 have a7:=uz d;have hb:=A.hb;have H:(A.cl==0)=false:=by simp;omega
 obtain⟨g1,K,hr,⟨k,x⟩⟩:=Sz (Wd:=λ_=>True) (main:=false) (w:=w) C X hM (by decide)
 obtain⟨tr⟩:=T.tree (P:=P) (m:=qV P A) rfl (W _ (ao.Le.refl _));obtain⟨T,_⟩:=TT.pre x tr;have z:=runT_crowd_go (P:=P) (sl:=sl) (i:=A.cl) V (by rw[H];exact K)
 have L:=tx (P:=P) (A:=A) o
 have hd:Deaf t A.cl=0:=by obtain⟨_,_,N,_⟩:=F.walk _ L;rw[N];show dC P A s A.cl=_;rw[sd j.off o];rfl
 have hJ:J A.cl:=(j.hJ _).2 (.inr ⟨rfl,by rw[o];rfl⟩)
 have hG:A.gb<w.heap.size:=by obtain⟨c,e,Q⟩:=j.yo;exact(zs.1 Q).1
 have hP:=F.cJ.SS (i:=A.cl) (ad:=⟨A.gb,0,none⟩) hJ hG hd (λp D=>by
  obtain⟨Q,h2,u⟩:=j.hM p D
  rcases u with⟨u,_⟩|⟨u,_⟩
  . exact⟨Q,h2,u⟩
  . rw[o]at u;cases u) j.norel g.frame.fn g.frame.place
 have E:∀op∈MemOp.ofEvents A.cl g.frame.fn g.frame.place #[⟨.mark (.acquire ⟨A.gb,0,none⟩),false,true⟩],op.g=A.cl:=λop r=>by obtain⟨e,_,rfl⟩:=zH r;rfl
 have R:cS P A Z (s.lC .jc s.gv s.gm) kk OO J (λ_=>False) gs.size w (t++MemOp.ofEvents A.cl g.frame.fn g.frame.place #[⟨.mark (.acquire ⟨A.gb,0,none⟩),false,true⟩]):=
  j.SN (J0 (s:=s) (c:=.jc)) (λ_ _=>rfl) (λ_ _=>rfl) (AN d (j.off.2.2 d)) (by rw[o];rfl) (by rw[o];rfl) (λp D=>D.elim) (λe=>by rw[o]at e;cases e) (λ⟨p,D⟩=>D.elim) (λi=>by unfold dL;rw[o];rfl) (j.I.We o .wa) rfl j.gr (bg rfl) (λop r=>by obtain⟨e,Y,rfl⟩:=zH r;simp at Y;subst Y;exact⟨λa ha=>by simp[MemAct.ofEvent,MemAct.touch?]at ha,λa h=>by simp[MemAct.ofEvent]at h⟩)
 have S:Beside (bV P A Fin Z v) s (s.lC .jc s.gv s.gm) f (bP f A.cl ⟨qV P A,kk A.cl,OO A.cl,g1,T⟩) q q kk kk OO OO J J w A.cl g g1:=lz v J0 (λi hi=>ar _ _ hi) (λ_ _=>rfl) (λ_ _ _=>rfl) (λ_ _ _=>rfl) (λ_ _ h=>h) (.inl ⟨id,id⟩) (λ{i k O y} U=>B.kq (s:=s) (i:=i) (k:=k) (O:=O) (g:=y) U)
 refine⟨_,_,z,s.lC .jc s.gv s.gm,bP f A.cl ⟨qV P A,kk A.cl,OO A.cl,g1,T⟩,q,kk,OO,J,(λ_=>False),_,_,_,rfl,Cg o .wa,?_⟩
 refine bC.step B F V E hP R (λl y hl U=>B.rW j hl _ _ U) S ⟨λ_=>?_,λh=>absurd h (F3 d (.inl rfl)),λh=>absurd h (pY (AN d (j.off.2.2 d))),λh=>absurd (tz (.inl rfl)) h⟩
 rw[an];refine⟨by show A.cl<A.b+A.n+1;omega,rfl,?_,rfl,rfl,hr,?_,.inr hJ,Pe⟩
 . show qV P A=cx P A Fin (s.lC .jc s.gv s.gm) A.cl
   rw[F4 d (by simp[MS.lC])]
 . rw[Deaf_own,hd];rfl
end
def tA {P y s fr x f dA kind} (a:FR y s fr) (h:aZ s=some x):fr≠Frame.enter P f dA kind:=fun e=>by
 obtain⟨ops,i,rest,kk,o,as,b,d,g,j,k,c,l⟩:=dg (f:=x.1) (svs:=x.2) a h;have:fr.todo = .inRegion ops (i :: rest) :: kk:=by rw[c];rfl
 rw[e] at this;simp[Frame.enter] at this
def AP{fr a cs b}(h:G fr cs=G a b):fr=a:=by have:=congrArg Goroutine.frame h;exact this
section
variable{P:abm}{A:bJ}{Fin:aaG}{Z:Base}{s:MS P}{f:Nat->Node P}{q:abg}{kk:abl}{OO:abk}{J M:aba}{gs:aaJ}{w w':World}{t u:Trace}{j:Nat}{c:jz}{p:FT}{gv gm:Nat}{g g1:abd}
variable(C:ga P A.ng)(X:il P A.ng)
include C in
def Ch{b kind a cs f dA n Wd d}(h:iQ P Wd n (G (Frame.enter P f dA a) cs) d)(g:qA P A.ng b kind .w0 cs d):n≠0:=λe=>by subst e;obtain⟨c,y,fr,i,rfl,l,j,k,rfl⟩:=g;exact tA j (C.w0 b kind).1 (AP h).symm
include C in
def J1{b kind a cs f dA n Wd d}(h:iQ P Wd n (G (Frame.enter P f dA a) cs) d)(g:qA P A.ng b kind .a0 cs d):n≠0:=λe=>by subst e;obtain⟨c,y,fr,i,rfl,l,j,k,rfl⟩:=g;exact tA j (C.a0 b kind).1 (AP h).symm
include C in
def J2{b kind a cs f dA n Wd d}(h:iQ P Wd n (G (Frame.enter P f dA a) cs) d)(g:qA P A.ng b kind .d1 cs d):n≠0:=λe=>by subst e;obtain⟨c,y,fr,i,rfl,l,j,k,rfl⟩:=g;exact tA j (C.d1 b).1 (AP h).symm
include C X in
def G6  h  (i:bC (bV P A Fin Z h) Z s f q kk OO J M gs w t) (u:s.c=.dS){k O N}(j:k=kk A.cl) (l:O=OO A.cl) (z:gs[A.cl]?=some g) (B:(wA P A).cY k O g N) (a:A.dir=false)  sl :
 Goes P A Fin Z h s gs w t sl A.cl:=by
 have v:cS P A Z s kk OO J M gs.size w t:=i.ex;obtain⟨_,_,_,_,_,_,m,_⟩:=i.live _ (tz (.inr u));obtain⟨rfl,x,rest,rfl,D⟩:=B;subst j l;obtain⟨E,⟨n,d⟩,y⟩:=o0 (P:=P) (n:=A.ng) (b:=A.gb) (kind:=.normal) (cs:=x::rest) (Wd:=kF A) X C;cases n with
 |zero=>exact absurd rfl (Ch C d y)
 |succ n=>obtain⟨g1,⟨F,o⟩,p⟩:=d;have r:kF A w:=(bf (P:=P) (A:=A) (Fin:=Fin) (Z:=Z) h).wd v;exact mH h i u .call m z (by rw[a];exact o false w r) v.gr (bg rfl) (λe G=>by simp at G) rfl id ⟨n,E,p,x,rest,y,by rw[YA (by rw[a];simp)];exact D⟩ sl
def se(hj:j<A.n)(e:s.w j=.xY):dq P A s (A.b+j):=.inr (.inl ⟨j,hj,rfl,by simp_all⟩)
def tB(hj:j<A.n)(e:s.w j=.xY):¬eL P A s (A.b+j):=by
 have:=A.hb;rintro(⟨e,_⟩|⟨l,a,c,d⟩)
 . omega
 simp_all
include C X in
def G8  r  (u:bC (bV P A Fin Z r) Z s f q kk OO J M gs w t) (hj:j<A.n) (c:s.w j=.xY){k O N}(H:gs[A.b+j]?=some g) (K:(kD P A).cY k O g N)  sl :
 Goes P A Fin Z r s gs w t sl (A.b+j):=by
 have o:cS P A Z s kk OO J M gs.size w t:=u.ex;have hb:=A.hb;obtain⟨_,_,_,_,_,_,v,_⟩:=u.live _ (se hj c);obtain⟨rfl,F,fn,tmps,todo,y,p,rfl⟩:=K;have z:(A.b+j==0)=false:=by simp;omega
 obtain⟨L,⟨n,m⟩,G⟩:=wv (P:=P) (n:=A.ng) (b:=A.gb) (kind:=.deferred) (cs:=[kg P F tmps todo,cA P]) (Wd:=kF A) X (λw h=>h.1) C
 cases n with
 |zero=>exact absurd rfl (J2 C m G)
 | succ n=>
   obtain⟨g1,⟨Q,B⟩,D⟩:=m;have E:kF A w:=(bf (P:=P) (A:=A) (Fin:=Fin) (Z:=Z) r).wd o;obtain⟨x,d⟩:∃x:bo P,x=.dn .d1:=⟨_,rfl⟩;have a:(s.aT j x s.sh).w j=.dn .d1:=by rw[aU,d]
   have R:bN A.n (s.aT j x s.sh):=o.I.vm hj (by rw[c];rfl) (by rw[d];rfl) (.inl (by rw[d,c];rfl)) (by rw[d];rfl) (by rw[d,c];rfl)
   have S:MS.fL A.n (s.aT j x s.sh) s:=sb hj (by rw[d,c];simp[bo.bZ])
   have hJ:J (A.b+j):=(o.hJ _).2 (.inl ⟨j,hj,rfl,by rw[c];rfl⟩)
   refine AJ (s':=s.aT j x s.sh) (f':=f) (q':=upd q (A.b+j) n) (es:=#[]) r u (ir o.I hj (by rw[c];rfl)) (tB hj c) H (by rw[z];exact B false w E) (wD hj (.inl (by rw[d,c];rfl))) (λl _=>?_) (λl _=>?_) o.off rfl rfl id (nJ hj (by rw[d,c];rfl)) R rfl o.gr (bg rfl) (.inl eZ) S (.inl (.inr hJ)) (.inl id) (λ_ _=>rfl) (λi T=>upd_ne q n T) ?_ sl
   . by_cases e:l=j
     . subst e;rw[aU,d,c];rfl
     rw[cd e]
   . by_cases e:l=j
     . subst e;rw[aU,d,c];rfl
     rw[cd e]
   refine⟨λU=>absurd U (jP hj a),λ_=>⟨jP hj a,?_,?_,L,?_,?_⟩,λV=>absurd V (pj hj a),λ_ W _=>absurd (l8 hj a) W⟩
   . show A.b+j<A.b+A.n+1;omega
   . rw[Deaf_own,v]
     show _=dC P A (s.aT j x s.sh) (A.b+j);rw[dY hj,a];rfl
   . refine .inr (.inl ⟨j,hj,rfl,?_⟩)
     rw[a];exact⟨F,fn,tmps,todo,y,p,G⟩
   exact .inr (by rw[upd_same];exact D)
end
section
variable{P:abm}
def MS.mI(s:MS P)(ms:oE)(gc:Nat):MS P:={s with ms:=ms,gc:=gc}
inductive Ci(s:MS P):oE->oE->aba
 |call (j:Nat):1<=j->Ci s (.add j) (.bs j .a0) s.gc
 |a0 (j:Nat):Ci s (.bs j .a0) (.bs j .a2) s.gc
 |a2 (j:Nat) (p:FT):p=.a4\/p=.ae->Ci s (.bs j .a2) (.bs j p) (s.gc+1)
 |a4 (j:Nat):Ci s (.bs j .a4) (.bs j .ae) s.gc
 |ae (j:Nat):Ci s (.bs j .ae) (.spawn (j-1)) s.gc
def bN.Xy{n}{s:MS P}(I:bN n s){m0 m1 gc}(f:s.ms=m0)(h:Ci s m0 m1 gc):bN n (s.mI m1 gc)/\s.c=.none:=by
 have a:=I.ms;rw[f]at a;have d:s.c=.none:=by cases h<;>first|exact a.2|exact a.2.1
 obtain⟨k,i,g⟩:=I.calm (by rw[d];rfl);refine⟨⟨?_,I.g2,I.Ef,λj b h=>?_,I.FW,λj b h=>?_,⟨I.g5.1,λh=>(by have h:s.gm=1:=h;omega)⟩,I.g6,λh=>(by have h:s.gv=1:=h;omega),λh=>?_,I.g9,I.ok,I.Rm,I.sp,I.idle,?_,I.early,I.mu⟩,d⟩
 . have:=I.g1
   rw[f]at this;show gc=sumTo n (λj=>(s.w j).cnt)+m1.pend;cases h with
   |a2 j p e=>rcases e with rfl|rfl<;>simp_all [oE.pend]
   |_=>simp_all [oE.pend]
 . have h:s.w j=.dn .d5\/s.w j=.dn .d6:=h
   have:=g j b;rcases h with h|h<;>rw[h]at this<;>cases this
 . have h:s.w j=.dn .d7:=h
   have:=g j b;rw[h]at this;cases this
 . have h:s.c.JP=true:=h
   rw[d]at h;cases h
 cases h with
 |call j b=>exact⟨a.1,a.2,b,.inl rfl⟩
 |a0 j=>exact⟨a.1,a.2.1,a.2.2.1,.inr (.inl rfl)⟩
 |a2 j p e=>exact⟨a.1,a.2.1,a.2.2.1,.inr (.inr e)⟩
 |a4 j=>exact⟨a.1,a.2.1,a.2.2.1,.inr (.inr (.inr rfl))⟩
 |ae j=>exact⟨by have l:=a.1;have m:=a.2.2.1;show s.sp+(j-1)+1=n;omega,a.2.1⟩
def J3{n}{s:MS P}{m0 m1 gc}(a:s.c=.none)(hj:∀j p,m0=.bs j p->1<=j)(b:s.ms=m0)(h:Ci s m0 m1 gc):MS.fL n (s.mI m1 gc) s:=by
 refine .inl ?_;show m1.bZ+sumTo n (λi=>(s.w i).bZ)+s.c.bZ gc<s.ms.bZ+sumTo n (λi=>(s.w i).bZ)+s.c.bZ s.gc;rw[b,a];have e:∀x,jz.bZ x .none=0:=λ_=>rfl
 rw[e,e]
 have:m1.bZ<m0.bZ:=by
  cases h with
  |a2 j p d=>rcases d with rfl|rfl<;>simp[oE.bZ]
  |ae j=>have:=hj j .ae rfl;simp only[oE.bZ];omega
  |_=>simp[oE.bZ]
 omega
end
section
variable{P:abm}{A:bJ}{Fin:aaG}{Z:Base}{s:MS P}{f f':Nat->Node P}{q q':abg}{kk:abl}{OO:abk}{J M:aba}{gs:aaJ}{w w':World}{t u:Trace}{j:Nat}{c:jz}{p:FT}{gc:Nat}{g g1:abd}{m0 m1:oE}
def En(e:s.ms=.bs j p):fS P A s 0:=.inl ⟨rfl,by simp_all⟩
def F6(b:s.c=.none)(e:s.ms=.bs j p):¬dq P A s 0:=by
 have:=A.hb;rintro(⟨_,a⟩|⟨l,d,f,a⟩|⟨_,a⟩)
 . simp_all
 . omega
 simp_all
def ma(e:s.ms≠.parked):¬eL P A s 0:=by
 have:=A.hb;rintro(⟨_,a⟩|⟨l,b,c,a⟩)
 . exact e a
 omega
def F7(e:s.ms=.bs j p):dC P A s 0=r8 p:=by
 unfold dC
 simp_all
def SU:eE A s (s.mI m1 gc) 0:=⟨λ_ _ _=>rfl,λ_=>rfl,λh=>absurd rfl h,rfl,rfl,.inl λ_ _=>rfl⟩
def tC  r  (Q:bC (bV P A Fin Z r) Z s f q kk OO J M gs w t) (z:s.ms=m0) (o:Ci s m0 m1 gc){d}(hd:Deaf t 0=d) (T:gs[0]?=some g){es}(B:stepG P true g w=.go g1 w' es)
 (C:qz A.gb w' gc s.gv s.gm) (D:MW A.gb 0 w w') (E:P4 A.gb es)
 (U:(∃j p n y,m1=.bs j p/\deafBehind d es=r8 p/\iQ P (kF A) n g1 y/\Ud P A Fin (.bs j p) (kk 0) (OO 0) y)\/
   (∃j,m1=.spawn j/\deafBehind d es=0/\g1.status=.running/\∃R:TT P (Ee P A Fin j) (kk 0) (OO 0) g1,True))  sl :Goes P A Fin Z r s gs w t sl 0:=by
 have S:cS P A Z s kk OO J M gs.size w t:=Q.ex;have hb:=A.hb;have V:((0:Nat)==0)=true:=rfl;obtain⟨W,k⟩:=S.I.Xy z o;have F:s.c.isNone=true:=by rw[k];rfl
 have Y:MS.fL A.n (s.mI m1 gc) s:=J3 k (λj p e=>by have:=S.I.ms;simp_all) z o
 have ho:uX P A (s.mI m1 gc):=⟨λ_ h=>absurd k h,λ_=>⟨by cases o<;>simp[MS.mI],by cases o<;>simp[MS.mI],by rw[show(s.mI m1 gc).c=.none from k];simp⟩,λ_=>by cases o<;>simp[MS.mI]⟩
 have G:s.ms≠.parked:=by rw[z];cases o<;>simp
 have H:∀fn pos,Deaf (t++MemOp.ofEvents 0 fn pos es) 0=deafBehind d es:=λfn pos=>by rw[Deaf_own,hd]
 have go:∀(f':Nat->Node P) (q':abg),(∀i,i≠0->f' i=f i)->(∀i,i≠0->q' i=q i)->Self P (bV P A Fin Z r) (s.mI m1 gc) f' q' kk OO J (t++MemOp.ofEvents 0 g.frame.fn g.frame.place es) 0 g1->Goes P A Fin Z r s gs w t sl 0:=λf' q' hf hq m=>AJ (s':=s.mI m1 gc) r Q (.inl rfl) (ma G) T B SU (λ_ _=>rfl) (λ_ _=>rfl) ho rfl rfl id (λi=>YP) W rfl C D (.inr ⟨E,by rw[F];rfl⟩) Y (.inl (.inl rfl)) (.inl id) hf hq m sl
 rcases U with⟨j,p,n,y,rfl,u,v,K⟩|⟨j,rfl,u,hr,R,_⟩
 . have a:(s.mI (.bs j p) gc).ms=.bs j p:=rfl
   refine go f (upd q 0 n) (λ_ _=>rfl) (λi L=>upd_ne q n L) ⟨λhl=>absurd hl (F6 (s:=s.mI (.bs j p) gc) k a),λ_=>⟨F6 (s:=s.mI (.bs j p) gc) k a,?_,?_,y,?_,?_⟩,λhh=>absurd hh (ma (by simp_all)),λ_ F _=>absurd (En a) F⟩
   . show 0<A.b+A.n+1;omega
   . rw[H,u]
     show _=dC P A (s.mI (.bs j p) gc) 0;rw[F7 a]
   . exact .inl ⟨rfl,K⟩
   exact .inr (by rw[upd_same];exact v)
 have N:dq P A (s.mI (.spawn j) gc) 0:=.inl ⟨rfl,trivial⟩
 have O:¬fS P A (s.mI (.spawn j) gc) 0:=by
  rintro(⟨_,x⟩|⟨l,h1,h2,x⟩|⟨_,x⟩)
  . exact x
  . omega
  rw[show(s.mI (.spawn j) gc).c=.none from k]at x;exact x
 refine go (bP f 0 ⟨Ee P A Fin j,kk 0,OO 0,g1,R⟩) q (λi L=>ar _ _ L) (λ_ _=>rfl) ⟨λ_=>?_,λh=>absurd h O,λh=>absurd h (ma (by simp[MS.mI])),λh=>absurd N h⟩
 rw[an];refine⟨by show 0<A.b+A.n+1;omega,rfl,?_,rfl,rfl,hr,by grind,.inl rfl,λl h X h1 h2 _=>by omega⟩
 show Ee P A Fin j=cx P A Fin (s.mI (.spawn j) gc) 0;unfold cx;rw[YG rfl];rfl
variable(C:ga P A.ng)(X:il P A.ng)
include C X in
def Cj  y  (z:bC (bV P A Fin Z y) Z s f q kk OO J M gs w t) (i:s.ms=.bs j p) (B:gs[0]?=some g) (L:Ud P A Fin (.bs j p) (kk 0) (OO 0) g)  sl :Goes P A Fin Z y s gs w t sl 0:=by
 have H:cS P A Z s kk OO J M gs.size w t:=z.ex;have D:=H.I.ms;rw[i]at D;obtain⟨_,V,W,Y⟩:=D;obtain⟨N,a7,hl⟩:=H.I.calm (by rw[V];rfl)
 obtain⟨R,rest,K,S⟩:=L;have d:=H.gr;have hn:=A.hn;have O:CallKind.normal≠CallKind.early:=by decide
 have nx:∀{U g1},im P A.ng A.gb .normal (kF A) U (R::rest) g1->∃n b,iQ P (kF A) n g1 b/\Ud P A Fin (.bs j U) (kk 0) (OO 0) b:=λ⟨_,b,⟨n,hs⟩,hA⟩=>⟨n,b,hs,R,rest,hA,S⟩
 have hd:Deaf t 0=r8 p:=by obtain⟨_,_,Q,_⟩:=z.walk _ (En i);rw[Q];show dC P A s 0=_;rw[F7 i]
 have E:∀l,l<A.n->(s.w l).cnt<=1:=λl _=>by
  cases e:s.w l with
  |dn p=>cases p<;>simp[bo.cnt]
  |_=>simp[bo.cnt]
 have a8:s.gc<=A.n+1:=by
  have o:=H.I.g1;have r:sumTo A.n (λj=>(s.w j).cnt)<=A.n:=nN A.n E
  have h3:s.ms.pend<=1:=by cases s.ms<;>simp[oE.pend];split<;>omega
  omega
 rcases Y with rfl|rfl|rfl|rfl
 . obtain⟨g1,a,hN⟩:=UJ (Wd:=kF A) (main:=true) (w:=w) C X K O
   obtain⟨n,b,o,r⟩:=nx hN;exact tC y z i (.a0 j) hd B a d (bg rfl) (λe c=>by simp at c;subst c;exact .inl (.inl (.inl rfl))) (.inl ⟨j,_,n,b,rfl,rfl,o,r⟩) sl
 . have u:=d
   rw[N]at u;obtain⟨g1,w',a,rfl,x,hN⟩:=UK (Wd:=kF A) (main:=true) (v:=0) C X (λw h=>h.2.1) u (by omega) K
   have F:P4 A.gb #[⟨.cell ⟨A.gb,0,none⟩,false,true⟩,⟨.cell ⟨A.gb,0,none⟩,true,true⟩]:=λe c=>by simp at c;rcases c with rfl|rfl<;>exact .inl (.inr ⟨0,.inl rfl,rfl,rfl⟩)
   rcases hN with hN|hN
   . obtain⟨n,b,o,r⟩:=nx hN
     exact tC y z i (.a2 j _ (.inl rfl)) hd B a (by rw[N];exact x) (⟨⟨.refl _,rfl⟩,.inr ⟨0,_,.inl rfl,rfl,rfl⟩⟩) F (.inl ⟨j,_,n,b,rfl,rfl,o,r⟩) sl
   obtain⟨n,b,o,r⟩:=nx hN;exact tC y z i (.a2 j _ (.inr rfl)) hd B a (by rw[N];exact x) (⟨⟨.refl _,rfl⟩,.inr ⟨0,_,.inl rfl,rfl,rfl⟩⟩) F (.inl ⟨j,_,n,b,rfl,rfl,o,r⟩) sl
 . obtain⟨g1,a,hN⟩:=UL (Wd:=kF A) (main:=true) (w:=w) C X K O
   obtain⟨n,b,o,r⟩:=nx hN;exact tC y z i (.a4 j) hd B a d (bg rfl) (λe c=>by simp at c;subst c;exact .inr ⟨1,.inr rfl,.inl rfl⟩) (.inl ⟨j,_,n,b,rfl,rfl,o,r⟩) sl
 obtain⟨g1,a,hr,⟨k,G⟩⟩:=UM (Wd:=λ_=>True) (main:=true) (w:=w) C X K O
 obtain⟨tr⟩:=T.tree (P:=P) (m:=Ee P A Fin (j-1)) rfl S;obtain⟨T,_⟩:=TT.pre G tr;exact tC y z i (.ae j) hd B a d (bg rfl) (λe c=>by simp at c;subst c;exact .inl (.inl (.inr rfl))) (.inr ⟨j-1,rfl,rfl,hr,T,trivial⟩) sl
include C X in
def J4  c  (d:bC (bV P A Fin Z c) Z s f q kk OO J M gs w t) (r:s.ms=.add (j+1)){k O N}(h:k=kk 0) (i:O=OO 0) (y:gs[0]?=some g) (z:(ot P A Fin (j+1)).cY k O g N)  sl :
 Goes P A Fin Z c s gs w t sl 0:=by
 have u:cS P A Z s kk OO J M gs.size w t:=d.ex;obtain⟨_,_,_,_,_,_,l,_⟩:=d.live 0 (.inl ⟨rfl,by rw[r];trivial⟩);obtain⟨rfl,v,rest,rfl,B⟩:=z;subst h i;obtain⟨D,⟨n,a⟩,x⟩:=yl (P:=P) (n:=A.ng) (b:=A.gb) (kind:=.normal) (cs:=v::rest) (Wd:=kF A) X;cases n with
 |zero=>exact absurd rfl (J1 C a x)
 |succ n=>obtain⟨g1,⟨E,m⟩,o⟩:=a;have p:kF A w:=(bf (P:=P) (A:=A) (Fin:=Fin) (Z:=Z) c).wd u;exact tC c d r (.call (j+1) (by omega)) l y (m true w p) u.gr (bg rfl) (λe F=>by simp at F) (.inl ⟨j+1,.a0,n,D,rfl,rfl,o,v,rest,x,B⟩) sl
end
