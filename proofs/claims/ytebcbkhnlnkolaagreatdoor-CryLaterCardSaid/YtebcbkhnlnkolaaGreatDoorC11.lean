import Derived.Test.YtebcbkhnlnkolaaGreatDoorC10
set_option linter.all false
namespace Go.ck
section
open Go.Conc
open Go.ConcN (sumTo upd sumTo_upd upd_ne upd_same)
section
variable{P:adT}{A:bQ}{Fin:adl}{Z:Base}{s:MS P}{f:Nat->Node P}{q:adM}{kk:adS}{OO:adR}{J M:adG}{gs:adp}{w w':World}{t:Trace}{j:Nat}{x:bu P}{sh:Mu.Sh}{g g1:adJ}
def El  n :20<=Co n:=by unfold Co;omega
def qY{X h}(hj:j<A.n)(a:s.w j=.run h X){y}(b:x.nd=some y)(c:x.work=true)(hu:y=X\/Relation.TransGen pQ y X)
 (hi:4*Mu.meas A.n (Mu.set (λi=>(s.w i).pc) j x.pc) sh+x.ex A.n<4*Mu.meas A.n (λi=>(s.w i).pc) s.sh+2*Co A.n):MS.gX A.n (s.aZ j x sh) s:=by
 have d:(s.w j).work=true:=by rw[a];rfl
 rcases hu with rfl|hu
 . exact xe hj d c (by rw[b,a];rfl) (by rw[a];exact hi)
 . exact Cq hj d c ⟨y,X,b,by rw[a];rfl,hu⟩
variable(C:ib P A.nm)(X:ig P A.nm)(F:mP P A.nm)
include C X F in
def JB  D  (H:bJ (cj P A Fin Z D) Z s f q kk OO J M gs w t) (hj:j<A.n){h X0}(a:s.w j=.run h X0){Y:Jx P}(hf:f (A.b+j)=Y.node) (hl:RX P A j Y.k Y.O Y.g Y.N)  sl :
 Goes P A Fin Z D s gs w t sl (A.b+j):=by
 have B:dq P A Z s kk OO J M gs.size w t:=H.ex;obtain⟨_,d,l,r,u,_,E,_,y⟩:=H.live _ (kO hj a);rw[hf]at d l r u y;have d:gs[A.b+j]?=some Y.g:=d;have r:Y.k=kk (A.b+j):=r;have u:Y.O=OO (A.b+j):=u;have l:Y.m=iO P A j:=by have:Y.m=cK P A Fin s (A.b+j):=l;rw[this,od hj a]
 obtain⟨τ,c,μ,e,hk,hg,K,z,G,L⟩:=hl;rw[r]at z L;rw[u]at K L
 have hh:h=false:=by
  cases h with
  |false=>rfl
  |true=>exact absurd K (B.Aj j hj (by rw[a];rfl))
 subst hh;have Q:(s.w j).work=true:=by rw[a];rfl
 have v:(s.w j).pc=.out:=by rw[a];rfl
 have hu:=y j false X0 hj rfl a Y.node (.inl rfl) trivial;obtain⟨g2,⟨n,p⟩,R⟩:=rS (P:=P) (n:=A.nm) (b:=A.fb) (o:=A.fo) (τ:=τ) (cs:=c::μ) (Wd:=lG A) F;rw[<-hg]at p;have a9:=El A.n;cases n with
 | zero=>
   have e0:Y.g=g2:=p;rw[<-e0]at R;obtain⟨g1,S,hr,g3,⟨k,T⟩,U⟩:=Ch (Wd:=lG A) (main:=false) (w:=w) C X R;refine Eg (x:=.lk .iM Y) (sh:=s.sh) D H hj Q E (kr hj a) rfl (by rw[a];rfl) (λ_=>by rw[a];rfl) (B.I.Zo hj Q rfl rfl v rfl) (qY hj a rfl rfl hu ?_) d S (br rfl) B.mu (λe he=>by simp at he;subst he;exact .inl (.inl rfl)) rfl ⟨k,g3,T,τ,c,μ,e,hk,U,l,K,z,G,L⟩ (.inl λV=>V) sl
   show 4*Mu.meas A.n (Mu.set (λi=>(s.w i).pc) j .iM) s.sh+0<_
   rw[Ef hj v];unfold Co;omega
 | succ n=>
   obtain⟨g1,⟨ad,W⟩,a7⟩:=p;have a8:lG A w:=(bq (P:=P) (A:=A) (Fin:=Fin) (Z:=Z) D).wd B;refine Eg (x:=.lk .ld Y) (sh:=s.sh) D H hj Q E (kr hj a) rfl (by rw[a];rfl) (λ_=>by rw[a];rfl) (B.I.still hj Q rfl rfl (by rw[v];rfl)) (qY hj a rfl rfl hu ?_) d (W false w a8) (br rfl) B.mu gq rfl ⟨n,g2,a7,τ,c,μ,e,hk,R,l,K,z,G,L⟩ (.inl λV=>V) sl
   have e1:Mu.set (λi=>(s.w i).pc) j (bu.lk .ld Y).pc=λi=>(s.w i).pc:=by
    have:=jV (λi=>(s.w i).pc) j
    rw[show(s.w j).pc=(bu.lk .ld Y).pc from v]at this
    exact this
   rw[e1];show _+Co A.n<_;omega
end
section
variable{P:adT}{A:bQ}{Fin:adl}{Z:Base}{s:MS P}{f:Nat->Node P}{q:adM}{kk:adS}{OO:adR}{J M:adG}{gs:adp}{w w':World}{t:Trace}{j:Nat}{x:bu P}{sh:Mu.Sh}{g g1:adJ}
variable(C:ib P A.nm)(X:ig P A.nm)(F:mP P A.nm)
include C X F in
def Em  H  (R:bJ (cj P A Fin Z H) Z s f q kk OO J M gs w t) (hj:j<A.n){h X0}(d:s.w j=.run h X0){Y:Jx P}(hf:f (A.b+j)=Y.node) (hl:Il P A j Y.k Y.O Y.g (FQ P A Y.N))  sl :
 Goes P A Fin Z H s gs w t sl (A.b+j):=by
 have D:dq P A Z s kk OO J M gs.size w t:=R.ex;obtain⟨_,e,p,y,z,_,K,_,B⟩:=R.live _ (kO hj d);rw[hf]at e p y z B;have e:gs[A.b+j]?=some Y.g:=e;have y:Y.k=kk (A.b+j):=y;have z:Y.O=OO (A.b+j):=z;have p:Y.m=iO P A j:=by have:Y.m=cK P A Fin s (A.b+j):=p;rw[this,od hj d]
 obtain⟨τ,c,μ,tf,xo,a,hk,hg,E,Dl,L,T,Q,U⟩:=hl;rw[y]at L Q U;rw[z]at E Dl U
 have hh:h=true:=by
  obtain⟨l,_,hl,h2,h3,_⟩:=D.tok _ _ E;obtain rfl:l=j:=by omega
  rw[d]at h3;exact h3
 subst hh;have S:(s.w j).work=true:=by rw[d];rfl
 have G:(s.w j).pc=.held:=by rw[d];rfl
 have hu:=B j true X0 hj rfl d Y.node (.inl rfl) trivial;obtain⟨g2,⟨n,r⟩,V⟩:=pH (P:=P) (n:=A.nm) (b:=A.fb) (o:=A.fo) (τ:=τ) (cs:=c::μ) (Wd:=lG A) F;rw[<-hg]at r;have av:=El A.n
 have e1:Mu.set (λi=>(s.w i).pc) j .held=λi=>(s.w i).pc:=by
  have:=jV (λi=>(s.w i).pc) j
  rw[show(s.w j).pc=.held from G]at this
  exact this
 have u:∃f x a,OO (A.b+j) A.fb=some (.part f)/\OO (A.b+j) A.mb=some x/\kV (kk (A.b+j)) x a/\A.GI a/\(A.dir=true->(kk (A.b+j)).cell A.fb (A.cell j)=some (A.val j))/\FQ P A Y.N (kk (A.b+j)) (((OO (A.b+j)).del A.mb).del A.fb) (kH τ c μ (.tuple #[])):=⟨tf,xo,a,E,Dl,L,T,Q,U⟩;cases n with
 | zero=>
   have e0:Y.g=g2:=r;rw[<-e0]at V;obtain⟨v,hv⟩:=((bq (P:=P) (A:=A) (Fin:=Fin) (Z:=Z) H).wd D).2.2;obtain⟨g1,W,hr,g3,⟨k,a7⟩,a8⟩:=yl (Wd:=lG A) (main:=false) (w:=w) C X (λw h=>h.2.2) hv V
   refine Eg (x:=.un .ur Y) (sh:=s.sh) H R hj S K (kr hj d) rfl (by rw[d];rfl) (λ_=>by rw[d];rfl) (D.I.still hj S rfl rfl (by rw[G];rfl)) (qY hj d rfl rfl hu ?_) e W (br rfl) D.mu gq rfl ⟨k,g3,a7,τ,c,μ,hk,a8,p,λ_=>u,λh=>absurd (.inr rfl) h⟩ (.inl λh0=>h0) sl
   show 4*Mu.meas A.n (Mu.set (λi=>(s.w i).pc) j .held) s.sh+4<_
   rw[e1];omega
 | succ n=>
   obtain⟨g1,⟨ax,a9⟩,ad⟩:=r;have al:lG A w:=(bq (P:=P) (A:=A) (Fin:=Fin) (Z:=Z) H).wd D;refine Eg (x:=.un .H6 Y) (sh:=s.sh) H R hj S K (kr hj d) rfl (by rw[d];rfl) (λ_=>by rw[d];rfl) (D.I.still hj S rfl rfl (by rw[G];rfl)) (qY hj d rfl rfl hu ?_) e (a9 false w al) (br rfl) D.mu gq rfl ⟨n,g2,ad,τ,c,μ,hk,V,p,λ_=>u,λh=>absurd (.inl rfl) h⟩ (.inl λh0=>h0) sl
   show 4*Mu.meas A.n (Mu.set (λi=>(s.w i).pc) j .held) s.sh+5<_
   rw[e1];omega
end
section
variable{P:adT}{A:bQ}{Z:Base}{s:MS P}{kk:adS}{OO:adR}{J M:adG}{gsz:Nat}{w w':World}{t:Trace}
def dq.VX(h:dq P A Z s kk OO J M gsz w t)(a:MW A.gb 0 w w'):Calm Z w w':=by obtain⟨d,c,_⟩:=oT a h.Ai;have:=h.fP.2.2;exact⟨a.1,λb hb=>c b (by omega)⟩
def dq.VY(h:dq P A Z s kk OO J M gsz w t)(d:MW A.gb 0 w w'):∀b,Kept kk OO w w' b:=λb=>by
 obtain⟨p,f,c,e,g,j,k,l,q⟩:=oT d h.Ai;by_cases hb:b=A.gb
 . subst hb
   refine .inr (.inr ⟨c,g,e,j,k,l,λi x a=>(by rw[(h.ik i).2]at a;cases a),λn=>?_⟩);by_cases m:n=0
   . subst m;exact .inr λi=>(h.eV i).2.2.1
   . by_cases o:n=1
     . subst o;exact .inr λi=>(h.eV i).2.2.2
     simp_all
 . exact .inl (f b hb)
def dq.R4(h:dq P A Z s kk OO J M gsz w t){n}(a:n=0\/n=1):L5 kk OO w.heap.size (.cell ⟨A.gb,n,none⟩):=by
 have b:A.gb<w.heap.size:=by obtain⟨c,e,d⟩:=h.Ai;grind
 refine⟨b,λi=>⟨eH (h.ik i).2,?_⟩⟩
 rcases a with rfl|rfl
 . exact(h.eV i).2.2.1
 . exact(h.eV i).2.2.2
def dq.MR(h:dq P A Z s kk OO J M gsz w t){es}(p:EvM A.gb 0 es){i}(hi:bX P A s i)  fn   pos :
 Cr kk OO w.heap.size t i (MemOp.ofEvents i fn pos es)/\(∀op∈MemOp.ofEvents i fn pos es,op.act.low w.heap.size)/\(∀op∈MemOp.ofEvents i fn pos es,(∀a,op.act.touch?=some a->a.kind=.atomic/\zY A a.loc)/\∀a,op.act≠.mark (.release a))/\
 ∀op∈MemOp.ofEvents i fn pos es,∀a,op.act.touch?=some a->Z.Shun a.loc:=by
 have v:A.gb<w.heap.size:=by obtain⟨c,e,j⟩:=h.Ai;grind
 refine⟨λop d a k=>?_,λop d=>?_,λop d=>?_,λop d a k=>?_⟩<;>obtain⟨e,l,rfl⟩:=za d<;>obtain⟨o,q,x⟩:=oa (p e l)
 . obtain⟨j,n,f,g⟩:=o a k
   have f:n=0\/n=1:=by omega
   refine⟨j,λ_=>by rw[g];exact h.R4 f,λm b hb r u=>h.quiet m b hb ?_ u i hi⟩
   rw[r,g];exact⟨rfl,.inr ⟨rfl,f⟩⟩
 . grind
 . refine⟨λa k=>?_,q⟩
   obtain⟨j,n,f,g⟩:=o a k;exact⟨j,by rw[g];exact⟨rfl,.inr ⟨rfl,by omega⟩⟩⟩
 . obtain⟨j,n,f,g⟩:=o a k
   have f:n=0\/n=1:=by omega
   rw[g];exact h.tk _ ⟨rfl,.inr ⟨rfl,f⟩⟩ ⟨_,rfl,rfl⟩
def JC{Z J M t u}{i m:Nat}{op a}(e:u[m]?=some op)(f:op.act.touch?=some a)(b:Z.Shun a.loc)(c:a.kind=.atomic)(d:¬(t++u).counts (t.size+m)):Told Z J M (t++u) (t.size+m) a:=.inr (.inr (.inr ⟨b,c,λh=>absurd h d⟩))
end
end
section
open Go.Conc
open Go.ConcN (sumTo upd sumTo_upd upd_ne upd_same)
variable{P:adT}
section
variable{s:MS P}{j n:Nat}{x:bu P}{sh:Mu.Sh}
def tH(hj:j<n)(h:x.cB<(s.w j).cB):MS.gX n (s.aZ j x sh) s:=by
 have:=tF (s:=s) (x:=x) (sh:=sh) bu.cB hj;refine .inl ?_;show s.ms.cB+sumTo n (λi=>((s.aZ j x sh).w i).cB)+s.c.cB s.gc<s.ms.cB+sumTo n (λi=>(s.w i).cB)+s.c.cB s.gc;omega
def bU.xg(I:bU n s)(hj:j<n)(a:(s.w j).Cp=true)(b:x.Cp=true)(c:x.iY=(s.w j).iY\/s.d=true)(e:x.ok=true)(f:x.pc=(s.w j).pc):bU n (s.aZ j x s.sh):=I.same hj a b c e (by rw[f,jV (λi=>(s.w i).pc)];exact I.mu)
end
end
section
open Go.Conc
open Go.ConcN (sumTo upd sumTo_upd upd_ne upd_same)
section
variable{P:adT}{A:bQ}{Fin:adl}{Z:Base}{s:MS P}{f f':Nat->Node P}{q q':adM}{kk kk':adS}{OO OO':adR}{J J' M:adG}{gs:adp}{w w':World}{t:Trace}{j:Nat}{x:bu P}{sh:Mu.Sh}{g g1:adJ}
def m7(hj:j<A.n){p}(e:s.w j=.dn p):ij P A s (A.b+j):=.inr (.inl ⟨j,hj,rfl,by simp_all⟩)
def kP(hj:j<A.n){p}(e:s.w j=.dn p):¬dL P A s (A.b+j):=by
 have:=A.hb;rintro(⟨e,_⟩|⟨l,a,c,d⟩|⟨e,_⟩)
 . omega
 . simp_all
 . omega
def qw(hj:j<A.n){p}(e:s.w j=.dn p):¬fS P A s (A.b+j):=by
 have:=A.hb;rintro(⟨e,_⟩|⟨l,a,c,d⟩)
 . omega
 simp_all
end
section
variable{P:adT}{A:bQ}{Fin:adl}{Z:Base}{s:MS P}{f:Nat->Node P}{q:adM}{kk:adS}{OO:adR}{J M:adG}{gs:adp}{gsz:Nat}{w w':World}{t u:Trace}{j:Nat}{x:bu P}{sh:Mu.Sh}{g:adJ}
variable(C:iu P A.ng)(X:iW P A.ng)
include C X in
def QG  z  (L:bJ (cj P A Fin Z z) Z s f q kk OO J M gs w t) (hj:j<A.n) (d:s.w j=.dn .d2) (hg:gs[A.b+j]?=some g) (N:Io P A j (.dn .d2) (kk (A.b+j)) (OO (A.b+j)) g)  sl :
 Goes P A Fin Z z s gs w t sl (A.b+j):=by
 have r:dq P A Z s kk OO J M gs.size w t:=L.ex;have B:=bq (P:=P) (A:=A) (Fin:=Fin) (Z:=Z) z;have hb:=A.hb;have Q:(A.b+j==0)=false:=by simp;omega
 obtain⟨fw,fn,η,todo,R,D,hM⟩:=N;obtain⟨g1,S,hr,g2,⟨k,E⟩,F⟩:=X3 (Wd:=lG A) (main:=false) (w:=w) C X hM;obtain⟨x,o⟩:∃x:bu P,x=.dn .d4:=⟨_,rfl⟩;have c:(s.aZ j x s.sh).w j=.dn .d4:=by rw[ba,o]
 have T:=m7 (P:=P) (A:=A) (s:=s) hj d
 have u:Deaf t (A.b+j)=0:=by obtain⟨_,_,u,_⟩:=L.walk _ T;rw[u];show dW P A s (A.b+j)=0;rw[fC hj,d];rfl
 have G:=runT_crowd_go (P:=P) (sl:=sl) (i:=A.b+j) hg (by rw[Q];exact S)
 have H:bX P A s (A.b+j):=iZ r.I hj (by rw[d];rfl)
 obtain⟨y1,y2,y3,y4⟩:=r.MR (es:=#[⟨.mark .disable,false,true⟩]) (λe K=>by simp at K;subst K;exact .inl (.inl rfl)) H g.frame.fn g.frame.place
 have p:∀op∈MemOp.ofEvents (A.b+j) g.frame.fn g.frame.place #[⟨.mark .disable,false,true⟩],op.g=A.b+j:=λop v=>by obtain⟨e,_,rfl⟩:=za v;rfl
 have U:∀op∈MemOp.ofEvents (A.b+j) g.frame.fn g.frame.place #[⟨.mark .disable,false,true⟩],op.act.touch?=none:=λop v=>by obtain⟨e,K,rfl⟩:=za v;simp at K;subst K;rfl
 have hP:=L.cX.RY (i:=A.b+j) (w':=w) p rfl ⟨⟨.refl _,rfl⟩,λ_ _=>rfl⟩ (λb=>.inl rfl) y2 y1 (λm op a h1 h2 _=>by rw[U op (abF h1)]at h2;cases h2)
 have hI:bU A.n (s.aZ j x s.sh):=r.I.xg hj (by rw[d];rfl) (by rw[o];rfl) (.inl (by rw[o,d];rfl)) (by rw[o];rfl) (by rw[o,d];rfl)
 have hL:MS.gX A.n (s.aZ j x s.sh) s:=tH hj (by rw[o,d];simp[bu.cB])
 have V:=r.yt (x:=x) (sh:=s.sh) (w':=w) hj (by rw[o,d];rfl) (by rw[o,d];rfl) (λ_=>by rw[o,d];rfl) hI r.mu (λ_ _=>rfl) r.uV y3
 have W:Beside (cj P A Fin Z z) s (s.aZ j x s.sh) f f q (upd q (A.b+j) k) kk kk OO OO J J w (A.b+j) g g1:=qu z hj (by rw[o,d];rfl) (λi hi=>rfl) (λi hi=>upd_ne q k hi) (λ_ _ _=>rfl) (λ_ _ _=>rfl) (λ_ _ h=>h) (.inl λh=>h) (λ{i k O y} F=>B.ly (s:=s) (i:=i) (k:=k) (O:=O) (g:=y) F)
 refine⟨_,_,G,s.aZ j x s.sh,f,upd q (A.b+j) k,kk,OO,J,M,_,_,_,rfl,hL,?_⟩;refine bJ.step B L hg p hP V (λl y Y F=>B.tv r Y _ _ F) W ⟨λY=>absurd Y (kP hj c),λ_=>⟨kP hj c,?_,?_,g2,?_,?_⟩,λhh=>absurd hh (qw hj c),λ_ hn _=>absurd (m7 hj c) hn⟩
 . show A.b+j<A.b+A.n+1;omega
 . rw[Deaf_own,u]
   show _=dW P A (s.aZ j x s.sh) (A.b+j);rw[fC hj,c];rfl
 . refine .inr (.inl ⟨j,hj,rfl,?_⟩)
   rw[c];exact⟨fw,fn,η,todo,R,D,F⟩
 . exact .inr (by rw[upd_same];exact E)
end
section
variable{Z:Base}{kk:adS}{OO:adR}{J M:adG}{w:World}{t:Trace}
def cE.bM(h:cE Z kk OO J M w t){i ad}(o:ad.block<w.heap.size)(hd:Deaf t i=0)  fn   pos :
 cE Z kk OO (λl=>J l/\l≠i) (λp=>M p\/p=t.size) w (t++MemOp.ofEvents i fn pos #[⟨.mark (.releaseMerge ad),false,true⟩]):=by
 obtain⟨u,A⟩:∃u,u=MemOp.ofEvents i fn pos #[⟨.mark (.releaseMerge ad),false,true⟩]:=⟨_,rfl⟩;have d:u=#[⟨i,fn,pos,.mark (.releaseMerge ad)⟩]:=by rw[A,ofEvents_eq];simp[MemAct.ofEvent]
 rw[<-A];have B:∀op∈u,op.act.touch?=none:=λop c=>by rw[d]at c;simp at c;subst c;rfl
 have f:∀op∈u,op.g=i:=λop c=>by grind
 have q:u[0]?=some ⟨i,fn,pos,.mark (.releaseMerge ad)⟩:=by grind
 exact h.uK (λa b=>a=b) rfl ⟨⟨.refl _,rfl⟩,λ_ _=>rfl⟩ (λb=>.inl rfl) (λop c=>by rw[d]at c;simp at c;subst c;simpa[MemAct.low]using o) (λa b e n y _ _ _ C=>by subst e;exact C.app u)
  (λj b n v h=>⟨j,rfl,h⟩) (λj b s h=>⟨j,rfl,h⟩) (λj b x h=>⟨j,rfl,h,λ_ h=>h⟩) h.jR
  (λsaid=>noRace_append (h.clean said) f λn a r op c b hb _=>by simp_all) (λop c a r=>by simp_all) (λm op a c r=>by grind)
  (fun n a r D h=>h.elim (λ⟨j,z,k⟩=>by
    by_cases e:j=i
    . subst e;exact .inr (.inr (.inl ⟨t.size+0,.inr rfl,me k q rfl⟩))
    . exact .inr (.inl ⟨j,⟨z,e⟩,k.app _⟩)) (λ⟨p,z,k⟩=>.inr (.inr (.inl ⟨p,.inl z,k.app _⟩))))
end
section
variable{P:adT}{A:bQ}{Fin:adl}{Z:Base}{s:MS P}{f:Nat->Node P}{q:adM}{kk:adS}{OO:adR}{J M:adG}{gs:adp}{gsz:Nat}{w w':World}{t u:Trace}{j:Nat}{x:bu P}{sh:Mu.Sh}{g:adJ}
def dq.bM(h:dq P A Z s kk OO J M gsz w t)(hj:j<A.n)(z:x.busy=false)(B:s.c=.none\/s.c=.eU\/∃q,s.c=.wt q)(hd:Deaf t (A.b+j)=0)(E:∃op,u[0]?=some op/\op.g=A.b+j/\op.act=.mark (.releaseMerge ⟨A.gb,0,none⟩))(C:kX u)(S:x.owns=(s.w j).owns)(F:x.iP=(s.w j).iP)(T:bU A.n (s.aZ j x sh))(G:ShM A.fb A.fo w' sh)
 (d:∀b,b≠A.fb->w'.heap[b]?=w.heap[b]?) (H:∃c e,w'.heap[A.fb]?=some (.cells c e (0,0))) (O:∀op∈u,(∀a,op.act.touch?=some a->a.kind=.atomic/\zY A a.loc)/\∀a,op.act≠.mark (.release a)):
 dq P A Z (s.aZ j x sh) kk OO (λl=>J l/\l≠A.b+j) (λp=>M p\/p=t.size) gsz w' (t++u):=by
 have hb:=A.hb
 have D:∀l,((s.aZ j x sh).w l).owns=(s.w l).owns:=λl=>by
  by_cases e:l=j
  . subst e;rw[ba,S]
  rw[cC e]
 refine⟨T,h.size,h.dd,h.off,h.Gp (λhd l _=>⟨?_,D l⟩) (λop k a I=>((O op k).1 a I).2),λhd=>by rw[d _ A.d1];exact h.AZ hd,G,h.gr.same (.of_heap (d _ (wK A.d4))),H,by rw[d _ (wK A.d4)];exact h.Ai,h.ik,h.eV,λi y U=>?_,λl Q K=>h.Aj l Q (by simp_all),λK=>h.PQ λl Q=>by simp_all,λc L=>?_,
  λi=>?_,λp N=>?_,λL=>?_,h.kM u (λop k a I _ V=>?_),h.oQ u (λop k a I _ V=>?_),h.qt u,h.jU u (λop k=>(O op k).2),h.Ec,h.tk,h.kq,h.fP,h.la,by simp;exact aaH h.n0 (abS _ _)⟩
 . by_cases e:l=j
   . subst e;rw[ba,F]
   rw[cC e]
 . obtain⟨l,f,o,r,v,W⟩:=h.tok i y U
   exact⟨l,f,o,r,by simp_all,W⟩
 . obtain⟨o,r⟩:=h.PR c L
   simp_all
 . rw[h.hJ i]
   constructor
   . rintro⟨⟨l,o,r,v⟩|⟨o,r⟩,X⟩
     . exact .inl ⟨l,o,r,by rw[cC (by omega)];exact v⟩
     exact .inr ⟨o,r⟩
   rintro(⟨l,o,r,v⟩|⟨o,r⟩)
   . by_cases e:l=j
     . subst e;rw[ba,z]at v;cases v
     rw[cC e]at v;exact⟨.inl ⟨l,o,r,v⟩,by omega⟩
   exact⟨.inr ⟨o,r⟩,by omega⟩
 . rcases N with N|rfl
   . exact h.vU u p N
   obtain⟨op,R,Y,e3⟩:=E;refine⟨heard_new (m:=0) C R (by simp_all),h.n0,.inl ⟨?_,B⟩⟩;have e4:=act?_of (dH (t:=t) (m:=0) R)
   simp_all
 . obtain⟨p,o,r,v⟩:=h.mY u L
   grind
 . grind
 grind
variable(C:iu P A.ng)(X:iW P A.ng)
include C X in
def QH  E  (Q:bJ (cj P A Fin Z E) Z s f q kk OO J M gs w t) (hj:j<A.n) (m:s.w j=.dn .d1) (hg:gs[A.b+j]?=some g) (R:Io P A j (.dn .d1) (kk (A.b+j)) (OO (A.b+j)) g)  sl :
 Goes P A Fin Z E s gs w t sl (A.b+j):=by
 have v:dq P A Z s kk OO J M gs.size w t:=Q.ex;have B:=bq (P:=P) (A:=A) (Fin:=Fin) (Z:=Z) E;have hb:=A.hb;have S:(A.b+j==0)=false:=by simp;omega
 obtain⟨fw,fn,η,todo,T,F,hM⟩:=R;obtain⟨g1,U,hr,g2,⟨k,G⟩,H⟩:=X2 (Wd:=lG A) (main:=false) (w:=w) C X hM;obtain⟨x,u⟩:∃x:bu P,x=.dn .d2:=⟨_,rfl⟩;have d:(s.aZ j x s.sh).w j=.dn .d2:=by rw[ba,u]
 have V:=m7 (P:=P) (A:=A) (s:=s) hj m
 have o:Deaf t (A.b+j)=0:=by obtain⟨_,_,o,_⟩:=Q.walk _ V;rw[o];show dW P A s (A.b+j)=0;rw[fC hj,m];rfl
 have K:=runT_crowd_go (P:=P) (sl:=sl) (i:=A.b+j) hg (by rw[S];exact U)
 have a7:bX P A s (A.b+j):=iZ v.I hj (by rw[m];rfl)
 have L:∀op∈MemOp.ofEvents (A.b+j) g.frame.fn g.frame.place #[⟨.mark (.releaseMerge ⟨A.gb,0,none⟩),false,true⟩],op.g=A.b+j:=λop r=>by obtain⟨e,_,rfl⟩:=za r;rfl
 have y3:∀op∈MemOp.ofEvents (A.b+j) g.frame.fn g.frame.place #[⟨.mark (.releaseMerge ⟨A.gb,0,none⟩),false,true⟩],(∀a,op.act.touch?=some a->a.kind=.atomic/\zY A a.loc)/\∀a,op.act≠.mark (.release a):=λop r=>by obtain⟨e,N,rfl⟩:=za r;simp at N;subst N;exact⟨λa ha=>by simp[MemAct.ofEvent,MemAct.touch?]at ha,λa h=>by simp[MemAct.ofEvent]at h⟩
 have z:kX (MemOp.ofEvents (A.b+j) g.frame.fn g.frame.place #[⟨.mark (.releaseMerge ⟨A.gb,0,none⟩),false,true⟩]):=λop r=>by obtain⟨e,N,rfl⟩:=za r;simp at N;subst N;simp[MemAct.ofEvent]
 have hG:A.gb<w.heap.size:=by obtain⟨c,e,h1⟩:=v.Ai;exact(wS.1 h1).1
 have hP:=Q.cX.bM (i:=A.b+j) (ad:=⟨A.gb,0,none⟩) hG o g.frame.fn g.frame.place
 have D:s.c=.none\/s.c=.eU\/∃q,s.c=.wt q:=by
  cases e:s.c with
  |none=>exact .inl rfl
  |eU=>exact .inr (.inl rfl)
  |wt p=>exact .inr (.inr ⟨p,rfl⟩)
  |jS=>have:=(v.I.g8 (by rw[e];rfl)).2.2.2 j hj;rw[m]at this;cases this
  |gone=>have:=(v.I.g8 (by rw[e];rfl)).2.2.2 j hj;rw[m]at this;cases this
 have hI:bU A.n (s.aZ j x s.sh):=v.I.xg hj (by rw[m];rfl) (by rw[u];rfl) (.inl (by rw[u,m];rfl)) (by rw[u];rfl) (by rw[u,m];rfl)
 have hL:MS.gX A.n (s.aZ j x s.sh) s:=tH hj (by rw[u,m];simp[bu.cB])
 have W:=v.bM (x:=x) (sh:=s.sh) (w':=w) hj (by rw[u];rfl) D o ⟨⟨A.b+j,g.frame.fn,g.frame.place,.mark (.releaseMerge ⟨A.gb,0,none⟩)⟩,by rw[ofEvents_eq];simp[MemAct.ofEvent],rfl,rfl⟩ z (by rw[u,m];rfl) (by rw[u,m];rfl) hI v.mu (λ_ _=>rfl) v.uV y3
 have Y:Beside (cj P A Fin Z E) s (s.aZ j x s.sh) f f q (upd q (A.b+j) k) kk kk OO OO J (λl=>J l/\l≠A.b+j) w (A.b+j) g g1:=qu E hj (by rw[u,m];rfl) (λi hi=>rfl) (λi hi=>upd_ne q k hi) (λ_ _ _=>rfl) (λ_ _ _=>rfl) (λ_ hn h=>⟨h,hn⟩) (.inl λh=>h) (λ{i k O y} H=>B.ly (s:=s) (i:=i) (k:=k) (O:=O) (g:=y) H)
 refine⟨_,_,K,s.aZ j x s.sh,f,upd q (A.b+j) k,kk,OO,(λl=>J l/\l≠A.b+j),(λp=>M p\/p=t.size),_,_,_,rfl,hL,?_⟩
 refine bJ.step B Q hg L hP W (λl y hl H=>B.tv v hl _ _ H) Y ⟨λhl=>absurd hl (kP hj d),λ_=>⟨kP hj d,?_,?_,g2,?_,?_⟩,λhh=>absurd hh (qw hj d),λ_ hn _=>absurd (m7 hj d) hn⟩
 . show A.b+j<A.b+A.n+1;omega
 . rw[Deaf_own,o]
   show _=dW P A (s.aZ j x s.sh) (A.b+j);rw[fC hj,d];rfl
 . refine .inr (.inl ⟨j,hj,rfl,?_⟩)
   rw[d];exact⟨fw,fn,η,todo,T,F,H⟩
 exact .inr (by rw[upd_same];exact G)
end
section
variable{P:adT}{A:bQ}{Fin:adl}{Z:Base}{s s':MS P}{f f':Nat->Node P}{q q':adM}{kk kk':adS}{OO OO':adR}{J J' M:adG}{gs:adp}{gsz:Nat}{w w':World}{t u:Trace}{i:Nat}{g g1:adJ}
def sC{c:ko}:c.fe=true↔c=.gone:=by cases c<;>simp[ko.fe]
def oV{c:ko}:c.isNone=true↔c=.none:=by cases c<;>simp[ko.isNone]
def dq.VZ{M'}(h:dq P A Z s kk OO J M gsz w t)(L:fQ A s s' i)(G:∀l,l<A.n->(s'.w l).owns=(s.w l).owns)(O:∀l,l<A.n->(s'.w l).iP=(s.w l).iP)(H:wO P A s')(o:s'.c.fe=s.c.fe)(b:s'.c.isNone=s.c.isNone)
 (Q:∀p,M' p->M p) (av:s.c=.gone->∀p,M p->M' p) (R:(∃p,M' p)->(s.c=.none\/s.c=.eU\/∃q,s.c=.wt q)->(s'.c=.none\/s'.c=.eU\/∃q,s'.c=.wt q)) (S:∀i,eI P A s' i↔eI P A s i) (hI:bU A.n s') (T:s'.sh=s.sh) (U:rQ A.gb w' s'.gc s'.gv s'.gm) (V:MW A.gb 0 w w')
 (W:∀op∈u,(∀a,op.act.touch?=some a->(a.kind=.atomic\/(a.kind=.said/\op.g=(if s.c.isNone then 0 else A.cl)))/\zY A a.loc)/\∀a,op.act≠.mark (.release a)):dq P A Z s' kk OO J M' gsz w' (t++u):=by
 obtain⟨m1,X,c,e,c',m3,m4,_⟩:=oT V h.Ai
 have z:∀i,bX P A s' i->bX P A s i:=λi C=>by
  rcases C with Y|⟨j,k,r⟩|⟨k,r⟩
  . exact .inl Y
  . exact .inr (.inl ⟨j,by rw[<-L.sp];exact k,r⟩)
  refine .inr (.inr ⟨k,λe=>r ?_⟩);exact oV.1 (by rw[b];exact oV.2 e)
 have D:∀i,bX P A s i->bX P A s' i:=λi C=>by
  rcases C with Y|⟨j,k,r⟩|⟨k,r⟩
  . exact .inl Y
  . exact .inr (.inl ⟨j,by rw[L.sp];exact k,r⟩)
  refine .inr (.inr ⟨k,λe=>r ?_⟩);exact oV.1 (by rw[<-b];exact oV.2 e)
 have a7:s'.c=.gone↔s.c=.gone:=by rw[<-sC,<-sC,o]
 refine⟨hI,by rw[L.sp,b];exact h.size,by rw[L.d];exact h.dd,H,h.Gp (λ_ l E=>⟨O l E,G l E⟩) (λop v a F=>((W op v).1 a F).2),λhd=>by rw[X _ A.d2,o];exact h.AZ hd,by rw[T];exact h.mu.same (.of_heap (X _ A.d4)),U,by rw[X _ A.d4];exact h.uV,⟨c',e,m4⟩,h.ik,h.eV,λi y hy=>?_,λl E a8=>h.Aj l E (by simp_all),λa8=>h.PQ λl E=>by simp_all,λc hc=>?_,
  λi=>by rw[h.hJ i];simp_all,λp hp=>?_,λhc=>(by
   obtain⟨p,k,r,B⟩:=h.mY u (a7.1 hc)
   grind),λm a F hs N i C=>h.kM u (λop v a F _ N=>?_) m a F hs N i (z i C),λm a F hs N=>?_,λi C=>h.qt u i (z i C),h.jU u (λop v=>(W op v).2),λi a9 hn=>h.Ec i a9 (λhb=>hn (D i hb)),h.tk,h.kq,h.fP,h.la,by simp;exact aaH h.n0 (abS _ _)⟩
 . obtain⟨l,f,B,I,h5,h6⟩:=h.tok i y hy
   exact⟨l,f,B,I,by grind,h6⟩
 . obtain⟨B,I⟩:=h.PR c hc
   simp_all
 . obtain⟨k,r,B⟩:=h.vU u p (Q p hp)
   refine⟨k,r,?_⟩;rcases B with⟨B,I⟩|⟨B,I⟩
   . exact .inl ⟨B,R ⟨p,hp⟩ I⟩
   simp_all
 . grind
 rw[b];obtain⟨x,hx,K⟩:=touch_of F;rcases getElem?_append_cases hx with⟨E,ad⟩|⟨_,al⟩
 . exact(h.said m a (by rw[touchAt_of ad];exact K) hs N).app u
 rcases((W x al).1 a K).1 with k|⟨_,k⟩
 . simp_all
 rw[<-k];exact⟨m,x,hx,rfl,.inl rfl⟩
def dq.PT(h:dq P A Z s kk OO J M gsz w t)(v:fQ A s s' i)(f:∀l,l<A.n->(s'.w l).owns=(s.w l).owns)(k:∀l,l<A.n->(s'.w l).iP=(s.w l).iP)(j:wO P A s')(b:s'.c.fe=s.c.fe)(d:s'.c.isNone=s.c.isNone)
 (m:(s.c=.none\/s.c=.eU\/∃q,s.c=.wt q)->(s'.c=.none\/s'.c=.eU\/∃q,s'.c=.wt q)) (e:∀i,eI P A s' i↔eI P A s i) (x:bU A.n s') (o:s'.sh=s.sh) (p:rQ A.gb w' s'.gc s'.gv s'.gm) (r:MW A.gb 0 w w')
 (y:∀op∈u,(∀a,op.act.touch?=some a->(a.kind=.atomic\/(a.kind=.said/\op.g=(if s.c.isNone then 0 else A.cl)))/\zY A a.loc)/\∀a,op.act≠.mark (.release a)):dq P A Z s' kk OO J M gsz w' (t++u):=
 h.VZ v f k j b d (λ_ h=>h) (λ_ _ h=>h) (λ_=>m) e x o p r y
def S5(b:Nat)(es:adA):Prop:=∀e∈es,((e.loc=.mark .disable\/e.loc=.mark .enable)\/∃i,(i=0\/i=0+1)/\e.loc=.cell ⟨b,i,none⟩/\e.sync=true)\/∃i,(i=0\/i=1)/\(e.loc=.mark (.read ⟨b,i,none⟩)\/e.loc=.mark (.write ⟨b,i,none⟩))
def S6{b es}(h:EvM b 0 es):S5 b es:=λe a=>.inl (h e a)
def MT(kk:adS)(OO:adR)(B:Nat)(t:Trace)(i:Nat)(u:Trace):Prop:=∀op∈u,∀a,op.act.touch?=some a->(a.kind=.atomic\/a.kind=.said)/\(a.loc.isMemory=true->L5 kk OO B a.loc)/\∀n b,touchAt t n=some b->b.loc=a.loc->(b.kind=.plain\/(a.kind=.said/\b.kind=.said))->Knows t i n
def cE.MR(h:cE Z kk OO J M w t)(d:∀op∈u,op.g=i)(y:w'.heap.size=w.heap.size)(z:Calm Z w w')(hb:∀b,Kept kk OO w w' b)(A:∀op∈u,op.act.low w.heap.size)(q:MT kk OO w.heap.size t i u)
 (l:∀m op a,u[m]?=some op->op.act.touch?=some a->a.loc.isMemory=true->Told Z J M (t++u) (t.size+m) a):cE Z kk OO J M w' (t++u):=
 h.uK (λa b=>a=b) y z hb A (λa b e n x _ _ _ B=>by subst e;exact B.app u) (λj b n v h=>⟨j,rfl,h⟩) (λj b s h=>⟨j,rfl,h⟩) (λj b x h=>⟨j,rfl,h,λ_ h=>h⟩) h.jR
  (fun said=>noRace_append (h.clean said) d λn a o op c b hb C=>by
    obtain⟨f,k,D⟩:=q op c b hb;obtain⟨E,_,_,F⟩:=C
    grind)
  (λop c a o r=>(q op c a o).2.1 r) l
  (λn a o r h=>h.elim (λ⟨j,f,k⟩=>.inr (.inl ⟨j,f,k.app _⟩)) (λ⟨p,f,k⟩=>.inr (.inr (.inl ⟨p,f,k.app _⟩))))
def lP{b e}(he:((e.loc=.mark .disable\/e.loc=.mark .enable)\/∃i,(i=0\/i=0+1)/\e.loc=.cell ⟨b,i,none⟩/\e.sync=true)\/∃i,(i=0\/i=1)/\(e.loc=.mark (.read ⟨b,i,none⟩)\/e.loc=.mark (.write ⟨b,i,none⟩))):
 (∀a,(MemAct.ofEvent e).touch?=some a->(a.kind=.atomic\/a.kind=.said)/\∃i,(i=0\/i=1)/\a.loc=.cell ⟨b,i,none⟩)/\(∀a,MemAct.ofEvent e≠.mark (.release a))/\∀B,b<B->(MemAct.ofEvent e).low B:=by
 rcases he with he|⟨i,d,he⟩
 . obtain⟨g,h,j⟩:=oa he
   simp_all
 obtain⟨loc,wr,k⟩:=e;rcases he with he|he<;>simp only at he<;>subst he
 all_goals
  refine⟨λa c=>?_,by simp[MemAct.ofEvent],λB f=>by simpa[MemAct.ofEvent,MemAct.low]using f⟩;simp only[MemAct.ofEvent,MemAct.touch?,kn]at c;subst c;exact⟨.inr rfl,i,d,rfl⟩
def Cv  K  (Y:bJ (cj P A Fin Z K) Z s f q kk OO J M gs w t) (Q:bX P A s i) (a7:¬fS P A s i) (hg:gs[i]?=some g){es}(a8:stepG P (i==0) g w=.go g1 w' es)
 (hS:fQ A s s' i) (R:∀l,l<A.n->(s'.w l).owns=(s.w l).owns) (a9:∀l,l<A.n->(s'.w l).iP=(s.w l).iP) (S:wO P A s') (F:s'.c.fe=s.c.fe) (G:s'.c.isNone=s.c.isNone) (ad:(s.c=.none\/s.c=.eU\/∃q,s.c=.wt q)->(s'.c=.none\/s'.c=.eU\/∃q,s'.c=.wt q)) (H:∀i,eI P A s' i↔eI P A s i)
 (hI:bU A.n s') (al:s'.sh=s.sh) (av:rQ A.gb w' s'.gc s'.gv s'.gm) (C:MW A.gb 0 w w') (u:EvM A.gb 0 es\/(S5 A.gb es/\i=(if s.c.isNone then 0 else A.cl))) (hL:MS.gX A.n s' s)
 (hT:(i=0\/J i)\/(EvM A.gb 0 es/\∀  m   op   a ,(MemOp.ofEvents i g.frame.fn g.frame.place es)[m]?=some op->op.act.touch?=some a->Z.Shun a.loc->a.kind=.atomic->Told Z J M (t++MemOp.ofEvents i g.frame.fn g.frame.place es) (t.size+m) a))
 (T:(s.gm=0->s'.gm=0)\/(mayWake P g=true/\(g1.status=.running\/g1.status=.finished))) (hf:∀j,j≠i->f' j=f j) (hq:∀j,j≠i->q' j=q j)
 (hs:Self P (cj P A Fin Z K) s' f' q' kk OO J (t++MemOp.ofEvents i g.frame.fn g.frame.place es) i g1)  sl :Goes P A Fin Z K s gs w t sl i:=by
 have D:dq P A Z s kk OO J M gs.size w t:=Y.ex;have B:=bq (P:=P) (A:=A) (Fin:=Fin) (Z:=Z) K;have U:=runT_crowd_go (P:=P) (sl:=sl) (i:=i) hg a8;have hG:A.gb<w.heap.size:=by obtain⟨c,e,E⟩:=D.Ai;grind
 have o:S5 A.gb es:=u.elim S6 (·.1);have p:∀op∈MemOp.ofEvents i g.frame.fn g.frame.place es,op.g=i:=λop d=>by obtain⟨e,_,rfl⟩:=za d;rfl
 have v:∀op∈MemOp.ofEvents i g.frame.fn g.frame.place es,∀a,op.act.touch?=some a->a.kind=.atomic\/(a.kind=.said/\op.g=(if s.c.isNone then 0 else A.cl)):=λop d a x=>by
  obtain⟨e,r,rfl⟩:=za d
  rcases u with u|⟨_,hi⟩
  . exact .inl ((oa (u e r)).1 a x).1
  rcases((lP (o e r)).1 a x).1 with h|h
  . exact .inl h
  simp_all
 have y1:MT kk OO w.heap.size t i (MemOp.ofEvents i g.frame.fn g.frame.place es):=λop d a x=>by
  have ay:=v op d a x;have aC:=p op d;obtain⟨e,r,rfl⟩:=za d;obtain⟨E,n,L,z⟩:=(lP (o e r)).1 a x;have aE:zY A a.loc:=by rw[z];exact⟨rfl,.inr ⟨rfl,L⟩⟩
  refine⟨E,λ_=>by rw[z];exact D.R4 L,λm b hb X N=>?_⟩
  rcases N with N|⟨aL,ax⟩
  . exact D.quiet m b hb (by simp_all) N i Q
  have h5:=D.said m b hb (by simp_all) ax
  simp_all
 have y2:∀op∈MemOp.ofEvents i g.frame.fn g.frame.place es,op.act.low w.heap.size:=λop d=>by obtain⟨e,r,rfl⟩:=za d;exact(lP (o e r)).2.2 _ hG
 have y3:∀op∈MemOp.ofEvents i g.frame.fn g.frame.place es,(∀a,op.act.touch?=some a->(a.kind=.atomic\/(a.kind=.said/\op.g=(if s.c.isNone then 0 else A.cl)))/\zY A a.loc)/\∀a,op.act≠.mark (.release a):=λop d=>⟨λa x=>⟨v op d a x,by
  obtain⟨e,r,rfl⟩:=za d;obtain⟨_,n,L,z⟩:=(lP (o e r)).1 a x;rw[z];exact⟨rfl,.inr ⟨rfl,L⟩⟩⟩,by
  obtain⟨e,r,rfl⟩:=za d;exact(lP (o e r)).2.1⟩
 have y4:∀op∈MemOp.ofEvents i g.frame.fn g.frame.place es,∀a,op.act.touch?=some a->Z.Shun a.loc:=λop d a x=>by obtain⟨e,r,rfl⟩:=za d;obtain⟨E,n,L,z⟩:=(lP (o e r)).1 a x;rw[z];exact D.tk _ ⟨rfl,.inr ⟨rfl,L⟩⟩ ⟨_,rfl,rfl⟩
 obtain⟨m1,m2,c,e,c',m3,m4,_⟩:=oT C D.Ai
 have hP:=Y.cX.MR (i:=i) p m1 (D.VX C) (D.VY C) y2 y1 (λm op a E z _=>by
  rcases hT with hJ|⟨u,hT⟩
  . have N:Knows (t++MemOp.ofEvents i g.frame.fn g.frame.place es) i (t.size+m):=knows_own E (p op (abF E))
    rcases hJ with rfl|hJ
    . exact .inl N
    exact .inr (.inl ⟨i,hJ,N⟩)
  refine hT m op a E z (y4 op (abF E) a z) ?_;obtain⟨e,r,rfl⟩:=za (abF E);exact((oa (u e r)).1 a z).1)
 have V:dq P A Z s' kk OO J M gs.size w' (t++MemOp.ofEvents i g.frame.fn g.frame.place es):=D.PT hS R a9 S F G ad H hI al av C y3
 have I:Beside (cj P A Fin Z K) s s' f f' q q' kk kk OO OO J J w' i g g1:=mC K hS hf hq (λ_ _ _=>rfl) (λ_ _ _=>rfl) (λ_ _ h=>h) (T.imp (λh=>⟨λh0=>by grind,h⟩) id) (λ{i k O y} hA=>B.ly (s:=s) (i:=i) (k:=k) (O:=O) (g:=y) hA)
 refine⟨_,_,U,s',f',q',kk,OO,J,M,_,_,_,rfl,hL,?_⟩;refine bJ.step B Y hg p hP V (λl y X hA=>?_) I hs
 have W:l≠i:=λe=>a7 (e ▸ X)
 exact B.tv V ((I.held l W).2 X) _ _ (I.UB l _ _ _ W X hA)
def Ir{g}:∀m,m<=u.size->(∀l op,l<m->u[l]?=some op->op.act≠.mark .enable)->Deaf t g<=(t++u).deaf g (t.size+m)
 |0,_,_=>by show Deaf t g<=(t++u).deaf g t.size;rw[deaf_old (aaG _)];exact aaG _
 | m+1,h,a=>by
   have b:m<u.size:=by omega
   have c:(t++u)[t.size+m]?=some u[m]:=by simp_all
   have d:=Ir (g:=g) m (by omega) (λl op e=>a l op (by omega));rw[<-Nat.add_assoc,deaf_succ c];have:=a m u[m] (by omega) (by simp[b]);unfold deafStep
   grind
def Gs{es fn pos}(hd:1<=Deaf t i)(o:∀  m   op   a ,(MemOp.ofEvents i fn pos es)[m]?=some op->op.act.touch?=some a->∀(l:Nat)  b ,l<m->(MemOp.ofEvents i fn pos es)[l]?=some b->b.act≠.mark .enable):∀  m   op   a ,(MemOp.ofEvents i fn pos es)[m]?=some op->op.act.touch?=some a->Z.Shun a.loc->a.kind=.atomic->Told Z J M (t++MemOp.ofEvents i fn pos es) (t.size+m) a:=λm op a d h p n=>by
 refine JC (i:=i) d h p n λq=>?_
 obtain⟨x,f,_,c⟩:=q;rw[act?_of (dH d)]at f;have f:op.act.touch?=some x:=f;rw[h]at f;obtain rfl:=abt f;rcases c with c|⟨j,r,s⟩
 . exact c n
 have v:op.g=i:=by obtain⟨e,_,rfl⟩:=za (abF d);rfl
 have:j=i:=by
  have w:(t++MemOp.ofEvents i fn pos es).g? (t.size+m)=some op.g:=by simp[Trace.g?,dH d]
  simp_all
 subst this;have z:=(wS.1 d).1;have:=Ir (t:=t) (u:=MemOp.ofEvents j fn pos es) (g:=j) m (by omega) (λl b y k=>o m op _ d h l b y k);omega
end
end
section
open Go.Conc
open Go.ConcN (sumTo upd sumTo_upd upd_ne upd_same)
variable{P:adT}
def MS.iR(s:MS P)(j:Nat)(x:bu P)(gc gv gm:Nat):MS P:={s with w:=λi=>if i=j then x else s.w i,gc:=gc,gv:=gv,gm:=gm}
section
variable{s:MS P}{j n:Nat}{x:bu P}{gc gv gm:Nat}
def bR:(s.iR j x gc gv gm).w j=x:=by simp[MS.iR]
def dI{i}(h:i≠j):(s.iR j x gc gv gm).w i=s.w i:=by simp[MS.iR,h]
def QI:(λi=>((s.iR j x gc gv gm).w i).pc)=Mu.set (λi=>(s.w i).pc) j x.pc:=by
 funext i;by_cases h:i=j
 . subst h;rw[bR,Mu.ai]
 rw[dI h,Mu.ah _ _ h]
def En(F:bu P->Nat)(hj:j<n):sumTo n (λi=>F ((s.iR j x gc gv gm).w i))+F (s.w j)=sumTo n (λi=>F (s.w i))+F x:=by
 have e:(λi=>F ((s.iR j x gc gv gm).w i))=upd (λi=>F (s.w i)) j (F x):=by
  funext i;by_cases h:i=j
  . subst h;rw[bR,upd_same]
  rw[dI h,upd_ne _ _ h]
 rw[e];have:=sumTo_upd (λi=>F (s.w i)) (F x) id hj
 simp_all
def bU.V0(I:bU n s)(hj:j<n){p}(d:s.w j=.dn p)(b:x.ok=true)(f:x.jT=false)(g:x≠.wait)(k:x.pc=.out)
 (D:gc+(s.w j).cnt=s.gc+x.cnt) (r:gv<=1) (m:gv=1->s.c.waits=true/\gm=0)
 (t:∀i,i<n->((s.iR j x gc gv gm).w i=.dn .d5\/(s.iR j x gc gv gm).w i=.dn .d6)->gv=1/\gc=0)
 (o:∀i l,i<n->l<n->((s.iR j x gc gv gm).w i).last=true->((s.iR j x gc gv gm).w l).last=true->i=l)
 (u:∀i,i<n->(s.iR j x gc gv gm).w i=.dn .d7->gv=0/\gc=0/\gm=0/\s.c.waits=true)
 (v:gm<=1/\(gm=1->s.c.waits=true/\gv=0/\gc=0/\∀i,i<n->((s.iR j x gc gv gm).w i).last=false))
 (y:s.c.waits=true->gv=0->gm=0->∃i,i<n/\(s.iR j x gc gv gm).w i=.dn .d7)
 (z:gv=1->gc=0->∃i,i<n/\((s.iR j x gc gv gm).w i=.dn .d5\/(s.iR j x gc gv gm).w i=.dn .d6)):bU n (s.iR j x gc gv gm):=by
 refine⟨?_,r,m,t,o,u,v,y,z,λh=>?_,I.g9,λi a=>?_,I.Uz,I.sp,λi a=>?_,?_,λhd h i a=>?_,?_⟩
 . have q:=En (s:=s) (x:=x) (gc:=gc) (gv:=gv) (gm:=gm) bu.cnt hj
   have:=I.g1;show gc=sumTo n (λi=>((s.iR j x gc gv gm).w i).cnt)+s.ms.pend;omega
 . have:=(I.g8 h).2.2.2 j hj
   simp_all
 . by_cases e:i=j
   . subst e;rw[bR];exact b
   rw[dI e];exact I.ok i a
 . by_cases e:i=j
   . subst e
     rw[bR,f];have:=I.idle i a;rw[d]at this;exact this
   rw[dI e];exact I.idle i a
 . have:=I.ms
   show match s.ms with
   |.add l=>s.sp+l=n/\s.c=.none
   |.bG l p=>s.sp+l=n/\s.c=.none/\1<=l/\(p=.a0\/p=.a2\/p=.a4\/p=.ae)
   |.spawn l=>s.sp+l+1=n/\s.c=.none
   |.recv=>s.sp=n/\s.c≠.none
   |.parked=>s.sp=n/\s.c≠.none/\s.c≠.gone/\∀i,i<n->(s.iR j x gc gv gm).w i≠.wait
   |.off=>s.sp=n/\s.c≠.none
   cases e:s.ms with
   | parked=>
     rw[e]at this;obtain⟨A,B,C,E⟩:=this;refine⟨A,B,C,λi a=>?_⟩;by_cases e:i=j
     . subst e;rw[bR];exact g
     rw[dI e];grind
   |_=>rw[e]at this;exact this
 . have:=I.early hd h j hj
   rw[d]at this;cases this
 rw[QI,k];have e:=jV (λi=>(s.w i).pc) j;rw[show(s.w j).pc=.out by rw[d];rfl]at e;rw[e];exact I.mu
inductive Cw(s:MS P):Ij->bu P->Nat->Nat->adG
 |Yh:s.gc=1->s.gv=1->Cw s .d4 (.dn .d5) 0 1 s.gm
 |d4 (k:Nat):s.gc=k+1 -> ¬(k=0/\s.gv=1)->Cw s .d4 .gone k s.gv s.gm
 |d5:Cw s .d5 (.dn .d6) s.gc s.gv s.gm
 |d6:Cw s .d6 (.dn .d7) s.gc 0 s.gm
 |d7:Cw s .d7 .gone s.gc s.gv (s.gm+1)
def bU.done(I:bU n s)(hj:j<n){p}(b:s.w j=.dn p)(h:Cw s p x gc gv gm):bU n (s.iR j x gc gv gm):=by
 have MU:∀{i:Nat},(s.w i).last=true->s.w i=.dn .d5\/s.w i=.dn .d6\/s.w i=.dn .d7:=λ{i} h=>by
  cases e:s.w i with
  |dn p=>cases p<;>simp_all [bu.last]
  |_=>rw[e]at h;simp[bu.last]at h
 have t:∀{i:Nat},i<n->(s.w i).last=true->s.gc=0:=λ{i} a h=>by
  rcases MU h with h|h|h
  . exact(I.g3 i a (.inl h)).2
  . exact(I.g3 i a (.inr h)).2
  exact(I.g4 i a h).2.1
 cases h with
 | Yh u v=>
   refine I.V0 hj b rfl rfl (by simp) rfl (by rw[b,u];rfl) (by omega) (λ_=>I.Gl v) (λi a h=>⟨rfl,rfl⟩) (λi l a g h d=>?_) (λi a h=>?_) ⟨I.g5.1,λh=>?_⟩ (λ_ h=>by omega) (λ_ _=>⟨j,hj,.inl bR⟩)
   . by_cases e:i=j
     . by_cases q:l=j
       . rw[e,q]
       rw[dI q]at d;simp_all
     rw[dI e]at h;simp_all
   . by_cases e:i=j
     . subst e;rw[bR]at h;cases h
     rw[dI e]at h;have:=(I.g4 i a h).2.1;omega
   have:=(I.g5.2 h).2.1;omega
 | d4 k u v=>
   refine I.V0 hj b rfl rfl (by simp) rfl (by rw[b,u];rfl) I.g2 I.Gl (λi a h=>?_) (λi l a g h d=>?_) (λi a h=>?_) ⟨I.g5.1,λh=>?_⟩ (λh d y=>?_) (λh d=>absurd ⟨d,h⟩ v)
   . by_cases e:i=j
     . subst e;rw[bR]at h;simp_all
     rw[dI e]at h;have:=(I.g3 i a h).2;omega
   . by_cases e:i=j
     . subst e;rw[bR]at h;cases h
     rw[dI e]at h;simp_all
   . by_cases e:i=j
     . subst e;rw[bR]at h;cases h
     rw[dI e]at h;have:=(I.g4 i a h).2.1;omega
   . have:=(I.g5.2 h).2.2.1;omega
   obtain⟨i,a,A⟩:=I.g6 h d y;have:=(I.g4 i a A).2.1;omega
 | d5=>
   obtain⟨r,o⟩:=I.g3 j hj (.inl b);obtain⟨m,m0⟩:=I.Gl r
   have c:∀{i:Nat},((s.iR j (.dn .d6) s.gc s.gv s.gm).w i).last=(s.w i).last:=λ{i}=>by
    by_cases e:i=j
    . subst e;rw[bR,b];rfl
    rw[dI e]
   refine I.V0 hj b rfl rfl (by simp) rfl (by rw[b];rfl) I.g2 I.Gl (λi a h=>⟨r,o⟩) (λi l a g h d=>?_) (λi a h=>?_) ⟨I.g5.1,λh=>?_⟩ (λh d=>by omega) (λ_ _=>⟨j,hj,.inr bR⟩)
   . rw[c]at h d;exact I.Im i l a g h d
   . by_cases e:i=j
     . subst e;rw[bR]at h;cases h
     rw[dI e]at h;exact I.g4 i a h
   omega
 | d6=>
   obtain⟨r,o⟩:=I.g3 j hj (.inr b);obtain⟨m,m0⟩:=I.Gl r;have g:(s.w j).last=true:=by rw[b];rfl
   have c:∀{i:Nat},((s.iR j (.dn .d7) s.gc 0 s.gm).w i).last=(s.w i).last:=λ{i}=>by
    by_cases e:i=j
    . subst e;rw[bR,b];rfl
    rw[dI e]
   refine I.V0 hj b rfl rfl (by simp) rfl (by rw[b];rfl) (by omega) (λh=>by omega) (λi a h=>?_) (λi l a g h d=>?_) (λi a h=>⟨rfl,o,m0,m⟩) ⟨I.g5.1,λh=>by omega⟩ (λ_ _ _=>⟨j,hj,bR⟩) (λh=>by omega)
   . by_cases e:i=j
     . subst e;rw[bR]at h;simp_all
     rw[dI e]at h;have z:(s.w i).last=true:=by rcases h with h|h<;>rw[h]<;>rfl
     exact absurd (I.Im i j a hj z g) e
   rw[c]at h d;exact I.Im i l a g h d
 | d7=>
   obtain⟨B,o,m0,m⟩:=I.g4 j hj b;have g:(s.w j).last=true:=by rw[b];rfl
   have f:∀{i:Nat},i<n->((s.iR j .gone s.gc s.gv (s.gm+1)).w i).last=false:=λ{i} a=>by
    by_cases e:i=j
    . subst e;rw[bR];rfl
    rw[dI e];cases q:(s.w i).last with
    |false=>rfl
    |true=>exact absurd (I.Im i j a hj q g) e
   refine I.V0 hj b rfl rfl (by simp) rfl (by rw[b];rfl) I.g2 (λh=>by omega) (λi a h=>?_) (λi l a g h d=>?_) (λi a h=>?_) ⟨by omega,λh=>⟨m,B,o,λi a=>f a⟩⟩ (λ_ _ h=>by omega) (λh=>by omega)
   . have:=f a
     rcases h with h|h<;>rw[h]at this<;>cases this
   . simp_all
   grind
def ko.S7(c:ko)  a b :c.cB a<=c.cB b+2:=by
 cases c with
 | wt p=>
   cases p with
   |w2 k=>simp only[ko.cB];grind
   |_=>simp[ko.cB]
 |_=>simp[ko.cB]
def JD(hj:j<n){p}(d:s.w j=.dn p)(h:Cw s p x gc gv gm):MS.gX n (s.iR j x gc gv gm) s:=by
 have e:=En (s:=s) (x:=x) (gc:=gc) (gv:=gv) (gm:=gm) bu.cB hj;refine .inl ?_;show s.ms.cB+sumTo n (λi=>((s.iR j x gc gv gm).w i).cB)+s.c.cB gc<s.ms.cB+sumTo n (λi=>(s.w i).cB)+s.c.cB s.gc;rw[d]at e;have:=ko.S7 s.c gc s.gc;cases h with
 |Yh f g=>have a:(bu.dn (P:=P) .d4).cB=10:=rfl;have b:(bu.dn (P:=P) .d5).cB=4:=rfl;omega
 |d4 k f g=>have a:(bu.dn (P:=P) .d4).cB=10:=rfl;have b:(bu.gone (P:=P)).cB=0:=rfl;omega
 |d5=>have a:(bu.dn (P:=P) .d5).cB=4:=rfl;have b:(bu.dn (P:=P) .d6).cB=3:=rfl;omega
 |d6=>have a:(bu.dn (P:=P) .d6).cB=3:=rfl;have b:(bu.dn (P:=P) .d7).cB=2:=rfl;omega
 |d7=>have a:(bu.dn (P:=P) .d7).cB=2:=rfl;have b:(bu.gone (P:=P)).cB=0:=rfl;omega
end
end
section
open Go.Conc
open Go.ConcN (sumTo upd sumTo_upd upd_ne upd_same)
def yw{e}(h:MemAct.ofEvent e=.mark .enable):e.loc=.mark .enable:=by
 obtain⟨loc,wr,a⟩:=e;cases loc with
 |mark m=>cases m<;>simp_all [MemAct.ofEvent]
 |cell b=>simp[MemAct.ofEvent]at h
 |obj r=>cases wr<;>cases a<;>simp[MemAct.ofEvent]at h
 |_=>simp[MemAct.ofEvent]at h
def m8{i fn pos es}(h:∀e∈es,e.loc≠.mark .enable):∀  m   op   a ,(MemOp.ofEvents i fn pos es)[m]?=some op->op.act.touch?=some a->∀(l:Nat)  b ,l<m->(MemOp.ofEvents i fn pos es)[l]?=some b->b.act≠.mark .enable:=λm op a _ _ l b _ c d=>by obtain⟨e,f,rfl⟩:=za (abF c);exact h e f (yw d)
def JE{i fn pos ad}:∀  m   op   a ,(MemOp.ofEvents i fn pos (semEvents ad))[m]?=some op->op.act.touch?=some a->∀(l:Nat)  c ,l<m->(MemOp.ofEvents i fn pos (semEvents ad))[l]?=some c->c.act≠.mark .enable:=λm op a d f l c e b=>by
 rw[ofEvents_eq]at d b;simp only[semEvents]at d b
 match m,l,e with
 |0,l,e=>omega
 |1,0,_=>simp at b;subst b;simp[MemAct.ofEvent]
 |2,0,_=>simp at b;subst b;simp[MemAct.ofEvent]
 |2,1,_=>simp at b;subst b;simp[MemAct.ofEvent]
 |3,l,_=>simp at d;subst d;simp[MemAct.ofEvent,MemAct.touch?]at f
 |m+4,l,_=>simp at d
def oW:∀  n  {F},(∀l,l<n->F l<=1)->sumTo n F<=n
 |0,_,_=>aaG _
 | n+1,F,h=>by
   have a:=oW n (F:=F) (λl b=>h l (by omega));have c:=h n (by omega);simp only[sumTo];omega
section
variable{P:adT}{A:bQ}{Fin:adl}{Z:Base}{s:MS P}{f:Nat->Node P}{q:adM}{kk:adS}{OO:adR}{J M:adG}{gs:adp}{w w':World}{t u:Trace}{j:Nat}{x:bu P}{gc gv gm:Nat}{g g1:adJ}
def Gt{p}(h:Cw s p x gc gv gm):x.iY=true/\x.owns=false/\x.busy=false/\(bu.dn (P:=P) p).busy=false/\(bu.dn (P:=P) p).deaf=1/\(x=.gone\/∃a,x=.dn a/\x.deaf=1)/\x.iP=true:=by cases h<;>simp[bu.iY,bu.owns,bu.busy,bu.deaf,bu.iP]
def tJ  r  (E:bJ (cj P A Fin Z r) Z s f q kk OO J M gs w t) (hj:j<A.n){p}(d:s.w j=.dn p) (W:gs[A.b+j]?=some g){es}(X:stepG P false g w=.go g1 w' es) (F:Cw s p x gc gv gm)
 (G:rQ A.gb w' gc gv gm) (H:MW A.gb 0 w w') (u:EvM A.gb 0 es) (K:deafBehind 1 es=1)
 (Y:∀  m   op   a ,(MemOp.ofEvents (A.b+j) g.frame.fn g.frame.place es)[m]?=some op->op.act.touch?=some a->∀(l:Nat)  v ,l<m->(MemOp.ofEvents (A.b+j) g.frame.fn g.frame.place es)[l]?=some v->v.act≠.mark .enable)
 (y:(s.gm=0->gm=0)\/(mayWake P g=true/\(g1.status=.running\/g1.status=.finished)))
 (hs:(∃C,x=.dn C/\∃n D,jI P (lG A) n g1 D/\Io P A j (.dn C) (kk (A.b+j)) (OO (A.b+j)) D)\/(x=.gone/\∃m,QuitsD P m 1 g1))  sl :Goes P A Fin Z r s gs w t sl (A.b+j):=by
 have L:dq P A Z s kk OO J M gs.size w t:=E.ex;have hb:=A.hb;have a7:(A.b+j==0)=false:=by simp;omega
 obtain⟨f1,f2,f3,f4,f5,f6,f7⟩:=Gt F;have N:=m7 (P:=P) (A:=A) (s:=s) hj d
 have O:Deaf t (A.b+j)=1:=by obtain⟨_,_,Q,_⟩:=E.walk _ N;rw[Q];show dW P A s (A.b+j)=1;rw[fC hj,d];exact f5
 have c:(s.iR j x gc gv gm).w j=x:=bR
 have k:∀l,((s.iR j x gc gv gm).w l).busy=(s.w l).busy:=λl=>by
  by_cases e:l=j
  . simp_all
  rw[dI e]
 have hS:fQ A s (s.iR j x gc gv gm) (A.b+j):=⟨λl _ S=>dI (by omega),λ_=>rfl,λ_=>rfl,rfl,rfl,.inl λl _=>by
  by_cases e:l=j
  . subst e;rw[bR,d,f1];rfl
  rw[dI e]⟩
 have hI:=L.I.done hj d F;have hL:=JD hj d F;have z:∀fn pos,Deaf (t++MemOp.ofEvents (A.b+j) fn pos es) (A.b+j)=1:=λfn pos=>by rw[Deaf_own,O];exact K
 have go:∀(R:Nat),Self P (cj P A Fin Z r) (s.iR j x gc gv gm) f (upd q (A.b+j) R) kk OO J (t++MemOp.ofEvents (A.b+j) g.frame.fn g.frame.place es) (A.b+j) g1->Goes P A Fin Z r s gs w t sl (A.b+j):=λR o=>
  Cv r E (iZ L.I hj (by rw[d];rfl)) (qw hj d) W (by grind) hS (λl _=>by
   by_cases e:l=j
   . subst e;rw[bR,d,f2];rfl
   . rw[dI e]) (λl _=>by
   by_cases e:l=j
   . subst e;rw[bR,d,f7];rfl
   rw[dI e]) L.off rfl rfl id (λi=>by unfold eI;simp only[k];rfl) hI rfl G H (.inl u) hL (.inr ⟨u,Gs (by omega) Y⟩) y (λ_ _=>rfl) (λi hi=>upd_ne q R hi) o sl
 rcases hs with⟨C,rfl,n,D,B,a8⟩|⟨rfl,m,hq⟩
 . refine go n ⟨λS=>absurd S (kP hj c),λ_=>⟨kP hj c,?_,?_,D,?_,?_⟩,λhh=>absurd hh (qw hj c),λ_ hn _=>absurd (m7 hj c) hn⟩
   . show A.b+j<A.b+A.n+1;omega
   . rw[z]
     show 1=dW P A (s.iR j (.dn C) gc gv gm) (A.b+j);rw[fC hj,c]
     simp_all
   . exact .inr (.inl ⟨j,hj,rfl,by simp_all⟩)
   exact .inr (by rw[upd_same];exact B)
 have nl:¬dL P A (s.iR j .gone gc gv gm) (A.b+j):=by
  rintro(⟨e,_⟩|⟨l,T,U,V⟩|⟨e,_⟩)
  . omega
  . simp_all
  omega
 have nw:¬ij P A (s.iR j .gone gc gv gm) (A.b+j):=by
  rintro(⟨e,_⟩|⟨l,T,U,V⟩|⟨e,_⟩)
  . omega
  . simp_all
  omega
 have nh:¬fS P A (s.iR j .gone gc gv gm) (A.b+j):=by
  rintro(⟨e,_⟩|⟨l,T,U,V⟩)
  . omega
  simp_all
 exact go m ⟨λh=>absurd h nl,λh=>absurd h nw,λh=>absurd h nh,λ_ _ _=>⟨by omega,by rw[upd_same,z];exact hq⟩⟩
variable(C:iu P A.ng)(X:iW P A.ng)
def QJ{n b τ cs g}(C:iu P n)(X:iW P n)(h:rR P n b τ .d7 cs g):mayWake P g=true:=by
 obtain⟨c,y,fr,f,⟨rfl,l⟩,m,i,j,rfl⟩:=h;have d:=Gi (y:=y) (a:=true) (by simp_all);obtain⟨e,k⟩:=C.d9 b (Fl.of y);rw[d]at e k;exact Ct i e X.oO
include C X in
def QK  y  (B:bJ (cj P A Fin Z y) Z s f q kk OO J M gs w t) (hj:j<A.n){p}(r:s.w j=.dn p) (E:gs[A.b+j]?=some g) (L:Io P A j (.dn p) (kk (A.b+j)) (OO (A.b+j)) g)  sl :Goes P A Fin Z y s gs w t sl (A.b+j):=by
 have z:dq P A Z s kk OO J M gs.size w t:=B.ex;have N:=z.I.ok j hj;rw[r]at N;have D:=L;obtain⟨fw,fn,η,todo,F,u,O⟩:=L;have v:=z.gr;have hn:=A.hn;have nx:∀{p' g1},iX P A.ng A.gb .deferred (lG A) p' [lg P fw η todo,cO P] g1->∃n g2,jI P (lG A) n g1 g2/\Io P A j (.dn p') (kk (A.b+j)) (OO (A.b+j)) g2:=λ⟨_,g2,⟨n,hs⟩,hA⟩=>⟨n,g2,hs,fw,fn,η,todo,F,u,hA⟩
 have cell:∀(i:Nat),(i=0\/i=1)->∀wr,EvM A.gb 0 #[⟨.cell ⟨A.gb,i,none⟩,wr,true⟩]:=λi hi wr e d=>by simp at d;subst d;exact .inr ⟨i,by simpa using hi,rfl,rfl⟩
 have x:EvM A.gb 0 #[⟨.cell ⟨A.gb,0,none⟩,false,true⟩,⟨.cell ⟨A.gb,0,none⟩,true,true⟩]:=λe d=>by simp at d;rcases d with rfl|rfl<;>exact .inr ⟨0,.inl rfl,rfl,rfl⟩
 have Q:EvM A.gb 0 (semEvents ⟨A.gb,1,none⟩):=λe d=>by
  simp[semEvents]at d
  rcases d with rfl|rfl|rfl|rfl
  . exact .inl (.inl rfl)
  . exact .inr ⟨1,.inr rfl,rfl,rfl⟩
  . exact .inr ⟨1,.inr rfl,rfl,rfl⟩
  exact .inl (.inr rfl)
 have R:∀l,l<A.n->(s.w l).cnt<=1:=λl _=>by
  cases e:s.w l with
  |dn p=>cases p<;>simp[bu.cnt]
  |_=>simp[bu.cnt]
 cases p<;>simp only[bu.ok,zs]at N
 case d1=>exact QH C X y B hj r E D sl
 case d2=>exact QG C X y B hj r E D sl
 case d4=>
  have a7:1<=s.gc:=by
   have h1:=z.I.g1;have:(s.w j).cnt<=sumTo A.n (λj=>(s.w j).cnt):=Go.ConcN.le_sumTo (f:=λj=>(s.w j).cnt) hj
   rw[r]at this;have e:(bu.dn (P:=P) .d4).cnt=1:=rfl;omega
  have a8:s.gc<=A.n+1:=by
   have h1:=z.I.g1;have h2:sumTo A.n (λj=>(s.w j).cnt)<=A.n:=oW A.n R
   have h3:s.ms.pend<=1:=by cases s.ms<;>simp[pV.pend];split<;>omega
   omega
  obtain⟨k,U⟩:∃k,s.gc=k+1:=⟨s.gc-1,by omega⟩
  have a:=v;rw[U]at a;obtain⟨g1,w',o,rfl,c,G⟩:=X4 (Wd:=lG A) (main:=false) C X F u a (by omega) z.I.g2 O
  have H:MW A.gb 0 w (w.setCell ⟨A.gb,0,none⟩ (.int .u64 (eZ k s.gv))):=⟨⟨.refl _,rfl⟩,.inr ⟨0,_,.inl rfl,rfl,rfl⟩⟩
  rcases G with⟨V,hv,S⟩|⟨W,Y⟩
  . subst V
    rw[hv]at c o H;exact tJ y B hj r E o (.Yh U hv) c H x rfl (m8 (λe d=>by simp at d;rcases d with rfl|rfl<;>simp)) (.inl id) (.inl ⟨_,rfl,nx S⟩) sl
  exact tJ y B hj r E o (.d4 k U W) c H x rfl (m8 (λe d=>by simp at d;rcases d with rfl|rfl<;>simp)) (.inl id) (.inr ⟨rfl,Y⟩) sl
 case d5=>obtain⟨v1,K⟩:=z.I.g3 j hj (.inl r);have a:=v;rw[v1,K]at a;obtain⟨g1,o,S⟩:=X5 (Wd:=lG A) (main:=false) C X a O;exact tJ y B hj r E o .d5 v (br rfl) (cell 0 (.inl rfl) false) rfl (m8 (λe d=>by simp at d;subst d;simp)) (.inl id) (.inl ⟨_,rfl,nx S⟩) sl
 case d6=>obtain⟨v1,K⟩:=z.I.g3 j hj (.inr r);have a:=v;rw[v1,K]at a;obtain⟨g1,w',o,rfl,c,S⟩:=X6 (Wd:=lG A) (main:=false) C X a O;exact tJ y B hj r E o .d6 (by rw[K];exact c) (⟨⟨.refl _,rfl⟩,.inr ⟨0,_,.inl rfl,rfl,rfl⟩⟩) (cell 0 (.inl rfl) true) rfl (m8 (λe d=>by simp at d;subst d;simp)) (.inl id) (.inl ⟨_,rfl,nx S⟩) sl
 case d7=>
  obtain⟨v0,K,m0,a9⟩:=z.I.g4 j hj r;have a:=v;rw[v0,K]at a;have ad:=z.I.g5.1;obtain⟨g1,w',o,rfl,c,Y⟩:=X7 (Wd:=lG A) (main:=false) C X F u a (by omega) O
  obtain⟨m,hq⟩:=Y;have T:g1.status=.running\/g1.status=.finished:=by rcases hq.status with h|h<;>simp[h]
  exact tJ y B hj r E o .d7 (by rw[K,v0];exact c) (⟨⟨.refl _,rfl⟩,.inr ⟨1,_,.inr rfl,rfl,rfl⟩⟩) Q rfl JE (.inr ⟨QJ C X O,T⟩) (.inr ⟨rfl,m,hq⟩) sl
end
end
section
open Go.Conc
open Go.ConcN (sumTo upd sumTo_upd upd_ne upd_same)
variable{P:adT}
def MS.mD(s:MS P)(c:ko)(gv gm:Nat):MS P:={s with c:=c,gv:=gv,gm:=gm}
section
variable{s:MS P}{n:Nat}{c:ko}{gv gm:Nat}
def MU{x:bu P}(h:x.last=true):x=.dn .d5\/x=.dn .d6\/x=.dn .d7:=by
 cases x with
 |dn p=>cases p<;>simp_all [bu.last]
 |_=>simp[bu.last]at h
def bU.calm(I:bU n s)(h:s.c.waits=false):s.gv=0/\s.gm=0/\∀j,j<n->(s.w j).last=false:=by
 have b:s.gv=0:=by
  have:=I.g2;by_cases e:s.gv=1
  . have:=(I.Gl e).1;simp_all
  omega
 refine⟨b,?_,λj a=>?_⟩
 . have:=I.g5.1
   by_cases e:s.gm=1
   . have:=(I.g5.2 e).1;simp_all
   omega
 cases e:(s.w j).last with
 |false=>rfl
 | true=>
   rcases MU e with e|e|e
   . have:=(I.g3 j a (.inl e)).1;omega
   . have:=(I.g3 j a (.inr e)).1;omega
   have:=(I.g4 j a e).2.2.2;simp_all
def bU.V1(I:bU n s)(h:s.c≠.none):s.sp=n:=by
 have:=I.ms
 grind
def bU.Eo(I:bU n s)(h:s.c≠.none)(l:s.gc=0)(g:∀j,j<n->(s.w j).last=false):∀j,j<n->s.w j=.gone:=λj a=>by
 have m:=I.g1;have o:(s.w j).cnt<=sumTo n (λj=>(s.w j).cnt):=Go.ConcN.le_sumTo (f:=λj=>(s.w j).cnt) a;have b:=I.idle j a;rw[I.V1 h]at b;have i:=g j a;have k:=I.ok j a;have d:(s.w j).cnt=0:=by omega
 cases e:s.w j with
 |idle=>rw[e]at b;have:=b.1 rfl;omega
 |dn p=>rw[e]at i k d;cases p<;>simp_all [bu.last,bu.ok,bu.cnt]
 |gone=>rfl
 |_=>rw[e]at d;simp[bu.cnt]at d
inductive sD(s:MS P):ko->ko->Nat->adG
 |call:sD s .eU (.wt .w0) s.gv s.gm
 |w0:sD s (.wt .w0) (.wt .w1) s.gv s.gm
 |Zp:s.gc=0->sD s (.wt .w1) (.wt .we) s.gv s.gm
 |w1:s.gc≠0->sD s (.wt .w1) (.wt (.w2 s.gc)) s.gv s.gm
 |Zq:sD s (.wt (.w2 s.gc)) (.wt .w3) 1 s.gm
 |Yi (k:Nat):s.gc≠k->sD s (.wt (.w2 k)) (.wt .w1) s.gv s.gm
 |w3:sD s (.wt .w3) (.wt .w4) s.gv s.gm
 |w4:s.gm≠0->sD s (.wt .w4) (.wt .w5) s.gv (s.gm-1)
 |w5:sD s (.wt .w5) (.wt .we) s.gv s.gm
 |we:sD s (.wt .we) (.wt .wa) s.gv s.gm
 |wa:sD s (.wt .wa) .jS s.gv s.gm
def bU.QL(I:bU n s)(v:s.c≠.none)(a:c≠.none)(e:c≠.gone)(b:c.ok=true)(f:gv<=1)(d:gv=1->c.waits=true/\gm=0)
 (g:∀j,j<n->(s.w j=.dn .d5\/s.w j=.dn .d6)->gv=1/\s.gc=0) (m:∀j,j<n->s.w j=.dn .d7->gv=0/\s.gc=0/\gm=0/\c.waits=true)
 (o:gm<=1/\(gm=1->c.waits=true/\gv=0/\s.gc=0/\∀j,j<n->(s.w j).last=false)) (q:c.waits=true->gv=0->gm=0->∃j,j<n/\s.w j=.dn .d7)
 (r:gv=1->s.gc=0->∃j,j<n/\(s.w j=.dn .d5\/s.w j=.dn .d6)) (t:c.MK=true->s.gc=0/\gv=0/\gm=0/\∀j,j<n->s.w j=.gone) (u:∀k,c=.wt (.w2 k)->k≠0):bU n (s.mD c gv gm):=by
 refine⟨I.g1,f,d,g,I.Im,m,o,q,r,t,u,I.ok,b,I.sp,I.idle,?_,λ_ h=>absurd h a,I.mu⟩;have:=I.ms
 show match s.ms with
  |.add l=>s.sp+l=n/\c=.none
  |.bG l p=>s.sp+l=n/\c=.none/\1<=l/\(p=.a0\/p=.a2\/p=.a4\/p=.ae)
  |.spawn l=>s.sp+l+1=n/\c=.none
  |.recv=>s.sp=n/\c≠.none
  |.parked=>s.sp=n/\c≠.none/\c≠.gone/\∀i,i<n->s.w i≠.wait
  |.off=>s.sp=n/\c≠.none
 grind
def bU.Zr(I:bU n s){d}(l:s.c=d)(h:sD s d c gv gm):bU n (s.mD c gv gm):=by
 have calm:d.waits=false->c.waits=false->d≠.none->c≠.none->c≠.gone->c.ok=true->gv=s.gv->gm=s.gm->(c.MK=true->s.gc=0)->(∀k,c=.wt (.w2 k)->k≠0)->bU n (s.mD c gv gm):=by
  intro z A B q r t u v p m;subst u v;obtain⟨g,m0,b⟩:=I.calm (by simp_all)
  have e:s.c≠.none:=by simp_all
  refine I.QL e q r t I.g2 (λh=>by omega) I.g3 (λj a h=>?_) ⟨by omega,λh=>by omega⟩ (λh=>by simp_all) I.g7 (λh=>⟨p h,g,m0,I.Eo e (p h) b⟩) m
  have:=b j a;rw[h]at this;cases this
 have g8:d.MK=true->s.gc=0:=λh=>(I.g8 (by simp_all)).1
 cases h with
 |call=>exact calm rfl rfl (by simp) (by simp) (by simp) rfl rfl rfl (λh=>by cases h) (λk h=>by cases h)
 |w0=>exact calm rfl rfl (by simp) (by simp) (by simp) rfl rfl rfl (λh=>by cases h) (λk h=>by cases h)
 |Zp i=>exact calm rfl rfl (by simp) (by simp) (by simp) rfl rfl rfl (λ_=>i) (λk h=>by cases h)
 |w1 i=>exact calm rfl rfl (by simp) (by simp) (by simp) rfl rfl rfl (λh=>by cases h) (λk h=>by simp_all)
 |Yi k i=>exact calm rfl rfl (by simp) (by simp) (by simp) rfl rfl rfl (λh=>by cases h) (λk h=>by cases h)
 |w5=>exact calm rfl rfl (by simp) (by simp) (by simp) rfl rfl rfl (λ_=>g8 rfl) (λk h=>by cases h)
 |we=>exact calm rfl rfl (by simp) (by simp) (by simp) rfl rfl rfl (λ_=>g8 rfl) (λk h=>by cases h)
 |wa=>exact calm rfl rfl (by simp) (by simp) (by simp) rfl rfl rfl (λ_=>g8 rfl) (λk h=>by cases h)
 | Zq=>
   obtain⟨g,m0,b⟩:=I.calm (by rw[l];rfl)
   have w:=I.g9 s.gc l;refine I.QL (by grind) (by simp) (by simp) rfl (by omega) (λ_=>⟨rfl,m0⟩) (λj a h=>?_) (λj a h=>?_) ⟨by omega,λh=>by omega⟩ (λ_ h=>by omega) (λ_ h=>absurd h w) (λh=>by cases h) (λk h=>by cases h)
   . have:=(I.g3 j a h).1;omega
   have:=b j a;rw[h]at this;cases this
 | w3=>
   have x:s.c.waits=true:=by rw[l];rfl
   refine I.QL (by grind) (by simp) (by simp) rfl I.g2 (λh=>⟨rfl,(I.Gl h).2⟩) I.g3 (λj a h=>?_) ⟨I.g5.1,λh=>⟨rfl,(I.g5.2 h).2⟩⟩ (λ_=>I.g6 x) I.g7 (λh=>by cases h) (λk h=>by cases h)
   have:=I.g4 j a h;exact⟨this.1,this.2.1,this.2.2.1,rfl⟩
 | w4 i=>
   have o:s.gm=1:=by have:=I.g5.1;omega
   obtain⟨y,g,f,b⟩:=I.g5.2 o;have e:s.c≠.none:=by grind
   refine I.QL e (by simp) (by simp) rfl I.g2 (λh=>by omega) I.g3 (λj a h=>?_) ⟨by omega,λh=>by omega⟩ (λh=>by cases h) I.g7 (λ_=>⟨f,g,by omega,I.Eo e f b⟩) (λk h=>by cases h)
   have:=b j a;rw[h]at this;cases this
def Ep{a}(b:s.c=a)(h:sD s a c gv gm):MS.gX n (s.mD c gv gm) s:=by
 refine .inl ?_;show s.ms.cB+sumTo n (λi=>(s.w i).cB)+c.cB s.gc<s.ms.cB+sumTo n (λi=>(s.w i).cB)+s.c.cB s.gc;rw[b]
 have:c.cB s.gc<a.cB s.gc:=by
  cases h with
  |Yi k d=>simp only[ko.cB];simp_all
  |_=>simp[ko.cB]
 omega
end
end
open Go.Conc
open Go.ConcN (sumTo upd sumTo_upd upd_ne upd_same)
section
variable{P:adT}{A:bQ}{Fin:adl}{Z:Base}{s:MS P}{f:Nat->Node P}{q:adM}{kk:adS}{OO:adR}{J M:adG}{gs:adp}{w w':World}{t u:Trace}{c:ko}{p:Ij}{gv gm:Nat}{g g1:adJ}
def uY(e:s.c=.wt p):ij P A s A.cl:=.inr (.inr ⟨rfl,by simp_all⟩)
def Cx{A:bQ}(h:A.cl=0):A.dir=true:=by simp[bQ.dir,h]
def Cy(hd:A.dir=false)(h:s.ms≠.off):wO P A s:=⟨λe=>by simp_all,λe=>by simp_all,λ_=>h⟩
def Cz(b:wO P A s)(e:s.c=.wt p):¬dL P A s A.cl:=by
 have:=A.hb;rintro(⟨h,a⟩|⟨l,d,f,a⟩|⟨_,a⟩)
 . rw[b.1 (Cx h) (by rw[e];simp)]at a;exact a
 . omega
 simp_all
def qZ(b:wO P A s):¬fS P A s A.cl:=by
 have:=A.hb;rintro(⟨h,a⟩|⟨l,c,d,a⟩)
 . exact(b.2.1 (Cx h)).2.1 a
 omega
def tK(a:wO P A s)(e:s.c=.wt p):dW P A s A.cl=tD p:=by
 have:=A.hb;unfold dW;by_cases h:A.cl=0
 . rw[zR h,a.1 (Cx h) (by rw[e];simp),e]
 simp_all
def Is(h:s.c≠.none):bX P A s A.cl:=.inr (.inr ⟨rfl,h⟩)
def JF{a}(h:sD s a c gv gm):a.fe=false/\c.fe=false/\a.isNone=false/\c.isNone=false/\a.busy=true/\c.busy=true:=by cases h<;>simp[ko.fe,ko.isNone,ko.busy]
def MV:fQ A s (s.mD c gv gm) A.cl:=⟨λ_ _ _=>rfl,λh=>absurd rfl h,λ_=>rfl,rfl,rfl,.inl λ_ _=>rfl⟩
def nG  u  (F:bJ (cj P A Fin Z u) Z s f q kk OO J M gs w t){G}(v:s.c=G) (x:sD s G (.wt p) gv gm){d}(hd:Deaf t A.cl=d) (H:gs[A.cl]?=some g){es}(y:stepG P A.dir g w=.go g1 w' es)
 (z:rQ A.gb w' s.gc gv gm) (B:MW A.gb 0 w w') (C:S5 A.gb es) (D:deafBehind d es=tD p) (j:s.gm=0->gm=0)
 (K:∃n r,jI P (lG A) n g1 r/\UA P A Fin (.wt p) (kk A.cl) (OO A.cl) r)  sl :Goes P A Fin Z u s gs w t sl A.cl:=by
 have h:dq P A Z s kk OO J M gs.size w t:=F.ex;have hb:=A.hb;obtain⟨f1,R,S,T,L,U⟩:=JF x;have k:s.c.isNone=false:=by simp_all
 have l:s.c≠.none:=λe=>by rw[e]at k;cases k
 obtain⟨n,r,m,E⟩:=K;have a:(s.mD (.wt p) gv gm).c=.wt p:=rfl;have o:wO P A (s.mD (.wt p) gv gm):=⟨λhd _=>h.off.1 hd l,λhd=>⟨(h.off.2.1 hd).1,(h.off.2.1 hd).2.1,by simp_all,by simp_all,by simp_all⟩,h.off.2.2⟩
 have hJ:J A.cl:=(h.hJ _).2 (.inr ⟨rfl,by simp_all⟩)
 refine Cv (s':=s.mD (.wt p) gv gm) (f':=f) (q':=upd q A.cl n) u F (Is l) (qZ h.off) H y MV (λ_ _=>rfl) (λ_ _=>rfl) o (by simp_all) (by simp_all) (λ_=>.inr (.inr ⟨p,rfl⟩)) (λi=>?_) (h.I.Zr v x) rfl z B (.inr ⟨C,by rw[k];rfl⟩) (Ep v x) (.inl (.inr hJ)) (.inl j) (λ_ _=>rfl) (λi N=>upd_ne q n N) ?_ sl
 . unfold eI
   rw[v,L];rfl
 refine⟨λO=>absurd O (Cz o a),λ_=>⟨Cz o a,?_,?_,r,?_,?_⟩,λQ=>absurd Q (qZ o),λ_ k _=>absurd (uY a) k⟩
 . show A.cl<A.b+A.n+1;omega
 . rw[Deaf_own,hd,D]
   show _=dW P A (s.mD (.wt p) gv gm) A.cl;rw[tK o a]
 . exact .inr (.inr ⟨rfl,E⟩)
 exact .inr (by rw[upd_same];exact m)
variable(C:iu P A.ng)(X:iW P A.ng)
include C X in
def QM  v  (x:bJ (cj P A Fin Z v) Z s f q kk OO J M gs w t) (u:s.c=.wt p) (Q:p≠.wa) (B:gs[A.cl]?=some g) (R:UA P A Fin (.wt p) (kk A.cl) (OO A.cl) g)  sl :
 Goes P A Fin Z v s gs w t sl A.cl\/Gr P A s gs w sl A.cl g:=by
 have F:dq P A Z s kk OO J M gs.size w t:=x.ex;have G:=F.I.Uz;rw[u]at G;obtain⟨W,μ,D,hT⟩:=R;have d:=F.gr;have hn:=A.hn;have hb:=A.hb;have N:CallKind.normal≠CallKind.early:=by decide
 have nx:∀{Y g1},iX P A.ng A.gb .normal (lG A) Y (W::μ) g1->∃n O,jI P (lG A) n g1 O/\UA P A Fin (.wt Y) (kk A.cl) (OO A.cl) O:=λ⟨_,O,⟨n,hs⟩,hA⟩=>⟨n,O,hs,W,μ,hA,hT⟩
 have cell:∀wr,S5 A.gb #[⟨.cell ⟨A.gb,0,none⟩,wr,true⟩]:=λwr e r=>by simp at r;subst r;exact .inl (.inr ⟨0,.inl rfl,rfl,rfl⟩)
 have hd:Deaf t A.cl=tD p:=by obtain⟨_,_,S,_⟩:=x.walk _ (uY u);rw[S];show dW P A s A.cl=_;rw[tK F.off u]
 have y:s.c.waits=false->s.gv=0:=λh=>(F.I.calm h).1
 have H:∀l,l<A.n->(s.w l).cnt<=1:=λl _=>by
  cases e:s.w l with
  |dn p=>cases p<;>simp[bu.cnt]
  |_=>simp[bu.cnt]
 have a7:s.gc<=A.n+1:=by
  have h1:=F.I.g1;have h2:sumTo A.n (λj=>(s.w j).cnt)<=A.n:=oW A.n H
  have h3:s.ms.pend<=1:=by cases s.ms<;>simp[pV.pend];split<;>omega
  omega
 cases p<;>simp only[ko.ok,zs]at G
 case w0=>obtain⟨g1,a,m⟩:=X8 (Wd:=lG A) (main:=A.dir) (w:=w) C X D N;exact .inl (nG v x u .w0 hd B a d (br rfl) (λe r=>by simp at r;subst r;exact .inl (.inl (.inl rfl))) rfl id (nx m) sl)
 case w1=>
  have K:=y (by rw[u];rfl)
  have b:=d;rw[K]at b;obtain⟨g1,a,m⟩:=X9 (Wd:=lG A) (main:=A.dir) C X b (by omega) D
  rcases m with⟨T,m⟩|⟨T,m⟩
  . exact .inl (nG v x u (.Zp T) hd B a d (br rfl) (cell false) rfl id (nx m) sl)
  exact .inl (nG v x u (.w1 T) hd B a d (br rfl) (cell false) rfl id (nx m) sl)
 case we=>
  obtain⟨g1,a,m⟩:=Ya (Wd:=lG A) (main:=A.dir) (w:=w) C X (λw h=>h.1) D N
  exact .inl (nG v x u .we hd B a d (br rfl) (λe r=>by simp at r;subst r;exact .inl (.inl (.inr rfl))) rfl id (nx m) sl)
 case wa=>exact absurd rfl Q
 case w2 k=>
  have K:=y (by rw[u];rfl)
  have b:=d;rw[K]at b
  rcases Yb (Wd:=lG A) (main:=A.dir) C X (λw h=>h.2.1) b D with⟨E,g1,w',a,rfl,z,m⟩|⟨E,g1,a,m⟩
  . subst E
    exact .inl (nG v x u .Zq hd B a z (⟨⟨.refl _,rfl⟩,.inr ⟨0,_,.inl rfl,rfl,rfl⟩⟩) (λe r=>by simp at r;rcases r with rfl|rfl<;>exact .inl (.inr ⟨0,.inl rfl,rfl,rfl⟩)) rfl id (nx m) sl)
  exact .inl (nG v x u (.Yi k E) hd B a d (br rfl) (cell false) rfl id (nx m) sl)
 case w3=>obtain⟨g1,a,m⟩:=Yc (Wd:=lG A) (main:=A.dir) (w:=w) C X D N;exact .inl (nG v x u .w3 hd B a d (br rfl) (λe r=>by simp at r;subst r;exact .inr ⟨1,.inr rfl,.inr rfl⟩) rfl id (nx m) sl)
 case w4=>
  by_cases L:s.gm=0
  . right
    have b:=d;rw[L]at b;have a:=VM (main:=A.dir) C X b D;refine⟨.inr ⟨rfl,u,L⟩,?_⟩;have h:=runT_crowd_go (P:=P) (sl:=sl) (i:=A.cl) B a
    have U:woken P g {g with status:=.blocked} w=id:=funext λo=>by unfold Go.Conc.woken;simp
    rw[U,Array.map_id]at h;exact h
  left;obtain⟨g1,w',a,rfl,z,m⟩:=Yd (Wd:=lG A) (main:=A.dir) C X d L D N
  exact nG v x u (.w4 L) hd B a z (⟨⟨.refl _,rfl⟩,.inr ⟨1,_,.inr rfl,rfl,rfl⟩⟩) (λe r=>by
   simp[semEvents]at r
   rcases r with rfl|rfl|rfl|rfl
   . exact .inl (.inl (.inl rfl))
   . exact .inl (.inr ⟨1,.inr rfl,rfl,rfl⟩)
   . exact .inl (.inr ⟨1,.inr rfl,rfl,rfl⟩)
   exact .inl (.inl (.inr rfl))) rfl (λh=>absurd h L) (nx m) sl
 case w5=>
  obtain⟨V,K,m0,_⟩:=F.I.g8 (by rw[u];rfl)
  have b:=d;rw[V,K]at b;obtain⟨g1,a,m⟩:=Ye (Wd:=lG A) (main:=A.dir) C X b D;exact .inl (nG v x u .w5 hd B a d (br rfl) (cell false) rfl id (nx m) sl)
end
section
variable{Z:Base}{kk:adS}{OO:adR}{J M:adG}{w:World}{t:Trace}
def cE.V2(h:cE Z kk OO J M w t){i ad}(E:J i)(r:ad.block<w.heap.size)(hd:Deaf t i=0)(F:∀p,M p->t.heard p/\Z.N0<=p/\t.act? p=some (.mark (.releaseMerge ad)))
 (G:∀m a,Z.N0<=m->t.act? m≠some (.mark (.release a)))  fn   pos :
 cE Z kk OO J (λ_=>False) w (t++MemOp.ofEvents i fn pos #[⟨.mark (.acquire ad),false,true⟩]):=by
 obtain⟨u,D⟩:∃u,u=MemOp.ofEvents i fn pos #[⟨.mark (.acquire ad),false,true⟩]:=⟨_,rfl⟩;have f:u=#[⟨i,fn,pos,.mark (.acquire ad)⟩]:=by rw[D,ofEvents_eq];simp[MemAct.ofEvent]
 rw[<-D];have H:∀op∈u,op.act.touch?=none:=λop c=>by rw[f]at c;simp at c;subst c;rfl
 have l:∀op∈u,op.g=i:=λop c=>by grind
 have z:u[0]?=some ⟨i,fn,pos,.mark (.acquire ad)⟩:=by grind
 have d:kX u:=λop c=>by grind
 have o:∀k,Z.N0<=k->∀a,(t++u).act? k≠some (.mark (.release a)):=λk A a e=>by
  rcases qX e with⟨q,_⟩|⟨op,c,q⟩
  . simp_all
  grind
 exact h.uK (λa b=>a=b) rfl ⟨⟨.refl _,rfl⟩,λ_ _=>rfl⟩ (λb=>.inl rfl) (λop c=>by rw[f]at c;simp at c;subst c;simpa[MemAct.low]using r) (λa b e n y _ _ _ A=>by subst e;exact A.app u)
  (λj b n v h=>⟨j,rfl,h⟩) (λj b s h=>⟨j,rfl,h⟩) (λj b x h=>⟨j,rfl,h,λ_ h=>h⟩) h.jR
  (λsaid=>noRace_append (h.clean said) l λn a B op c b hb _=>by simp_all) (λop c a B=>by simp_all) (λm op a c B=>by grind)
  (λn a B L h=>h.elim (λ⟨j,q,C⟩=>.inr (.inl ⟨j,q,C.app _⟩)) (λ⟨p,q,C⟩=>by obtain⟨I,N,K⟩:=F p q;exact .inr (.inl ⟨i,E,nD (y:=⟨i,fn,pos,.mark (.acquire ad)⟩) d z rfl hd K I (λk A=>o k (by omega) ad) C⟩)))
end
section
variable{P:adT}{A:bQ}{Fin:adl}{Z:Base}{s:MS P}{f:Nat->Node P}{q:adM}{kk:adS}{OO:adR}{J M:adG}{gs:adp}{w w':World}{t u:Trace}{c:ko}{p:Ij}{gv gm:Nat}{g g1:adJ}
def uZ(e:s.c=.jS\/s.c=.eU):dL P A s A.cl:=.inr (.inr ⟨rfl,by grind⟩)
def It(hd:A.dir=false)(e:s.c=.jS\/s.c=.eU):¬ij P A s A.cl:=by
 have:=A.hb;have:=vS hd;rintro(⟨e,_⟩|⟨l,b,d,a⟩|⟨_,a⟩)
 . omega
 . omega
 grind
def Iu(hd:A.dir=false)(e:s.c≠.eU):cK P A Fin s A.cl=sB P A:=by
 have:=A.hb;have:=vS hd;unfold cK
 grind
def Iv(hd:A.dir=false)(e:s.c=.eU):cK P A Fin s A.cl=yq P A:=by
 have:=A.hb;have:=vS hd;unfold cK
 grind
def R5{x}:Qw P A s A.cl x:=λj h X a b _=>by have:=A.hb;omega
variable(C:iu P A.ng)(X:iW P A.ng)
include C X in
def QN  v  (F:bJ (cj P A Fin Z v) Z s f q kk OO J M gs w t) (o:s.c=.wt .wa) (V:gs[A.cl]?=some g) (G:UA P A Fin (.wt .wa) (kk A.cl) (OO A.cl) g) (d:A.dir=false)  sl :
 Goes P A Fin Z v s gs w t sl A.cl:=by
 have j:dq P A Z s kk OO J M gs.size w t:=F.ex;have B:=bq (P:=P) (A:=A) (Fin:=Fin) (Z:=Z) v;obtain⟨c0,μ,hM,W⟩:=G;rw[zA (by rw[d];simp)]at W
 have a7:=vS d;have hb:=A.hb;have H:(A.cl==0)=false:=by simp;omega
 obtain⟨g1,K,hr,⟨k,x⟩⟩:=VL (Wd:=λ_=>True) (main:=false) (w:=w) C X hM (by decide)
 obtain⟨tr⟩:=T.tree (P:=P) (m:=sB P A) rfl (W _ (ar.Le.refl _));obtain⟨T,_⟩:=TT.pre x tr;have z:=runT_crowd_go (P:=P) (sl:=sl) (i:=A.cl) V (by rw[H];exact K)
 have L:=uY (P:=P) (A:=A) o
 have hd:Deaf t A.cl=0:=by obtain⟨_,_,N,_⟩:=F.walk _ L;rw[N];show dW P A s A.cl=_;rw[tK j.off o];rfl
 have hJ:J A.cl:=(j.hJ _).2 (.inr ⟨rfl,by rw[o];rfl⟩)
 have hG:A.gb<w.heap.size:=by obtain⟨c,e,Q⟩:=j.Ai;exact(wS.1 Q).1
 have hP:=F.cX.V2 (i:=A.cl) (ad:=⟨A.gb,0,none⟩) hJ hG hd (λp D=>by
  obtain⟨Q,h2,u⟩:=j.hM p D
  rcases u with⟨u,_⟩|⟨u,_⟩
  . exact⟨Q,h2,u⟩
  . rw[o]at u;cases u) j.norel g.frame.fn g.frame.place
 have E:∀op∈MemOp.ofEvents A.cl g.frame.fn g.frame.place #[⟨.mark (.acquire ⟨A.gb,0,none⟩),false,true⟩],op.g=A.cl:=λop r=>by obtain⟨e,_,rfl⟩:=za r;rfl
 have R:dq P A Z (s.mD .jS s.gv s.gm) kk OO J (λ_=>False) gs.size w (t++MemOp.ofEvents A.cl g.frame.fn g.frame.place #[⟨.mark (.acquire ⟨A.gb,0,none⟩),false,true⟩]):=
  j.VZ (MV (s:=s) (c:=.jS)) (λ_ _=>rfl) (λ_ _=>rfl) (Cy d (j.off.2.2 d)) (by rw[o];rfl) (by rw[o];rfl) (λp D=>D.elim) (λe=>by rw[o]at e;cases e) (λ⟨p,D⟩=>D.elim) (λi=>by unfold eI;rw[o];rfl) (j.I.Zr o .wa) rfl j.gr (br rfl) (λop r=>by obtain⟨e,Y,rfl⟩:=za r;simp at Y;subst Y;exact⟨λa ha=>by simp[MemAct.ofEvent,MemAct.touch?]at ha,λa h=>by simp[MemAct.ofEvent]at h⟩)
 have S:Beside (cj P A Fin Z v) s (s.mD .jS s.gv s.gm) f (bW f A.cl ⟨sB P A,kk A.cl,OO A.cl,g1,T⟩) q q kk kk OO OO J J w A.cl g g1:=mC v MV (λi hi=>az _ _ hi) (λ_ _=>rfl) (λ_ _ _=>rfl) (λ_ _ _=>rfl) (λ_ _ h=>h) (.inl ⟨id,id⟩) (λ{i k O y} U=>B.ly (s:=s) (i:=i) (k:=k) (O:=O) (g:=y) U)
 refine⟨_,_,z,s.mD .jS s.gv s.gm,bW f A.cl ⟨sB P A,kk A.cl,OO A.cl,g1,T⟩,q,kk,OO,J,(λ_=>False),_,_,_,rfl,Ep o .wa,?_⟩
 refine bJ.step B F V E hP R (λl y hl U=>B.tv j hl _ _ U) S ⟨λ_=>?_,λh=>absurd h (It d (.inl rfl)),λh=>absurd h (qZ (Cy d (j.off.2.2 d))),λh=>absurd (uZ (.inl rfl)) h⟩
 rw[ao];refine⟨by show A.cl<A.b+A.n+1;omega,rfl,?_,rfl,rfl,hr,?_,.inr hJ,R5⟩
 . show sB P A=cK P A Fin (s.mD .jS s.gv s.gm) A.cl
   rw[Iu d (by simp[MS.mD])]
 . rw[Deaf_own,hd];rfl
end
def u6 {P y s fr x f dU τ} (a:FR y s fr) (h:bh s=some x):fr≠Frame.enter P f dU τ:=fun e=>by
 obtain⟨ζ,i,μ,kk,o,as,b,d,g,j,k,c,l⟩:=dD (f:=x.1) (svs:=x.2) a h;have:fr.todo = .inRegion ζ (i :: μ) :: kk:=by rw[c];rfl
 rw[e] at this;simp[Frame.enter] at this
def CA{fr a cs b}(h:G fr cs=G a b):fr=a:=by have:=congrArg Goroutine.frame h;exact this
section
variable{P:adT}{A:bQ}{Fin:adl}{Z:Base}{s:MS P}{f:Nat->Node P}{q:adM}{kk:adS}{OO:adR}{J M:adG}{gs:adp}{w w':World}{t u:Trace}{j:Nat}{c:ko}{p:Ij}{gv gm:Nat}{g g1:adJ}
variable(C:iu P A.ng)(X:iW P A.ng)
include C in
def Er{b τ a cs f dU n Wd d}(h:jI P Wd n (G (Frame.enter P f dU a) cs) d)(g:rR P A.ng b τ .w0 cs d):n≠0:=λe=>by subst e;obtain⟨c,y,fr,i,rfl,l,j,k,rfl⟩:=g;exact u6 j (C.w0 b τ).1 (CA h).symm
include C in
def MX{b τ a cs f dU n Wd d}(h:jI P Wd n (G (Frame.enter P f dU a) cs) d)(g:rR P A.ng b τ .a0 cs d):n≠0:=λe=>by subst e;obtain⟨c,y,fr,i,rfl,l,j,k,rfl⟩:=g;exact u6 j (C.a0 b τ).1 (CA h).symm
include C in
def MY{b τ a cs f dU n Wd d}(h:jI P Wd n (G (Frame.enter P f dU a) cs) d)(g:rR P A.ng b τ .d1 cs d):n≠0:=λe=>by subst e;obtain⟨c,y,fr,i,rfl,l,j,k,rfl⟩:=g;exact u6 j (C.d1 b).1 (CA h).symm
include C X in
def JG  h  (i:bJ (cj P A Fin Z h) Z s f q kk OO J M gs w t) (u:s.c=.eU){k O N}(j:k=kk A.cl) (l:O=OO A.cl) (z:gs[A.cl]?=some g) (B:(yq P A).dz k O g N) (a:A.dir=false)  sl :
 Goes P A Fin Z h s gs w t sl A.cl:=by
 have v:dq P A Z s kk OO J M gs.size w t:=i.ex;obtain⟨_,_,_,_,_,_,m,_⟩:=i.live _ (uZ (.inr u));obtain⟨rfl,x,μ,rfl,D⟩:=B;subst j l;obtain⟨E,⟨n,d⟩,y⟩:=qp (P:=P) (n:=A.ng) (b:=A.gb) (τ:=.normal) (cs:=x::μ) (Wd:=lG A) X C;cases n with
 |zero=>exact absurd rfl (Er C d y)
 |succ n=>obtain⟨g1,⟨F,o⟩,p⟩:=d;have r:lG A w:=(bq (P:=P) (A:=A) (Fin:=Fin) (Z:=Z) h).wd v;exact nG h i u .call m z (by rw[a];exact o false w r) v.gr (br rfl) (λe G=>by simp at G) rfl id ⟨n,E,p,x,μ,y,by rw[zA (by rw[a];simp)];exact D⟩ sl
def tL(hj:j<A.n)(e:s.w j=.zX):dL P A s (A.b+j):=.inr (.inl ⟨j,hj,rfl,by simp_all⟩)
def u'(hj:j<A.n)(e:s.w j=.zX):¬fS P A s (A.b+j):=by
 have:=A.hb;rintro(⟨e,_⟩|⟨l,a,c,d⟩)
 . omega
 simp_all
include C X in
def JH  r  (u:bJ (cj P A Fin Z r) Z s f q kk OO J M gs w t) (hj:j<A.n) (c:s.w j=.zX){k O N}(H:gs[A.b+j]?=some g) (K:(lF P A).dz k O g N)  sl :
 Goes P A Fin Z r s gs w t sl (A.b+j):=by
 have o:dq P A Z s kk OO J M gs.size w t:=u.ex;have hb:=A.hb;obtain⟨_,_,_,_,_,_,v,_⟩:=u.live _ (tL hj c);obtain⟨rfl,F,fn,η,todo,y,p,rfl⟩:=K;have z:(A.b+j==0)=false:=by simp;omega
 obtain⟨L,⟨n,m⟩,G⟩:=yn (P:=P) (n:=A.ng) (b:=A.gb) (τ:=.deferred) (cs:=[lg P F η todo,cO P]) (Wd:=lG A) X (λw h=>h.1) C
 cases n with
 |zero=>exact absurd rfl (MY C m G)
 | succ n=>
   obtain⟨g1,⟨Q,B⟩,D⟩:=m;have E:lG A w:=(bq (P:=P) (A:=A) (Fin:=Fin) (Z:=Z) r).wd o;obtain⟨x,d⟩:∃x:bu P,x=.dn .d1:=⟨_,rfl⟩;have a:(s.aZ j x s.sh).w j=.dn .d1:=by rw[ba,d]
   have R:bU A.n (s.aZ j x s.sh):=o.I.xg hj (by rw[c];rfl) (by rw[d];rfl) (.inl (by rw[d,c];rfl)) (by rw[d];rfl) (by rw[d,c];rfl)
   have S:MS.gX A.n (s.aZ j x s.sh) s:=tH hj (by rw[d,c];simp[bu.cB])
   have hJ:J (A.b+j):=(o.hJ _).2 (.inl ⟨j,hj,rfl,by rw[c];rfl⟩)
   refine Cv (s':=s.aZ j x s.sh) (f':=f) (q':=upd q (A.b+j) n) (es:=#[]) r u (iZ o.I hj (by rw[c];rfl)) (u' hj c) H (by rw[z];exact B false w E) (yt hj (.inl (by rw[d,c];rfl))) (λl _=>?_) (λl _=>?_) o.off rfl rfl id (oR hj (by rw[d,c];rfl)) R rfl o.gr (br rfl) (.inl gq) S (.inl (.inr hJ)) (.inl id) (λ_ _=>rfl) (λi T=>upd_ne q n T) ?_ sl
   . by_cases e:l=j
     . subst e;rw[ba,d,c];rfl
     rw[cC e]
   . by_cases e:l=j
     . subst e;rw[ba,d,c];rfl
     rw[cC e]
   refine⟨λU=>absurd U (kP hj a),λ_=>⟨kP hj a,?_,?_,L,?_,?_⟩,λV=>absurd V (qw hj a),λ_ W _=>absurd (m7 hj a) W⟩
   . show A.b+j<A.b+A.n+1;omega
   . rw[Deaf_own,v]
     show _=dW P A (s.aZ j x s.sh) (A.b+j);rw[fC hj,a];rfl
   . refine .inr (.inl ⟨j,hj,rfl,?_⟩)
     rw[a];exact⟨F,fn,η,todo,y,p,G⟩
   exact .inr (by rw[upd_same];exact D)
end
section
variable{P:adT}
def MS.nH(s:MS P)(ms:pV)(gc:Nat):MS P:={s with ms:=ms,gc:=gc}
inductive Es(s:MS P):pV->pV->adG
 |call (j:Nat):1<=j->Es s (.add j) (.bG j .a0) s.gc
 |a0 (j:Nat):Es s (.bG j .a0) (.bG j .a2) s.gc
 |a2 (j:Nat) (p:Ij):p=.a4\/p=.ae->Es s (.bG j .a2) (.bG j p) (s.gc+1)
 |a4 (j:Nat):Es s (.bG j .a4) (.bG j .ae) s.gc
 |ae (j:Nat):Es s (.bG j .ae) (.spawn (j-1)) s.gc
def bU.mai{n}{s:MS P}(I:bU n s){m0 m1 gc}(f:s.ms=m0)(h:Es s m0 m1 gc):bU n (s.nH m1 gc)/\s.c=.none:=by
 have a:=I.ms;rw[f]at a;have d:s.c=.none:=by cases h<;>first|exact a.2|exact a.2.1
 obtain⟨k,i,g⟩:=I.calm (by rw[d];rfl);refine⟨⟨?_,I.g2,I.Gl,λj b h=>?_,I.Im,λj b h=>?_,⟨I.g5.1,λh=>(by have h:s.gm=1:=h;omega)⟩,I.g6,λh=>(by have h:s.gv=1:=h;omega),λh=>?_,I.g9,I.ok,I.Uz,I.sp,I.idle,?_,I.early,I.mu⟩,d⟩
 . have:=I.g1
   rw[f]at this;show gc=sumTo n (λj=>(s.w j).cnt)+m1.pend;cases h with
   |a2 j p e=>rcases e with rfl|rfl<;>simp_all [pV.pend]
   |_=>simp_all [pV.pend]
 . have h:s.w j=.dn .d5\/s.w j=.dn .d6:=h
   have:=g j b;rcases h with h|h<;>rw[h]at this<;>cases this
 . have h:s.w j=.dn .d7:=h
   have:=g j b;rw[h]at this;cases this
 . have h:s.c.MK=true:=h
   rw[d]at h;cases h
 cases h with
 |call j b=>exact⟨a.1,a.2,b,.inl rfl⟩
 |a0 j=>exact⟨a.1,a.2.1,a.2.2.1,.inr (.inl rfl)⟩
 |a2 j p e=>exact⟨a.1,a.2.1,a.2.2.1,.inr (.inr e)⟩
 |a4 j=>exact⟨a.1,a.2.1,a.2.2.1,.inr (.inr (.inr rfl))⟩
 |ae j=>exact⟨by have l:=a.1;have m:=a.2.2.1;show s.sp+(j-1)+1=n;omega,a.2.1⟩
def MZ{n}{s:MS P}{m0 m1 gc}(a:s.c=.none)(hj:∀j p,m0=.bG j p->1<=j)(b:s.ms=m0)(h:Es s m0 m1 gc):MS.gX n (s.nH m1 gc) s:=by
 refine .inl ?_;show m1.cB+sumTo n (λi=>(s.w i).cB)+s.c.cB gc<s.ms.cB+sumTo n (λi=>(s.w i).cB)+s.c.cB s.gc;rw[b,a];have e:∀x,ko.cB x .none=0:=λ_=>rfl
 rw[e,e]
 have:m1.cB<m0.cB:=by
  cases h with
  |a2 j p d=>rcases d with rfl|rfl<;>simp[pV.cB]
  |ae j=>have:=hj j .ae rfl;simp only[pV.cB];omega
  |_=>simp[pV.cB]
 omega
end
section
variable{P:adT}{A:bQ}{Fin:adl}{Z:Base}{s:MS P}{f f':Nat->Node P}{q q':adM}{kk:adS}{OO:adR}{J M:adG}{gs:adp}{w w':World}{t u:Trace}{j:Nat}{c:ko}{p:Ij}{gc:Nat}{g g1:adJ}{m0 m1:pV}
def Gu(e:s.ms=.bG j p):ij P A s 0:=.inl ⟨rfl,by simp_all⟩
def Iw(b:s.c=.none)(e:s.ms=.bG j p):¬dL P A s 0:=by
 have:=A.hb;rintro(⟨_,a⟩|⟨l,d,f,a⟩|⟨_,a⟩)
 . simp_all
 . omega
 simp_all
def m9(e:s.ms≠.parked):¬fS P A s 0:=by
 have:=A.hb;rintro(⟨_,a⟩|⟨l,b,c,a⟩)
 . exact e a
 omega
def Ix(e:s.ms=.bG j p):dW P A s 0=tD p:=by
 unfold dW
 simp_all
def V3:fQ A s (s.nH m1 gc) 0:=⟨λ_ _ _=>rfl,λ_=>rfl,λh=>absurd rfl h,rfl,rfl,.inl λ_ _=>rfl⟩
def va  r  (Q:bJ (cj P A Fin Z r) Z s f q kk OO J M gs w t) (z:s.ms=m0) (o:Es s m0 m1 gc){d}(hd:Deaf t 0=d) (T:gs[0]?=some g){es}(B:stepG P true g w=.go g1 w' es)
 (C:rQ A.gb w' gc s.gv s.gm) (D:MW A.gb 0 w w') (E:S5 A.gb es)
 (U:(∃j p n y,m1=.bG j p/\deafBehind d es=tD p/\jI P (lG A) n g1 y/\Xu P A Fin (.bG j p) (kk 0) (OO 0) y)\/
   (∃j,m1=.spawn j/\deafBehind d es=0/\g1.status=.running/\∃R:TT P (Gk P A Fin j) (kk 0) (OO 0) g1,True))  sl :Goes P A Fin Z r s gs w t sl 0:=by
 have S:dq P A Z s kk OO J M gs.size w t:=Q.ex;have hb:=A.hb;have V:((0:Nat)==0)=true:=rfl;obtain⟨W,k⟩:=S.I.mai z o;have F:s.c.isNone=true:=by rw[k];rfl
 have Y:MS.gX A.n (s.nH m1 gc) s:=MZ k (λj p e=>by have:=S.I.ms;simp_all) z o
 have ho:wO P A (s.nH m1 gc):=⟨λ_ h=>absurd k h,λ_=>⟨by cases o<;>simp[MS.nH],by cases o<;>simp[MS.nH],by rw[show(s.nH m1 gc).c=.none from k];simp⟩,λ_=>by cases o<;>simp[MS.nH]⟩
 have G:s.ms≠.parked:=by rw[z];cases o<;>simp
 have H:∀fn pos,Deaf (t++MemOp.ofEvents 0 fn pos es) 0=deafBehind d es:=λfn pos=>by rw[Deaf_own,hd]
 have go:∀(f':Nat->Node P) (q':adM),(∀i,i≠0->f' i=f i)->(∀i,i≠0->q' i=q i)->Self P (cj P A Fin Z r) (s.nH m1 gc) f' q' kk OO J (t++MemOp.ofEvents 0 g.frame.fn g.frame.place es) 0 g1->Goes P A Fin Z r s gs w t sl 0:=λf' q' hf hq m=>Cv (s':=s.nH m1 gc) r Q (.inl rfl) (m9 G) T B V3 (λ_ _=>rfl) (λ_ _=>rfl) ho rfl rfl id (λi=>abr) W rfl C D (.inr ⟨E,by rw[F];rfl⟩) Y (.inl (.inl rfl)) (.inl id) hf hq m sl
 rcases U with⟨j,p,n,y,rfl,u,v,K⟩|⟨j,rfl,u,hr,R,_⟩
 . have a:(s.nH (.bG j p) gc).ms=.bG j p:=rfl
   refine go f (upd q 0 n) (λ_ _=>rfl) (λi L=>upd_ne q n L) ⟨λhl=>absurd hl (Iw (s:=s.nH (.bG j p) gc) k a),λ_=>⟨Iw (s:=s.nH (.bG j p) gc) k a,?_,?_,y,?_,?_⟩,λhh=>absurd hh (m9 (by simp_all)),λ_ F _=>absurd (Gu a) F⟩
   . show 0<A.b+A.n+1;omega
   . rw[H,u]
     show _=dW P A (s.nH (.bG j p) gc) 0;rw[Ix a]
   . exact .inl ⟨rfl,K⟩
   exact .inr (by rw[upd_same];exact v)
 have N:dL P A (s.nH (.spawn j) gc) 0:=.inl ⟨rfl,trivial⟩
 have O:¬ij P A (s.nH (.spawn j) gc) 0:=by
  rintro(⟨_,x⟩|⟨l,h1,h2,x⟩|⟨_,x⟩)
  . exact x
  . omega
  rw[show(s.nH (.spawn j) gc).c=.none from k]at x;exact x
 refine go (bW f 0 ⟨Gk P A Fin j,kk 0,OO 0,g1,R⟩) q (λi L=>az _ _ L) (λ_ _=>rfl) ⟨λ_=>?_,λh=>absurd h O,λh=>absurd h (m9 (by simp[MS.nH])),λh=>absurd N h⟩
 rw[ao];refine⟨by show 0<A.b+A.n+1;omega,rfl,?_,rfl,rfl,hr,by grind,.inl rfl,λl h X h1 h2 _=>by omega⟩
 show Gk P A Fin j=cK P A Fin (s.nH (.spawn j) gc) 0;unfold cK;rw[zR rfl];rfl
variable(C:iu P A.ng)(X:iW P A.ng)
include C X in
def Et  y  (z:bJ (cj P A Fin Z y) Z s f q kk OO J M gs w t) (i:s.ms=.bG j p) (B:gs[0]?=some g) (L:Xu P A Fin (.bG j p) (kk 0) (OO 0) g)  sl :Goes P A Fin Z y s gs w t sl 0:=by
 have H:dq P A Z s kk OO J M gs.size w t:=z.ex;have D:=H.I.ms;rw[i]at D;obtain⟨_,V,W,Y⟩:=D;obtain⟨N,a7,hl⟩:=H.I.calm (by rw[V];rfl)
 obtain⟨R,μ,K,S⟩:=L;have d:=H.gr;have hn:=A.hn;have O:CallKind.normal≠CallKind.early:=by decide
 have nx:∀{U g1},iX P A.ng A.gb .normal (lG A) U (R::μ) g1->∃n b,jI P (lG A) n g1 b/\Xu P A Fin (.bG j U) (kk 0) (OO 0) b:=λ⟨_,b,⟨n,hs⟩,hA⟩=>⟨n,b,hs,R,μ,hA,S⟩
 have hd:Deaf t 0=tD p:=by obtain⟨_,_,Q,_⟩:=z.walk _ (Gu i);rw[Q];show dW P A s 0=_;rw[Ix i]
 have E:∀l,l<A.n->(s.w l).cnt<=1:=λl _=>by
  cases e:s.w l with
  |dn p=>cases p<;>simp[bu.cnt]
  |_=>simp[bu.cnt]
 have a8:s.gc<=A.n+1:=by
  have o:=H.I.g1;have r:sumTo A.n (λj=>(s.w j).cnt)<=A.n:=oW A.n E
  have h3:s.ms.pend<=1:=by cases s.ms<;>simp[pV.pend];split<;>omega
  omega
 rcases Y with rfl|rfl|rfl|rfl
 . obtain⟨g1,a,hN⟩:=XX (Wd:=lG A) (main:=true) (w:=w) C X K O
   obtain⟨n,b,o,r⟩:=nx hN;exact va y z i (.a0 j) hd B a d (br rfl) (λe c=>by simp at c;subst c;exact .inl (.inl (.inl rfl))) (.inl ⟨j,_,n,b,rfl,rfl,o,r⟩) sl
 . have u:=d
   rw[N]at u;obtain⟨g1,w',a,rfl,x,hN⟩:=XY (Wd:=lG A) (main:=true) (v:=0) C X (λw h=>h.2.1) u (by omega) K
   have F:S5 A.gb #[⟨.cell ⟨A.gb,0,none⟩,false,true⟩,⟨.cell ⟨A.gb,0,none⟩,true,true⟩]:=λe c=>by simp at c;rcases c with rfl|rfl<;>exact .inl (.inr ⟨0,.inl rfl,rfl,rfl⟩)
   rcases hN with hN|hN
   . obtain⟨n,b,o,r⟩:=nx hN
     exact va y z i (.a2 j _ (.inl rfl)) hd B a (by rw[N];exact x) (⟨⟨.refl _,rfl⟩,.inr ⟨0,_,.inl rfl,rfl,rfl⟩⟩) F (.inl ⟨j,_,n,b,rfl,rfl,o,r⟩) sl
   obtain⟨n,b,o,r⟩:=nx hN;exact va y z i (.a2 j _ (.inr rfl)) hd B a (by rw[N];exact x) (⟨⟨.refl _,rfl⟩,.inr ⟨0,_,.inl rfl,rfl,rfl⟩⟩) F (.inl ⟨j,_,n,b,rfl,rfl,o,r⟩) sl
 . obtain⟨g1,a,hN⟩:=XZ (Wd:=lG A) (main:=true) (w:=w) C X K O
   obtain⟨n,b,o,r⟩:=nx hN;exact va y z i (.a4 j) hd B a d (br rfl) (λe c=>by simp at c;subst c;exact .inr ⟨1,.inr rfl,.inl rfl⟩) (.inl ⟨j,_,n,b,rfl,rfl,o,r⟩) sl
 obtain⟨g1,a,hr,⟨k,G⟩⟩:=X1 (Wd:=λ_=>True) (main:=true) (w:=w) C X K O
 obtain⟨tr⟩:=T.tree (P:=P) (m:=Gk P A Fin (j-1)) rfl S;obtain⟨T,_⟩:=TT.pre G tr;exact va y z i (.ae j) hd B a d (br rfl) (λe c=>by simp at c;subst c;exact .inl (.inl (.inr rfl))) (.inr ⟨j-1,rfl,rfl,hr,T,trivial⟩) sl
include C X in
def M0  c  (d:bJ (cj P A Fin Z c) Z s f q kk OO J M gs w t) (r:s.ms=.add (j+1)){k O N}(h:k=kk 0) (i:O=OO 0) (y:gs[0]?=some g) (z:(pI P A Fin (j+1)).dz k O g N)  sl :
 Goes P A Fin Z c s gs w t sl 0:=by
 have u:dq P A Z s kk OO J M gs.size w t:=d.ex;obtain⟨_,_,_,_,_,_,l,_⟩:=d.live 0 (.inl ⟨rfl,by rw[r];trivial⟩);obtain⟨rfl,v,μ,rfl,B⟩:=z;subst h i;obtain⟨D,⟨n,a⟩,x⟩:=Af (P:=P) (n:=A.ng) (b:=A.gb) (τ:=.normal) (cs:=v::μ) (Wd:=lG A) X;cases n with
 |zero=>exact absurd rfl (MX C a x)
 |succ n=>obtain⟨g1,⟨E,m⟩,o⟩:=a;have p:lG A w:=(bq (P:=P) (A:=A) (Fin:=Fin) (Z:=Z) c).wd u;exact va c d r (.call (j+1) (by omega)) l y (m true w p) u.gr (br rfl) (λe F=>by simp at F) (.inl ⟨j+1,.a0,n,D,rfl,rfl,o,v,μ,x,B⟩) sl
end
