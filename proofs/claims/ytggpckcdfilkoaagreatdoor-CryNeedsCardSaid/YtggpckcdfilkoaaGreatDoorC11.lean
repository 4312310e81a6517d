import Derived.Test.YtggpckcdfilkoaaGreatDoorC10
set_option linter.all false
namespace Go.bu
section
open Go.Conc
open Go.ConcN (sumTo upd sumTo_upd upd_ne upd_same)
section
variable{P:Rg}{A:dq}{Fin:ZD}{Z:Base}{s:MS P}{f:Nat->Node P}{q:Ct}{kk:Zz}{OO:ZF}{J M:ZA}{gs:Da}{w w':World}{t:Trace}{j:Nat}{x:cL P}{sh:Mu.Sh}{g g1:YB}
variable(C:kX P A.nm)(X:kY P A.nm)(F:sz P A.nm)
include C X F in
def aes  H  (R:cZ (dG P A Fin Z H) Z s f q kk OO J M gs w t) (hj:j<A.n){h X0}(d:s.w j=.run h X0){Y:Py P}(hf:f (A.b+j)=Y.node) (hl:N7 P A j Y.k Y.O Y.g (Lt P A Y.N))  sl :
 Goes P A Fin Z H s gs w t sl (A.b+j):=by
 have D:fP P A Z s kk OO J M gs.size w t:=R.ex;obtain⟨_,e,p,y,z,_,K,_,B⟩:=R.live _ (pY hj d);rw[hf]at e p y z B;have e:gs[A.b+j]?=some Y.g:=e;have y:Y.k=kk (A.b+j):=y;have z:Y.O=OO (A.b+j):=z;have p:Y.m=mT P A j:=by have:Y.m=eF P A Fin s (A.b+j):=p;rw[this,uz hj d]
 obtain⟨ν,c,μ,tf,xo,a,hk,hg,E,IS,L,T,Q,U⟩:=hl;rw[y]at L Q U;rw[z]at E IS U
 have hh:h=true:=by
  obtain⟨l,_,hl,h2,h3,_⟩:=D.tok _ _ E;obtain rfl:l=j:=ac
  rw[d]at h3;exact h3
 subst hh;have S:(s.w j).work=true:=by rw[d];rfl
 have G:(s.w j).pc=.held:=by rw[d];rfl
 have hu:=B j true X0 hj rfl d Y.node (.inl rfl) trivial;obtain⟨g2,⟨n,r⟩,V⟩:=vJ (P:=P) (n:=A.nm) (b:=A.fb) (o:=A.fo) (ν:=ν) (cs:=c::μ) (Wd:=qI A) F;rw[<-hg]at r;have al:=J7 A.n
 have e1:Mu.set (λi=>(s.w i).pc) j .held=λi=>(s.w i).pc:=by
  have:=oP (λi=>(s.w i).pc) j
  rw[show(s.w j).pc=.held from G]at this
  exact this
 have u:∃f x a,OO (A.b+j) A.fb=some (.part f)/\OO (A.b+j) A.mb=some x/\qf (kk (A.b+j)) x a/\A.GI a/\(A.dir=true->(kk (A.b+j)).cell A.fb (A.cell j)=some (A.val j))/\Lt P A Y.N (kk (A.b+j)) (((OO (A.b+j)).del A.mb).del A.fb) (qz ν c μ (.tuple #[])):=⟨tf,xo,a,E,IS,L,T,Q,U⟩;cases n with
 | zero=>
   have e0:Y.g=g2:=r;rw[<-e0]at V;obtain⟨v,hv⟩:=((cE (P:=P) (A:=A) (Fin:=Fin) (Z:=Z) H).wd D).2.2;obtain⟨g1,W,hr,g3,⟨k,a7⟩,a8⟩:=Dt (Wd:=qI A) (γ:=false) (w:=w) C X (λw h=>h.2.2) hv V
   refine J2 (x:=.un .ur Y) (sh:=s.sh) H R hj S K (py hj d) rfl (by rw[d];rfl) (λ_=>by rw[d];rfl) (D.I.still hj S rfl rfl (by rw[G];rfl)) (xz hj d rfl rfl hu ?_) e W (cH rfl) D.mu kD rfl ⟨k,g3,a7,ν,c,μ,hk,a8,p,λ_=>u,λh=>absurd (.inr rfl) h⟩ (.inl λh0=>h0) sl
   show 4*Mu.meas A.n (Mu.set (λi=>(s.w i).pc) j .held) s.sh+4<_
   rw[e1];omega
 | succ n=>
   obtain⟨g1,⟨av,a9⟩,ab⟩:=r;have ad:qI A w:=(cE (P:=P) (A:=A) (Fin:=Fin) (Z:=Z) H).wd D;refine J2 (x:=.un .NL Y) (sh:=s.sh) H R hj S K (py hj d) rfl (by rw[d];rfl) (λ_=>by rw[d];rfl) (D.I.still hj S rfl rfl (by rw[G];rfl)) (xz hj d rfl rfl hu ?_) e (a9 false w ad) (cH rfl) D.mu kD rfl ⟨n,g2,ab,ν,c,μ,hk,V,p,λ_=>u,λh=>absurd (.inl rfl) h⟩ (.inl λh0=>h0) sl
   show 4*Mu.meas A.n (Mu.set (λi=>(s.w i).pc) j .held) s.sh+5<_
   rw[e1];omega
end
section
variable{P:Rg}{A:dq}{Z:Base}{s:MS P}{kk:Zz}{OO:ZF}{J M:ZA}{gsz:Nat}{w w':World}{t:Trace}
def fP.acO(h:fP P A Z s kk OO J M gsz w t)(a:MW A.gb 0 w w'):Calm Z w w':=by obtain⟨b,c,_⟩:=vo a h.Fx;have:=h.jT.2.2;exact⟨a.1,am⟩
def fP.acP(h:fP P A Z s kk OO J M gsz w t)(a:MW A.gb 0 w w'):∀b,Kept kk OO w w' b:=λb=>by
 obtain⟨p,d,c,e,f,g,j,k,q⟩:=vo a h.Fx;by_cases hb:b=A.gb
 . subst hb
   refine .inr (.inr ⟨c,f,e,g,j,k,λi x l=>(by rw[(h.lq i).2]at l;grind),λn=>?_⟩);by_cases m:n=0
   . subst m;exact .inr λi=>(h.jr i).2.2.1
   . by_cases o:n=1
     . subst o;exact .inr λi=>(h.jr i).2.2.2
     grind
 . exact .inl (d b hb)
def fP.Y3(h:fP P A Z s kk OO J M gsz w t){n}(a:n=0\/n=1):RV kk OO w.heap.size (.cell ⟨A.gb,n,none⟩):=by
 have b:A.gb<w.heap.size:=by obtain⟨c,e,d⟩:=h.Fx;grind
 refine⟨b,λi=>⟨iR (h.lq i).2,?_⟩⟩
 rcases a with rfl|rfl
 . exact(h.jr i).2.2.1
 . exact(h.jr i).2.2.2
def fP.Tt(h:fP P A Z s kk OO J M gsz w t){es}(p:EvM A.gb 0 es){i}(hi:dA P A s i)  fn   pos :
 H3 kk OO w.heap.size t i (MemOp.ofEvents i fn pos es)/\(∀op∈MemOp.ofEvents i fn pos es,op.act.low w.heap.size)/\(∀op∈MemOp.ofEvents i fn pos es,(∀a,op.act.touch?=some a->a.kind=.atomic/\Fb A a.loc)/\∀a,op.act≠.mark (.release a))/\
 ∀op∈MemOp.ofEvents i fn pos es,∀a,op.act.touch?=some a->Z.na a.loc:=by
 have v:A.gb<w.heap.size:=by obtain⟨c,e,g⟩:=h.Fx;grind
 refine⟨λop d a j=>?_,λop d=>?_,λop d=>?_,λop d a j=>?_⟩<;>obtain⟨e,l,rfl⟩:=zj d<;>obtain⟨o,q,x⟩:=uy (p e l)
 . obtain⟨g,n,k,f⟩:=o a j
   refine⟨g,λ_=>by rw[f];exact h.Y3 k,λm b hb r u=>h.quiet m b hb ?_ u i hi⟩
   rw[r,f];exact⟨rfl,.inr ⟨rfl,k⟩⟩
 . grind
 . refine⟨λa j=>?_,q⟩
   obtain⟨g,n,k,f⟩:=o a j;exact⟨g,by rw[f];exact⟨rfl,am⟩⟩
 . obtain⟨g,n,k,f⟩:=o a j
   rw[f];exact h.zc _ ⟨rfl,am⟩ am
def RDI{Z J M t u}{i m:Nat}{op a}(e:u[m]?=some op)(f:op.act.touch?=some a)(b:Z.na a.loc)(c:a.kind=.atomic)(d:¬(t++u).counts (t.size+m)):Told Z J M (t++u) (t.size+m) a:=.inr (.inr (.inr ⟨b,c,λh=>absurd h d⟩))
end
end
section
open Go.Conc
open Go.ConcN (sumTo upd sumTo_upd upd_ne upd_same)
variable{P:Rg}
section
variable{s:MS P}{j n:Nat}{x:cL P}{sh:Mu.Sh}
def zM(hj:j<n)(h:x.eZ<(s.w j).eZ):MS.kS n (s.bW j x sh) s:=by have:=zL (s:=s) (x:=x) (sh:=sh) cL.eZ hj;refine .inl ?_;show s.ms.eZ+sumTo n _+s.c.eZ s.gc<s.ms.eZ+sumTo n _+s.c.eZ s.gc;omega
def du.CG(I:du n s)(hj:j<n)(a:(s.w j).HZ=true)(b:x.HZ=true)(c:x.mU=(s.w j).mU\/s.d=true)(e:x.ok=true)(f:x.pc=(s.w j).pc):du n (s.bW j x s.sh):=I.same hj a b c e (by rw[f,oP _];exact I.mu)
end
end
section
open Go.Conc
open Go.ConcN (sumTo upd sumTo_upd upd_ne upd_same)
section
variable{P:Rg}{A:dq}{Fin:ZD}{Z:Base}{s:MS P}{f f':Nat->Node P}{q q':Ct}{kk kk':Zz}{OO OO':ZF}{J J' M:ZA}{gs:Da}{w w':World}{t:Trace}{j:Nat}{x:cL P}{sh:Mu.Sh}{g g1:YB}
theorem sU(hj:j<A.n){p}(e:s.w j=.dn p):ln P A s (A.b+j):=.inr (.inl ⟨j,hj,rfl,aq⟩)
def pZ(hj:j<A.n){p}(e:s.w j=.dn p):¬gV P A s (A.b+j):=by
 have:=A.hb;rintro(⟨e,_⟩|⟨l,a,c,d⟩|⟨e,_⟩)
 . omega
 . grind
 omega
def wP(hj:j<A.n){p}(e:s.w j=.dn p):¬ki P A s (A.b+j):=by
 have:=A.hb;rintro(⟨e,_⟩|⟨l,a,c,d⟩)
 . omega
 grind
end
section
variable{P:Rg}{A:dq}{Fin:ZD}{Z:Base}{s:MS P}{f:Nat->Node P}{q:Ct}{kk:Zz}{OO:ZF}{J M:ZA}{gs:Da}{gsz:Nat}{w w':World}{t u:Trace}{j:Nat}{x:cL P}{sh:Mu.Sh}{g:YB}
variable(C:lH P A.ng)(X:mP P A.ng)
include C X in
def XC  z  (L:cZ (dG P A Fin Z z) Z s f q kk OO J M gs w t) (hj:j<A.n) (d:s.w j=.dn .d2) (hg:gs[A.b+j]?=some g) (N:N9 P A j (.dn .d2) (kk (A.b+j)) (OO (A.b+j)) g)  sl :
 Goes P A Fin Z z s gs w t sl (A.b+j):=by
 have r:fP P A Z s kk OO J M gs.size w t:=L.ex;have B:=cE (P:=P) (A:=A) (Fin:=Fin) (Z:=Z) z;have hb:=A.hb;have Q:(A.b+j==0)=false:=F2
 obtain⟨fw,fn,τ,todo,R,D,hM⟩:=N;obtain⟨g1,S,hr,g2,⟨k,E⟩,F⟩:=aeN (Wd:=qI A) (γ:=false) (w:=w) C X hM;obtain⟨x,o⟩:=S1 (.dn .d4:cL P);have c:(s.bW j x s.sh).w j=.dn .d4:=by rw[bV,o]
 have T:=sU (P:=P) (A:=A) (s:=s) hj d
 have u:Deaf t (A.b+j)=0:=by obtain⟨_,_,u,_⟩:=L.walk _ T;rw[u];show iy P A s (A.b+j)=0;rw[jG hj,d];rfl
 have G:=runT_crowd_go (P:=P) (sl:=sl) (i:=A.b+j) hg (by rw[Q];exact S)
 have H:dA P A s (A.b+j):=mV r.I hj (by rw[d];rfl)
 obtain⟨y1,y2,y3,y4⟩:=r.Tt (es:=#[⟨.mark .disable,false,true⟩]) (λe K=>by simp at K;subst K;exact .inl (.inl rfl)) H g.frame.fn g.frame.place
 have p:∀op∈MemOp.ofEvents (A.b+j) g.frame.fn g.frame.place #[⟨.mark .disable,false,true⟩],op.g=A.b+j:=λop v=>by obtain⟨e,_,rfl⟩:=zj v;rfl
 have U:∀op∈MemOp.ofEvents (A.b+j) g.frame.fn g.frame.place #[⟨.mark .disable,false,true⟩],op.act.touch?=none:=λop v=>by obtain⟨e,K,rfl⟩:=zj v;simp at K;subst K;rfl
 have hP:=L.eU.Y0 (i:=A.b+j) (w':=w) p rfl ⟨⟨.refl _,rfl⟩,λ_ _=>rfl⟩ (λb=>.inl rfl) y2 y1 (λm op a h1 h2 _=>by rw[U op (K9 h1)]at h2;cases h2)
 have hI:du A.n (s.bW j x s.sh):=r.I.CG hj (by rw[d];rfl) (by rw[o];rfl) (.inl (by rw[o,d];rfl)) (by rw[o];rfl) (by rw[o,d];rfl)
 have hL:MS.kS A.n (s.bW j x s.sh) s:=zM hj (by rw[o,d];simp[cL.eZ])
 have V:=r.DQ (x:=x) (sh:=s.sh) (w':=w) hj (by rw[o,d];rfl) (by rw[o,d];rfl) (λ_=>by rw[o,d];rfl) hI r.mu (λ_ _=>rfl) r.BZ y3
 have W:Beside (dG P A Fin Z z) s (s.bW j x s.sh) f f q (upd q (A.b+j) k) kk kk OO OO J J w (A.b+j) g g1:=wM z hj (by rw[o,d];rfl) (λi hi=>rfl) (λi hi=>upd_ne q k hi) (λ_ _ _=>rfl) (λ_ _ _=>rfl) (λ_ _ h=>h) (.inl λh=>h) (λ{i k O y} F=>B.qu (s:=s) (i:=i) (k:=k) (O:=O) (g:=y) F)
 refine⟨_,_,G,s.bW j x s.sh,f,upd q (A.b+j) k,kk,OO,J,M,_,_,_,rfl,hL,?_⟩;refine cZ.step B L hg p hP V (λl y Y F=>B.zf r Y _ _ F) W ⟨λY=>absurd Y (pZ hj c),λ_=>⟨pZ hj c,?_,?_,g2,?_,?_⟩,λhh=>absurd hh (wP hj c),λ_ hn _=>absurd (sU hj c) hn⟩
 . show A.b+j<A.b+A.n+1;omega
 . rw[Deaf_own,u]
   show _=iy P A (s.bW j x s.sh) (A.b+j);rw[jG hj,c];rfl
 . refine .inr (.inl ⟨j,hj,rfl,?_⟩)
   rw[c];exact⟨fw,fn,τ,todo,R,D,F⟩
 . exact .inr (by rw[upd_same];exact E)
end
section
variable{Z:Base}{kk:Zz}{OO:ZF}{J M:ZA}{w:World}{t:Trace}
def dX.cD(h:dX Z kk OO J M w t){i ad}(m:ad.block<w.heap.size)(hd:Deaf t i=0)  fn   pos :
 dX Z kk OO (λl=>J l/\l≠i) (λp=>M p\/p=t.size) w (t++MemOp.ofEvents i fn pos #[⟨.mark (.releaseMerge ad),false,true⟩]):=by
 obtain⟨u,r⟩:=S1 (MemOp.ofEvents i fn pos #[⟨.mark (.releaseMerge ad),false,true⟩]);have d:u=#[⟨i,fn,pos,.mark (.releaseMerge ad)⟩]:=by rw[r,ofEvents_eq];simp[MemAct.ofEvent]
 rw[<-r];have s:∀op∈u,op.act.touch?=none:=λop c=>by rw[d]at c;simp at c;subst c;rfl
 have f:∀op∈u,op.g=i:=am
 have o:u[0]?=some ⟨i,fn,pos,.mark (.releaseMerge ad)⟩:=am
 exact h.AO (λa b=>a=b) rfl ⟨⟨.refl _,rfl⟩,am⟩ (λb=>.inl rfl) (λop c=>by rw[d]at c;simp at c;subst c;simpa[MemAct.low]using m) (λa b e n y _ _ _ v=>by subst e;exact v.app u)
  am am am h.om
  (λsaid=>noRace_append (h.clean said) f am) am am
  (fun n a x z h=>h.elim (λ⟨j,q,k⟩=>by
    by_cases e:j=i
    . subst e;exact .inr (.inr (.inl ⟨t.size+0,.inr rfl,rq k o rfl⟩))
    . exact .inr (.inl ⟨j,⟨q,e⟩,k.app _⟩)) (λ⟨p,q,k⟩=>.inr (.inr (.inl ⟨p,.inl q,k.app _⟩))))
end
section
variable{P:Rg}{A:dq}{Fin:ZD}{Z:Base}{s:MS P}{f:Nat->Node P}{q:Ct}{kk:Zz}{OO:ZF}{J M:ZA}{gs:Da}{gsz:Nat}{w w':World}{t u:Trace}{j:Nat}{x:cL P}{sh:Mu.Sh}{g:YB}
def fP.cD(h:fP P A Z s kk OO J M gsz w t)(hj:j<A.n)(C:x.busy=false)(r:s.c=.none\/s.c=.jq\/∃q,s.c=.wt q)(hd:Deaf t (A.b+j)=0)(D:∃op,u[0]?=some op/\op.g=A.b+j/\op.act=.mark (.releaseMerge ⟨A.gb,0,none⟩))(v:qg u)(W:x.owns=(s.w j).owns)(L:x.mH=(s.w j).mH)(N:du A.n (s.bW j x sh))(E:ShM A.fb A.fo w' sh)
 (d:∀b,b≠A.fb->w'.heap[b]?=w.heap[b]?) (F:∃c e,w'.heap[A.fb]?=some (.cells c e (0,0))) (X:∀op∈u,(∀a,op.act.touch?=some a->a.kind=.atomic/\Fb A a.loc)/\∀a,op.act≠.mark (.release a)):
 fP P A Z (s.bW j x sh) kk OO (λl=>J l/\l≠A.b+j) (λp=>M p\/p=t.size) gsz w' (t++u):=by
 have hb:=A.hb;have B:∀l,((s.bW j x sh).w l).owns=(s.w l).owns:=(by grind [bV,dW])
 refine⟨N,h.size,h.dd,h.off,h.Mm (λhd l _=>⟨?_,B l⟩) am,λhd=>by rw[d _ A.d1];exact h.Gq hd,E,h.gr.same (.of_heap (d _ (vj A.d4))),F,by rw[d _ (vj A.d4)];exact h.Fx,h.lq,h.jr,λi y O=>?_,λl Q G=>h.Fy l Q am,λG=>h.Wj am,λc H=>?_,
  λi=>?_,λp I=>?_,λH=>?_,h.pW u (λop K a R _ S=>?_),h.vm u (λop K a R _ S=>?_),h.wJ u,h.oO u am,h.JX,h.zc,h.px,h.jT,h.la,by simp;exact FL h.n0 (Iq _ _)⟩
 . grind [bV,dW]
 . obtain⟨l,f,k,o,z,T⟩:=h.tok i y O
   exact⟨l,f,k,o,am,T⟩
 . obtain⟨k,o⟩:=h.Wk c H
   grind
 . rw [h.hJ i]
   constructor
   . rintro⟨⟨l,k,o,z⟩|⟨k,o⟩,U⟩
     . exact .inl ⟨l,k,o,by rw[dW ac];exact z⟩
     . exact .inr ⟨k,o⟩
   . rintro (⟨l,k,o,z⟩|⟨k,o⟩)
     . by_cases e:l=j
       . grind [bV]
       . rw[dW e]at z;exact⟨.inl ⟨l,k,o,z⟩,ac⟩
     . exact⟨.inr ⟨k,o⟩,ac⟩
 . rcases I with I|rfl
   . exact h.B1 u p I
   . obtain⟨op,V,Y,e3⟩:=D
     refine⟨heard_new (m:=0) v V am,h.n0,.inl ⟨?_,r⟩⟩
     grind [act?_of,kV]
 . obtain⟨p,k,o,z⟩:=h.sR u H
   grind
 . grind
 grind
variable(C:lH P A.ng)(X:mP P A.ng)
include C X in
def XD  E  (Q:cZ (dG P A Fin Z E) Z s f q kk OO J M gs w t) (hj:j<A.n) (m:s.w j=.dn .d1) (hg:gs[A.b+j]?=some g) (R:N9 P A j (.dn .d1) (kk (A.b+j)) (OO (A.b+j)) g)  sl :
 Goes P A Fin Z E s gs w t sl (A.b+j):=by
 have v:fP P A Z s kk OO J M gs.size w t:=Q.ex;have B:=cE (P:=P) (A:=A) (Fin:=Fin) (Z:=Z) E;have hb:=A.hb;have S:(A.b+j==0)=false:=F2
 obtain⟨fw,fn,τ,todo,T,F,hM⟩:=R;obtain⟨g1,U,hr,g2,⟨k,G⟩,H⟩:=aeM (Wd:=qI A) (γ:=false) (w:=w) C X hM;obtain⟨x,u⟩:=S1 (.dn .d2:cL P);have d:(s.bW j x s.sh).w j=.dn .d2:=by rw[bV,u]
 have V:=sU (P:=P) (A:=A) (s:=s) hj m
 have o:Deaf t (A.b+j)=0:=by obtain⟨_,_,o,_⟩:=Q.walk _ V;rw[o];show iy P A s (A.b+j)=0;rw[jG hj,m];rfl
 have K:=runT_crowd_go (P:=P) (sl:=sl) (i:=A.b+j) hg (by rw[S];exact U)
 have a7:dA P A s (A.b+j):=mV v.I hj (by rw[m];rfl)
 have L:∀op∈MemOp.ofEvents (A.b+j) g.frame.fn g.frame.place #[⟨.mark (.releaseMerge ⟨A.gb,0,none⟩),false,true⟩],op.g=A.b+j:=λop r=>by obtain⟨e,_,rfl⟩:=zj r;rfl
 have y3:∀op∈MemOp.ofEvents (A.b+j) g.frame.fn g.frame.place #[⟨.mark (.releaseMerge ⟨A.gb,0,none⟩),false,true⟩],(∀a,op.act.touch?=some a->a.kind=.atomic/\Fb A a.loc)/\∀a,op.act≠.mark (.release a):=λop r=>by obtain⟨e,N,rfl⟩:=zj r;simp at N;subst N;exact⟨λa ha=>by simp[MemAct.ofEvent,MemAct.touch?]at ha,λa h=>by simp[MemAct.ofEvent]at h⟩
 have z:qg (MemOp.ofEvents (A.b+j) g.frame.fn g.frame.place #[⟨.mark (.releaseMerge ⟨A.gb,0,none⟩),false,true⟩]):=λop r=>by obtain⟨e,N,rfl⟩:=zj r;simp at N;subst N;simp[MemAct.ofEvent]
 have hG:A.gb<w.heap.size:=by obtain⟨c,e,h1⟩:=v.Fx;exact(CS.1 h1).1
 have hP:=Q.eU.cD (i:=A.b+j) (ad:=⟨A.gb,0,none⟩) hG o g.frame.fn g.frame.place
 have D:s.c=.none\/s.c=.jq\/∃q,s.c=.wt q:=by
  cases e:s.c with
  |none=>exact .inl rfl
  |jq=>exact .inr (.inl rfl)
  |wt p=>exact .inr (.inr ⟨p,rfl⟩)
  |oI=>have:=(v.I.g8 (by rw[e];rfl)).2.2.2 j hj;rw[m]at this;cases this
  |gone=>have:=(v.I.g8 (by rw[e];rfl)).2.2.2 j hj;rw[m]at this;cases this
 have hI:du A.n (s.bW j x s.sh):=v.I.CG hj (by rw[m];rfl) (by rw[u];rfl) (.inl (by rw[u,m];rfl)) (by rw[u];rfl) (by rw[u,m];rfl)
 have hL:MS.kS A.n (s.bW j x s.sh) s:=zM hj (by rw[u,m];simp[cL.eZ])
 have W:=v.cD (x:=x) (sh:=s.sh) (w':=w) hj (by rw[u];rfl) D o ⟨⟨A.b+j,g.frame.fn,g.frame.place,.mark (.releaseMerge ⟨A.gb,0,none⟩)⟩,by rw[ofEvents_eq];simp[MemAct.ofEvent],rfl,rfl⟩ z (by rw[u,m];rfl) (by rw[u,m];rfl) hI v.mu (λ_ _=>rfl) v.BZ y3
 have Y:Beside (dG P A Fin Z E) s (s.bW j x s.sh) f f q (upd q (A.b+j) k) kk kk OO OO J (λl=>J l/\l≠A.b+j) w (A.b+j) g g1:=wM E hj (by rw[u,m];rfl) (λi hi=>rfl) (λi hi=>upd_ne q k hi) (λ_ _ _=>rfl) (λ_ _ _=>rfl) (λ_ hn h=>⟨h,hn⟩) (.inl λh=>h) (λ{i k O y} H=>B.qu (s:=s) (i:=i) (k:=k) (O:=O) (g:=y) H)
 refine⟨_,_,K,s.bW j x s.sh,f,upd q (A.b+j) k,kk,OO,(λl=>J l/\l≠A.b+j),(λp=>M p\/p=t.size),_,_,_,rfl,hL,?_⟩
 refine cZ.step B Q hg L hP W (λl y hl H=>B.zf v hl _ _ H) Y ⟨λhl=>absurd hl (pZ hj d),λ_=>⟨pZ hj d,?_,?_,g2,?_,?_⟩,λhh=>absurd hh (wP hj d),λ_ hn _=>absurd (sU hj d) hn⟩
 . show A.b+j<A.b+A.n+1;omega
 . rw[Deaf_own,o]
   show _=iy P A (s.bW j x s.sh) (A.b+j);rw[jG hj,d];rfl
 . refine .inr (.inl ⟨j,hj,rfl,?_⟩)
   rw[d];exact⟨fw,fn,τ,todo,T,F,H⟩
 . exact .inr (by rw[upd_same];exact G)
end
section
variable{P:Rg}{A:dq}{Fin:ZD}{Z:Base}{s s':MS P}{f f':Nat->Node P}{q q':Ct}{kk kk':Zz}{OO OO':ZF}{J J' M:ZA}{gs:Da}{gsz:Nat}{w w':World}{t u:Trace}{i:Nat}{g g1:YB}
theorem DU{c:pw}:c.jO=true↔c=.gone:=by cases c<;>simp[pw.jO]
theorem DV{c:pw}:c.isNone=true↔c=.none:=by cases c<;>simp[pw.isNone]
def fP.acQ{M'}(h:fP P A Z s kk OO J M gsz w t)(E:jU A s s' i)(a8:∀l,l<A.n->(s'.w l).owns=(s.w l).owns)(a9:∀l,l<A.n->(s'.w l).mH=(s.w l).mH)(C:Cs P A s')(z:s'.c.jO=s.c.jO)(b:s'.c.isNone=s.c.isNone)
 (H:∀p,M' p->M p) (ab:s.c=.gone->∀p,M p->M' p) (I:(∃p,M' p)->(s.c=.none\/s.c=.jq\/∃q,s.c=.wt q)->(s'.c=.none\/s'.c=.jq\/∃q,s'.c=.wt q)) (K:∀i,jf P A s' i↔jf P A s i) (hI:du A.n s') (L:s'.sh=s.sh) (N:xZ A.gb w' s'.gc s'.gv s'.gm) (O:MW A.gb 0 w w')
 (hu:∀op∈u,(∀a,op.act.touch?=some a->(a.kind=.atomic\/(a.kind=.said/\op.g=(if s.c.isNone then 0 else A.cl)))/\Fb A a.loc)/\∀a,op.act≠.mark (.release a)):fP P A Z s' kk OO J M' gsz w' (t++u):=by
 obtain⟨m1,Q,c,e,c',m3,m4,_⟩:=vo O h.Fx
 have r:∀i,dA P A s' i->dA P A s i:=λi B=>by
  rcases B with R|⟨j,k,o⟩|⟨k,o⟩
  . exact .inl R
  . exact .inr (.inl ⟨j,by rw[<-E.sp];omega,o⟩)
  . refine .inr (.inr ⟨k,λe=>o ?_⟩)
    grind [DV]
 have S:∀i,dA P A s i->dA P A s' i:=λi B=>by
  rcases B with R|⟨j,k,o⟩|⟨k,o⟩
  . exact .inl R
  . exact .inr (.inl ⟨j,by rw[E.sp];omega,o⟩)
  . refine .inr (.inr ⟨k,λe=>o ?_⟩)
    grind [DV]
 have T:s'.c=.gone↔s.c=.gone:=by grind [DU]
 refine⟨hI,by rw[E.sp,b];exact h.size,by rw[E.d];exact h.dd,C,h.Mm am am,λhd=>by rw[Q _ A.d2,z];exact h.Gq hd,by rw[L];exact h.mu.same (.of_heap (Q _ A.d4)),N,by rw[Q _ A.d4];exact h.BZ,am,h.lq,h.jr,λi y hy=>?_,λl hl U=>h.Fy l hl am,λU=>h.Wj am,λc V=>?_,
  λi=>by rw[h.hJ i];grind,λp hp=>?_,λV=>(by
   obtain⟨p,k,o,v⟩:=h.sR u (T.1 V)
   grind),λm a F W G i B=>h.pW u (λop ad a F _ G=>?_) m a F W G i (r i B),λm a F W G=>?_,λi B=>h.wJ u i (r i B),h.oO u am,λi X hn=>h.JX i X am,h.zc,h.px,h.jT,h.la,by simp;exact FL h.n0 (Iq _ _)⟩
 . obtain⟨l,f,v,D,h5,h6⟩:=h.tok i y hy
   exact⟨l,f,v,D,am,h6⟩
 . obtain⟨v,D⟩:=h.Wk c V
   grind
 . obtain⟨k,o,v⟩:=h.B1 u p (H p hp)
   refine⟨k,o,?_⟩;rcases v with⟨v,D⟩|⟨v,D⟩
   . exact .inl ⟨v,I ⟨p,hp⟩ D⟩
   grind
 . grind
 . rw[b]
   obtain⟨x,hx,Y⟩:=touch_of F;rcases getElem?_append_cases hx with⟨hl,al⟩|⟨_,a7⟩
   . exact(h.said m a (by grind [touchAt_of]) W G).app u
   . rcases((hu x a7).1 a Y).1 with k|⟨_,k⟩
     . grind
     . rw[<-k];exact⟨m,x,hx,rfl,.inl rfl⟩
def fP.BV(h:fP P A Z s kk OO J M gsz w t)(r:jU A s s' i)(f:∀l,l<A.n->(s'.w l).owns=(s.w l).owns)(k:∀l,l<A.n->(s'.w l).mH=(s.w l).mH)(j:Cs P A s')(b:s'.c.jO=s.c.jO)(d:s'.c.isNone=s.c.isNone)
 (v:(s.c=.none\/s.c=.jq\/∃q,s.c=.wt q)->(s'.c=.none\/s'.c=.jq\/∃q,s'.c=.wt q)) (e:∀i,jf P A s' i↔jf P A s i) (x:du A.n s') (m:s'.sh=s.sh) (o:xZ A.gb w' s'.gc s'.gv s'.gm) (p:MW A.gb 0 w w')
 (y:∀op∈u,(∀a,op.act.touch?=some a->(a.kind=.atomic\/(a.kind=.said/\op.g=(if s.c.isNone then 0 else A.cl)))/\Fb A a.loc)/\∀a,op.act≠.mark (.release a)):fP P A Z s' kk OO J M gsz w' (t++u):=
 h.acQ r f k j b d am am am e x m o p y
def Z7(b:Nat)(es:KP):Prop:=∀e∈es,((e.loc=.mark .disable\/e.loc=.mark .enable)\/∃i,(i=0\/i=0+1)/\e.loc=.cell ⟨b,i,none⟩/\e.sync=true)\/∃i,(i=0\/i=1)/\(e.loc=.mark (.read ⟨b,i,none⟩)\/e.loc=.mark (.write ⟨b,i,none⟩))
def Z8{b es}(h:EvM b 0 es):Z7 b es:=λe a=>.inl (h e a)
def Tu(kk:Zz)(OO:ZF)(B:Nat)(t:Trace)(i:Nat)(u:Trace):Prop:=∀op∈u,∀a,op.act.touch?=some a->(a.kind=.atomic\/a.kind=.said)/\(a.loc.isMemory=true->RV kk OO B a.loc)/\∀n b,touchAt t n=some b->b.loc=a.loc->(b.kind=.plain\/(a.kind=.said/\b.kind=.said))->Knows t i n
def dX.Tt(h:dX Z kk OO J M w t)(d:∀op∈u,op.g=i)(s:w'.heap.size=w.heap.size)(v:Calm Z w w')(hb:∀b,Kept kk OO w w' b)(y:∀op∈u,op.act.low w.heap.size)(q:Tu kk OO w.heap.size t i u)
 (l:∀m op a,u[m]?=some op->op.act.touch?=some a->a.loc.isMemory=true->Told Z J M (t++u) (t.size+m) a):dX Z kk OO J M w' (t++u):=
 h.AO (λa b=>a=b) s v hb y (λa b e n x _ _ _ z=>by subst e;exact z.app u) am am am h.om
  (fun said=>noRace_append (h.clean said) d λn a o op c b hb A=>by
    obtain⟨f,k,B⟩:=q op c b hb;obtain⟨C,_,_,D⟩:=A
    grind)
  (λop c a o r=>(q op c a o).2.1 r) l
  (λn a o r h=>h.elim (λ⟨j,f,k⟩=>.inr (.inl ⟨j,f,k.app _⟩)) (λ⟨p,f,k⟩=>.inr (.inr (.inl ⟨p,f,k.app _⟩))))
def qV{b e}(he:((e.loc=.mark .disable\/e.loc=.mark .enable)\/∃i,(i=0\/i=0+1)/\e.loc=.cell ⟨b,i,none⟩/\e.sync=true)\/∃i,(i=0\/i=1)/\(e.loc=.mark (.read ⟨b,i,none⟩)\/e.loc=.mark (.write ⟨b,i,none⟩))):
 (∀a,(MemAct.ofEvent e).touch?=some a->(a.kind=.atomic\/a.kind=.said)/\∃i,(i=0\/i=1)/\a.loc=.cell ⟨b,i,none⟩)/\(∀a,MemAct.ofEvent e≠.mark (.release a))/\∀B,b<B->(MemAct.ofEvent e).low B:=by
 rcases he with he|⟨i,f,he⟩
 . obtain⟨g,h,j⟩:=uy he
   grind
 . obtain⟨loc,wr,k⟩:=e
   rcases he with he|he<;>simp  at he<;>subst he
   all_goals
    refine⟨λa c=>?_,by simp[MemAct.ofEvent],λB d=>by simpa[MemAct.ofEvent,MemAct.low]using d⟩;simp  [MemAct.ofEvent,MemAct.touch?]at c;exact am
def H6  K  (W:cZ (dG P A Fin Z K) Z s f q kk OO J M gs w t) (N:dA P A s i) (X:¬ki P A s i) (hg:gs[i]?=some g){es}(Y:stepG P (i==0) g w=.go g1 w' es)
 (hS:jU A s s' i) (Q:∀l,l<A.n->(s'.w l).owns=(s.w l).owns) (a7:∀l,l<A.n->(s'.w l).mH=(s.w l).mH) (R:Cs P A s') (E:s'.c.jO=s.c.jO) (F:s'.c.isNone=s.c.isNone) (a8:(s.c=.none\/s.c=.jq\/∃q,s.c=.wt q)->(s'.c=.none\/s'.c=.jq\/∃q,s'.c=.wt q)) (G:∀i,jf P A s' i↔jf P A s i)
 (hI:du A.n s') (a9:s'.sh=s.sh) (ab:xZ A.gb w' s'.gc s'.gv s'.gm) (x:MW A.gb 0 w w') (r:EvM A.gb 0 es\/(Z7 A.gb es/\i=(if s.c.isNone then 0 else A.cl))) (hL:MS.kS A.n s' s)
 (hT:(i=0\/J i)\/(EvM A.gb 0 es/\∀  m   op   a ,(MemOp.ofEvents i g.frame.fn g.frame.place es)[m]?=some op->op.act.touch?=some a->Z.na a.loc->a.kind=.atomic->Told Z J M (t++MemOp.ofEvents i g.frame.fn g.frame.place es) (t.size+m) a))
 (al:(s.gm=0->s'.gm=0)\/(mayWake P g=true/\(g1.status=.running\/g1.status=.finished))) (hf:∀j,j≠i->f' j=f j) (hq:∀j,j≠i->q' j=q j)
 (hs:Self P (dG P A Fin Z K) s' f' q' kk OO J (t++MemOp.ofEvents i g.frame.fn g.frame.place es) i g1)  sl :Goes P A Fin Z K s gs w t sl i:=by
 have z:fP P A Z s kk OO J M gs.size w t:=W.ex;have B:=cE (P:=P) (A:=A) (Fin:=Fin) (Z:=Z) K;have S:=runT_crowd_go (P:=P) (sl:=sl) (i:=i) hg Y;have hG:A.gb<w.heap.size:=by obtain⟨c,e,D⟩:=z.Fx;grind
 have o:Z7 A.gb es:=r.elim Z8 (·.1);have u:∀op∈MemOp.ofEvents i g.frame.fn g.frame.place es,op.g=i:=(by grind [Go.Conc.mem_ofEvents])
 have H:∀op∈MemOp.ofEvents i g.frame.fn g.frame.place es,∀a,op.act.touch?=some a->a.kind=.atomic\/(a.kind=.said/\op.g=(if s.c.isNone then 0 else A.cl)):=λop d a C=>by
  obtain⟨e,p,rfl⟩:=zj d
  rcases r with r|⟨_,hi⟩
  . exact .inl ((uy (r e p)).1 a C).1
  . rcases((qV (o e p)).1 a C).1 with h|h
    . grind
    grind
 have y1:Tu kk OO w.heap.size t i (MemOp.ofEvents i g.frame.fn g.frame.place es):=λop d a C=>by
  have av:=H op d a C;have ax:=u op d;obtain⟨e,p,rfl⟩:=zj d;obtain⟨D,n,hn,v⟩:=(qV (o e p)).1 a C;have ay:Fb A a.loc:=by rw[v];exact⟨rfl,am⟩
  refine⟨D,λ_=>by rw[v];exact z.Y3 hn,λm b hb V L=>?_⟩
  rcases L with L|⟨aC,ad⟩
  . exact z.quiet m b hb am L i N
  . have h5:=z.said m b hb am ad
    grind
 have y2:∀op∈MemOp.ofEvents i g.frame.fn g.frame.place es,op.act.low w.heap.size:=λop d=>by obtain⟨e,p,rfl⟩:=zj d;exact(qV (o e p)).2.2 _ hG
 have y3:∀op∈MemOp.ofEvents i g.frame.fn g.frame.place es,(∀a,op.act.touch?=some a->(a.kind=.atomic\/(a.kind=.said/\op.g=(if s.c.isNone then 0 else A.cl)))/\Fb A a.loc)/\∀a,op.act≠.mark (.release a):=λop d=>⟨λa C=>⟨am,by
  obtain⟨e,p,rfl⟩:=zj d;obtain⟨_,n,hn,v⟩:=(qV (o e p)).1 a C;rw[v];exact⟨rfl,am⟩⟩,by
  obtain⟨e,p,rfl⟩:=zj d;exact(qV (o e p)).2.1⟩
 have y4:∀op∈MemOp.ofEvents i g.frame.fn g.frame.place es,∀a,op.act.touch?=some a->Z.na a.loc:=λop d a C=>by obtain⟨e,p,rfl⟩:=zj d;obtain⟨D,n,hn,v⟩:=(qV (o e p)).1 a C;rw[v];exact z.zc _ am ⟨_,rfl,rfl⟩
 obtain⟨m1,m2,c,e,c',m3,m4,_⟩:=vo x z.Fx
 have hP:=W.eU.Tt (i:=i) u m1 (z.acO x) (z.acP x) y2 y1 (λm op a D v _=>by
  rcases hT with hJ|⟨r,hT⟩
  . have L:Knows (t++MemOp.ofEvents i g.frame.fn g.frame.place es) i (t.size+m):=knows_own D am
    rcases hJ with rfl|hJ
    . exact .inl L
    . exact .inr (.inl ⟨i,hJ,L⟩)
  . refine hT m op a D v (y4 op (K9 D) a v) ?_
    obtain⟨e,p,rfl⟩:=zj (K9 D);exact((uy (r e p)).1 a v).1)
 have T:fP P A Z s' kk OO J M gs.size w' (t++MemOp.ofEvents i g.frame.fn g.frame.place es):=z.BV hS Q a7 R E F a8 G hI a9 ab x y3
 have I:Beside (dG P A Fin Z K) s s' f f' q q' kk kk OO OO J J w' i g g1:=r8 K hS hf hq am am am am (λ{i k O y} hA=>B.qu (s:=s) (i:=i) (k:=k) (O:=O) (g:=y) hA)
 refine⟨_,_,S,s',f',q',kk,OO,J,M,_,_,_,rfl,hL,?_⟩;refine cZ.step B W hg u hP T (λl y V hA=>?_) I hs
 have U:l≠i:=λe=>X (e ▸ V)
 exact B.zf T ((I.held l U).2 V) _ _ (I.atC l _ _ _ U V hA)
theorem Oc{g}:∀m,m<=u.size->(∀l op,l<m->u[l]?=some op->op.act≠.mark .enable)->Deaf t g<=(t++u).deaf g (t.size+m)
 |0,_,_=>by show Deaf t g<=(t++u).deaf g t.size;rw[deaf_old (AK _)];exact AK _
 | m+1,h,b=>by
   have a:(t++u)[t.size+m]?=some u[m]:=am
   have c:=Oc (g:=g) m ac am;rw[<-Nat.add_assoc,deaf_succ a];unfold deafStep
   grind
def afZ{es fn pos}(hd:1<=Deaf t i)(u:∀  m   op   a ,(MemOp.ofEvents i fn pos es)[m]?=some op->op.act.touch?=some a->∀(l:Nat)  b ,l<m->(MemOp.ofEvents i fn pos es)[l]?=some b->b.act≠.mark .enable):∀  m   op   a ,(MemOp.ofEvents i fn pos es)[m]?=some op->op.act.touch?=some a->Z.na a.loc->a.kind=.atomic->Told Z J M (t++MemOp.ofEvents i fn pos es) (t.size+m) a:=λm op a d f h j=>by
 refine RDI (i:=i) d f h j λk=>?_
 obtain⟨x,n,_,c⟩:=k;rw[act?_of (kV d)]at n;rcases c with c|⟨o,p,q⟩
 . grind
 . have r:op.g=i:=by obtain⟨e,_,rfl⟩:=zj (K9 d);rfl
   have:o=i:=by
    have s:(t++MemOp.ofEvents i fn pos es).g? (t.size+m)=some op.g:=by simp[Trace.g?,kV d]
    grind
   grind [Oc]
end
end
section
open Go.Conc
open Go.ConcN (sumTo upd sumTo_upd upd_ne upd_same)
variable{P:Rg}
def MS.mW(s:MS P)(j:Nat)(x:cL P)(gc gv gm:Nat):MS P:={s with w:=λi=>if i=j then x else s.w i,gc:=gc,gv:=gv,gm:=gm}
section
variable{s:MS P}{j n:Nat}{x:cL P}{gc gv gm:Nat}
theorem dt:(s.mW j x gc gv gm).w j=x:=by simp[MS.mW]
theorem gW{i}(h:i≠j):(s.mW j x gc gv gm).w i=s.w i:=by simp[MS.mW,h]
def XE:(λi=>((s.mW j x gc gv gm).w i).pc)=Mu.set (λi=>(s.w i).pc) j x.pc:=by grind [dt,Mu.aj,gW,Mu.ah]
def J9(F:cL P->Nat)(hj:j<n):sumTo n (λi=>F ((s.mW j x gc gv gm).w i))+F (s.w j)=sumTo n (λi=>F (s.w i))+F x:=by
 have e:(λi=>F ((s.mW j x gc gv gm).w i))=upd (λi=>F (s.w i)) j (F x):=by grind [dt,upd_same,gW,upd_ne]
 have:=sumTo_upd (λi=>F (s.w i)) (F x) id hj
 simp_all
def du.don(I:du n s)(hj:j<n){p}(b:s.w j=.dn p)(m:x.ok=true)(d:x.oJ=false)(q:x≠.wait)(f:x.pc=.out)
 (A:gc+(s.w j).cnt=s.gc+x.cnt) (r:gv<=1) (g:gv=1->s.c.waits=true/\gm=0)
 (t:∀i,i<n->((s.mW j x gc gv gm).w i=.dn .d5\/(s.mW j x gc gv gm).w i=.dn .d6)->gv=1/\gc=0)
 (k:∀i l,i<n->l<n->((s.mW j x gc gv gm).w i).last=true->((s.mW j x gc gv gm).w l).last=true->i=l)
 (u:∀i,i<n->(s.mW j x gc gv gm).w i=.dn .d7->gv=0/\gc=0/\gm=0/\s.c.waits=true)
 (v:gm<=1/\(gm=1->s.c.waits=true/\gv=0/\gc=0/\∀i,i<n->((s.mW j x gc gv gm).w i).last=false))
 (y:s.c.waits=true->gv=0->gm=0->∃i,i<n/\(s.mW j x gc gv gm).w i=.dn .d7)
 (z:gv=1->gc=0->∃i,i<n/\((s.mW j x gc gv gm).w i=.dn .d5\/(s.mW j x gc gv gm).w i=.dn .d6)):du n (s.mW j x gc gv gm):=by
 refine⟨?_,r,g,t,k,u,v,y,z,λh=>?_,I.g9,λi a=>?_,I.okc,I.sp,λi a=>?_,?_,λhd h i a=>?_,?_⟩
 . have o:=J9 (s:=s) (x:=x) (gc:=gc) (gv:=gv) (gm:=gm) cL.cnt hj
   have:=I.g1;show gc=sumTo n (λi=>((s.mW j x gc gv gm).w i).cnt)+s.ms.pend;omega
 . have:=(I.g8 h).2.2.2 j hj
   grind
 . by_cases e:i=j
   . grind [dt]
   . rw[gW e];exact I.ok i a
 . by_cases e:i=j
   . subst e
     rw[dt,d];have:=I.idle i a;rw[b]at this;exact this
   . rw[gW e];exact I.idle i a
 . have:=I.ms
   show match s.ms with
   |.add l=>s.sp+l=n/\s.c=.none
   |.cY l p=>s.sp+l=n/\s.c=.none/\1<=l/\(p=.a0\/p=.a2\/p=.a4\/p=.ae)
   |.spawn l=>s.sp+l+1=n/\s.c=.none
   |.recv=>s.sp=n/\s.c≠.none
   |.parked=>s.sp=n/\s.c≠.none/\s.c≠.gone/\∀i,i<n->(s.mW j x gc gv gm).w i≠.wait
   |.off=>s.sp=n/\s.c≠.none
   cases e:s.ms with
   |parked=>grind [dt,gW]
   |_=>rw[e]at this;exact this
 . have:=I.early hd h j hj
   rw[b]at this;cases this
 . rw[XE,f]
   have e:=oP (λi=>(s.w i).pc) j;rw[show(s.w j).pc=.out by rw[b];rfl]at e;rw[e];exact I.mu
inductive H7(s:MS P):NX->cL P->Nat->Nat->ZA
 |d4l:s.gc=1->s.gv=1->H7 s .d4 (.dn .d5) 0 1 s.gm
 |d4 (k:Nat):s.gc=k+1 -> ¬(k=0/\s.gv=1)->H7 s .d4 .gone k s.gv s.gm
 |d5:H7 s .d5 (.dn .d6) s.gc s.gv s.gm
 |d6:H7 s .d6 (.dn .d7) s.gc 0 s.gm
 |d7:H7 s .d7 .gone s.gc s.gv (s.gm+1)
def du.done(I:du n s)(hj:j<n){p}(b:s.w j=.dn p)(h:H7 s p x gc gv gm):du n (s.mW j x gc gv gm):=by
 have Tv:∀{i:Nat},(s.w i).last=true->s.w i=.dn .d5\/s.w i=.dn .d6\/s.w i=.dn .d7:=λ{i} h=>by
  cases e:s.w i with
  |dn p=>cases p<;>simp_all [cL.last]
  |_=>rw[e]at h;simp[cL.last]at h
 have o:∀{i:Nat},i<n->(s.w i).last=true->s.gc=0:=λ{i} a h=>by
  rcases Tv h with h|h|h
  . exact(I.g3 i a (.inl h)).2
  . exact(I.g3 i a (.inr h)).2
  . exact(I.g4 i a h).2.1
 cases h with
 | d4l q v=>
   refine I.don hj b rfl rfl ap rfl (by rw[b,q];rfl) ac (λ_=>I.pL v) ac (λi l a d h f=>?_) (λi a h=>?_) ⟨I.g5.1,λh=>?_⟩ ac (by grind [dt])
   . grind [gW]
   . by_cases e:i=j
     . grind [dt]
     . rw[gW e]at h;have:=(I.g4 i a h).2.1;omega
   . have:=(I.g5.2 h).2.1;omega
 | d4 k q v=>
   refine I.don hj b rfl rfl ap rfl (by rw[b,q];rfl) I.g2 I.pL (λi a h=>?_) (λi l a d h f=>?_) (λi a h=>?_) ⟨I.g5.1,λh=>?_⟩ (λh f r=>?_) ac
   . by_cases e:i=j
     . grind [dt]
     . rw[gW e]at h;have:=(I.g3 i a h).2;omega
   . grind [dt,gW]
   . by_cases e:i=j
     . grind [dt]
     . rw[gW e]at h;have:=(I.g4 i a h).2.1;omega
   . have:=(I.g5.2 h).2.2.1;omega
   . obtain⟨i,a,z⟩:=I.g6 h f r
     have:=(I.g4 i a z).2.1;omega
 | d5=>
   obtain⟨t,y⟩:=I.g3 j hj (.inl b);obtain⟨m,m0⟩:=I.pL t
   have c:∀{i:Nat},((s.mW j (.dn .d6) s.gc s.gv s.gm).w i).last=(s.w i).last:=λ{i}=>by
    by_cases e:i=j
    . subst e;rw[dt,b];rfl
    . rw[gW e]
   refine I.don hj b rfl rfl ap rfl (by rw[b];rfl) I.g2 I.pL ac (λi l a d h f=>?_) (λi a h=>?_) ⟨I.g5.1,λh=>?_⟩ ac (by grind [dt])
   . rw[c]at h f;exact I.Cq i l a d h f
   . by_cases e:i=j
     . grind [dt]
     . rw[gW e]at h;exact I.g4 i a h
   omega
 | d6=>
   obtain⟨t,y⟩:=I.g3 j hj (.inr b);obtain⟨m,m0⟩:=I.pL t;have d:(s.w j).last=true:=by rw[b];rfl
   have c:∀{i:Nat},((s.mW j (.dn .d7) s.gc 0 s.gm).w i).last=(s.w i).last:=λ{i}=>by
    by_cases e:i=j
    . subst e;rw[dt,b];rfl
    . rw[gW e]
   refine I.don hj b rfl rfl ap rfl (by rw[b];rfl) ac ac (λi a h=>?_) (λi l a d h f=>?_) am ⟨I.g5.1,ac⟩ (by grind [dt]) ac
   . by_cases e:i=j
     . grind [dt]
     . rw[gW e]at h
       have u:(s.w i).last=true:=by rcases h with h|h<;>rw[h]<;>rfl
       exact absurd (I.Cq i j a hj u d) e
   . rw[c]at h f;exact I.Cq i l a d h f
 | d7=>
   obtain⟨B,y,m0,m⟩:=I.g4 j hj b;have d:(s.w j).last=true:=by rw[b];rfl
   have g:∀{i:Nat},i<n->((s.mW j .gone s.gc s.gv (s.gm+1)).w i).last=false:=λ{i} a=>by
    by_cases e:i=j
    . subst e;rw[dt];rfl
    . rw[gW e]
      cases A:(s.w i).last with
      |false=>rfl
      |true=>exact absurd (I.Cq i j a hj A d) e
   refine I.don hj b rfl rfl ap rfl (by rw[b];rfl) I.g2 ac (λi a h=>?_) (λi l a d h f=>?_) (λi a h=>?_) ⟨ac,am⟩ ac ac
   . have:=g a
     rcases h with h|h<;>rw[h]at this<;>cases this
   . grind
   grind
def pw.Z9(c:pw)  a b :c.eZ a<=c.eZ b+2:=by
 cases c with
 | wt p=>
   cases p with
   |w2 k=>simp  [pw.eZ];grind
   |_=>simp[pw.eZ]
 |_=>simp[pw.eZ]
def NoP(hj:j<n){p}(d:s.w j=.dn p)(h:H7 s p x gc gv gm):MS.kS n (s.mW j x gc gv gm) s:=by
 have e:=J9 (s:=s) (x:=x) (gc:=gc) (gv:=gv) (gm:=gm) cL.eZ hj;refine .inl ?_;show s.ms.eZ+sumTo n _+s.c.eZ gc<s.ms.eZ+sumTo n _+s.c.eZ s.gc;rw[d]at e;have:=pw.Z9 s.c gc s.gc;cases h with
 |d4l f g=>have a:(cL.dn (P:=P) .d4).eZ=10:=rfl;have b:(cL.dn (P:=P) .d5).eZ=4:=rfl;omega
 |d4 k f g=>have a:(cL.dn (P:=P) .d4).eZ=10:=rfl;have b:(cL.gone (P:=P)).eZ=0:=rfl;omega
 |d5=>have a:(cL.dn (P:=P) .d5).eZ=4:=rfl;have b:(cL.dn (P:=P) .d6).eZ=3:=rfl;omega
 |d6=>have a:(cL.dn (P:=P) .d6).eZ=3:=rfl;have b:(cL.dn (P:=P) .d7).eZ=2:=rfl;omega
 |d7=>have a:(cL.dn (P:=P) .d7).eZ=2:=rfl;have b:(cL.gone (P:=P)).eZ=0:=rfl;omega
end
end
section
open Go.Conc
open Go.ConcN (sumTo upd sumTo_upd upd_ne upd_same)
theorem abz{e}(h:MemAct.ofEvent e=.mark .enable):e.loc=.mark .enable:=by
 obtain⟨loc,wr,a⟩:=e;cases loc with
 |mark m=>cases m<;>simp_all [MemAct.ofEvent]
 |cell b=>simp[MemAct.ofEvent]at h
 |obj r=>cases wr<;>cases a<;>simp[MemAct.ofEvent]at h
 |_=>simp[MemAct.ofEvent]at h
def sV{i fn pos es}(h:∀e∈es,e.loc≠.mark .enable):∀  m   op   a ,(MemOp.ofEvents i fn pos es)[m]?=some op->op.act.touch?=some a->∀(l:Nat)  b ,l<m->(MemOp.ofEvents i fn pos es)[l]?=some b->b.act≠.mark .enable:=λm op a _ _ l b _ c d=>by
 obtain⟨e,f,rfl⟩:=zj (K9 c)
 grind [abz]
def CVU{i fn pos ad}:∀  m   op   a ,(MemOp.ofEvents i fn pos (semEvents ad))[m]?=some op->op.act.touch?=some a->∀(l:Nat)  c ,l<m->(MemOp.ofEvents i fn pos (semEvents ad))[l]?=some c->c.act≠.mark .enable:=λm op a d f l c e b=>by
 rw[ofEvents_eq]at d b;simp  [semEvents]at d b
 match m,l,e with
 |0,l,e=>omega
 |1,0,_=>simp at b;subst b;simp[MemAct.ofEvent]
 |2,0,_=>simp at b;subst b;simp[MemAct.ofEvent]
 |2,1,_=>simp at b;subst b;simp[MemAct.ofEvent]
 |3,l,_=>simp at d;subst d;simp[MemAct.ofEvent,MemAct.touch?]at f
 |m+4,l,_=>simp at d
def vq:∀  n  {F},(∀l,l<n->F l<=1)->sumTo n F<=n
 |0,_,_=>AK _
 | n+1,F,h=>by
   have a:=vq n (F:=F) am;have b:=h n ac;simp  [sumTo];omega
section
variable{P:Rg}{A:dq}{Fin:ZD}{Z:Base}{s:MS P}{f:Nat->Node P}{q:Ct}{kk:Zz}{OO:ZF}{J M:ZA}{gs:Da}{w w':World}{t u:Trace}{j:Nat}{x:cL P}{gc gv gm:Nat}{g g1:YB}
def afW{p}(h:H7 s p x gc gv gm):x.mU=true/\x.owns=false/\x.busy=false/\(cL.dn (P:=P) p).busy=false/\(cL.dn (P:=P) p).deaf=1/\(x=.gone\/∃a,x=.dn a/\x.deaf=1)/\x.mH=true:=by cases h<;>simp[cL.mU,cL.owns,cL.busy,cL.deaf,cL.mH]
def zN  r  (D:cZ (dG P A Fin Z r) Z s f q kk OO J M gs w t) (hj:j<A.n){p}(d:s.w j=.dn p) (T:gs[A.b+j]?=some g){es}(U:stepG P false g w=.go g1 w' es) (E:H7 s p x gc gv gm)
 (F:xZ A.gb w' gc gv gm) (G:MW A.gb 0 w w') (u:EvM A.gb 0 es) (V:deafBehind 1 es=1)
 (W:∀  m   op   a ,(MemOp.ofEvents (A.b+j) g.frame.fn g.frame.place es)[m]?=some op->op.act.touch?=some a->∀(l:Nat)  v ,l<m->(MemOp.ofEvents (A.b+j) g.frame.fn g.frame.place es)[l]?=some v->v.act≠.mark .enable)
 (y:(s.gm=0->gm=0)\/(mayWake P g=true/\(g1.status=.running\/g1.status=.finished)))
 (X:(∃B,x=.dn B/\∃n C,n8 P (qI A) n g1 C/\N9 P A j (.dn B) (kk (A.b+j)) (OO (A.b+j)) C)\/(x=.gone/\∃m,QuitsD P m 1 g1))  sl :Goes P A Fin Z r s gs w t sl (A.b+j):=by
 have H:fP P A Z s kk OO J M gs.size w t:=D.ex;have hb:=A.hb;have Y:(A.b+j==0)=false:=am
 obtain⟨f1,f2,f3,f4,f5,f6,f7⟩:=afW E;have K:=sU (P:=P) (A:=A) (s:=s) hj d
 have a7:Deaf t (A.b+j)=1:=by
  obtain⟨_,_,L,_⟩:=D.walk _ K;rw[L];show iy P A s (A.b+j)=1
  grind [jG]
 have c:(s.mW j x gc gv gm).w j=x:=dt;have k:∀l,((s.mW j x gc gv gm).w l).busy=(s.w l).busy:=(by grind [gW])
 have hS:jU A s (s.mW j x gc gv gm) (A.b+j):=⟨(by grind [gW]),λ_=>rfl,λ_=>rfl,rfl,rfl,.inl λl _=>by
  by_cases e:l=j
  . subst e;rw[dt,d,f1];rfl
  . rw[gW e]⟩
 have hI:=H.I.done hj d E;have hL:=NoP hj d E;have N:∀fn pos,Deaf (t++MemOp.ofEvents (A.b+j) fn pos es) (A.b+j)=1:=(by grind [Deaf_own])
 have go:∀(O:Nat),Self P (dG P A Fin Z r) (s.mW j x gc gv gm) f (upd q (A.b+j) O) kk OO J (t++MemOp.ofEvents (A.b+j) g.frame.fn g.frame.place es) (A.b+j) g1->Goes P A Fin Z r s gs w t sl (A.b+j):=λO o=>
  H6 r D (mV H.I hj (by rw[d];rfl)) (wP hj d) T am hS (λl _=>by
   by_cases e:l=j
   . subst e;rw[dt,d,f2];rfl
   . rw[gW e]) (λl _=>by
   by_cases e:l=j
   . subst e;rw[dt,d,f7];rfl
   . rw[gW e]) H.off rfl rfl id (λi=>by unfold jf;simp only[k];rfl) hI rfl F G (.inl u) hL (.inr ⟨u,afZ ac W⟩) y am (by grind [upd_ne]) o sl
 rcases X with⟨B,rfl,n,C,z,a8⟩|⟨rfl,m,hq⟩
 . refine go n ⟨λhl=>absurd hl (pZ hj c),λ_=>⟨pZ hj c,?_,?_,C,?_,?_⟩,λhh=>absurd hh (wP hj c),λ_ hn _=>absurd (sU hj c) hn⟩
   . show A.b+j<A.b+A.n+1;omega
   . rw[N]
     show 1=iy P A (s.mW j (.dn B) gc gv gm) (A.b+j)
     grind [jG]
   . exact .inr (.inl ⟨j,hj,rfl,aq⟩)
   . exact .inr (by rw[upd_same];exact z)
 . have nl:¬gV P A (s.mW j .gone gc gv gm) (A.b+j):=by
    rintro(⟨e,_⟩|⟨l,Q,R,S⟩|⟨e,_⟩)
    . omega
    . grind
    omega
   have nw:¬ln P A (s.mW j .gone gc gv gm) (A.b+j):=by
    rintro(⟨e,_⟩|⟨l,Q,R,S⟩|⟨e,_⟩)
    . omega
    . grind
    omega
   have nh:¬ki P A (s.mW j .gone gc gv gm) (A.b+j):=by
    rintro(⟨e,_⟩|⟨l,Q,R,S⟩)
    . omega
    grind
   exact go m ⟨λh=>absurd h nl,λh=>absurd h nw,λh=>absurd h nh,(by grind [upd_same])⟩
variable(C:lH P A.ng)(X:mP P A.ng)
def XF{n b ν cs g}(C:lH P n)(X:mP P n)(h:ya P n b ν .d7 cs g):mayWake P g=true:=by
 obtain⟨c,y,fr,f,⟨rfl,l⟩,m,i,j,rfl⟩:=h;have d:=L0 (y:=y) (a:=true) aq;obtain⟨e,k⟩:=C.d9 b _;rw[d]at e k;exact H4 i e X.uV
include C X in
def XG  y  (B:cZ (dG P A Fin Z y) Z s f q kk OO J M gs w t) (hj:j<A.n){p}(r:s.w j=.dn p) (E:gs[A.b+j]?=some g) (L:N9 P A j (.dn p) (kk (A.b+j)) (OO (A.b+j)) g)  sl :Goes P A Fin Z y s gs w t sl (A.b+j):=by
 have z:fP P A Z s kk OO J M gs.size w t:=B.ex;have N:=z.I.ok j hj;rw[r]at N;have D:=L;obtain⟨fw,fn,τ,todo,F,u,O⟩:=L;have v:=z.gr;have hn:=A.hn;have nx:∀{p' g1},mQ P A.ng A.gb .deferred (qI A) p' [qo P fw τ todo,fy P] g1->∃n g2,n8 P (qI A) n g1 g2/\N9 P A j (.dn p') (kk (A.b+j)) (OO (A.b+j)) g2:=λ⟨_,g2,⟨n,hs⟩,hA⟩=>⟨n,g2,hs,fw,fn,τ,todo,F,u,hA⟩
 have cell:∀(i:Nat),(i=0\/i=1)->∀wr,EvM A.gb 0 #[⟨.cell ⟨A.gb,i,none⟩,wr,true⟩]:=λi hi wr e d=>by simp at d;subst d;exact .inr ⟨i,by simpa using hi,rfl,rfl⟩
 have x:EvM A.gb 0 #[⟨.cell ⟨A.gb,0,none⟩,false,true⟩,⟨.cell ⟨A.gb,0,none⟩,true,true⟩]:=λe d=>by simp at d;rcases d with rfl|rfl<;>exact .inr ⟨0,.inl rfl,rfl,rfl⟩
 have Q:EvM A.gb 0 (semEvents ⟨A.gb,1,none⟩):=λe d=>by
  simp[semEvents]at d
  rcases d with rfl|rfl|rfl|rfl
  . exact .inl (.inl rfl)
  . exact .inr ⟨1,.inr rfl,rfl,rfl⟩
  . exact .inr ⟨1,.inr rfl,rfl,rfl⟩
  . exact .inl (.inr rfl)
 have R:∀l,l<A.n->(s.w l).cnt<=1:=λl _=>by
  cases e:s.w l with
  |dn p=>cases p<;>simp[cL.cnt]
  |_=>simp[cL.cnt]
 cases p<;>simp only[cL.ok,zA]at N
 case d1=>exact XD C X y B hj r E D sl
 case d2=>exact XC C X y B hj r E D sl
 case d4=>
  have a7:1<=s.gc:=by
   have h1:=z.I.g1;have:(s.w j).cnt<=sumTo A.n (λj=>(s.w j).cnt):=Go.ConcN.le_sumTo (f:=λj=>(s.w j).cnt) hj
   rw[r]at this;have e:(cL.dn (P:=P) .d4).cnt=1:=rfl;omega
  have a8:s.gc<=A.n+1:=by
   have h1:=z.I.g1;have h2:sumTo A.n (λj=>(s.w j).cnt)<=A.n:=vq A.n R
   have h3:s.ms.pend<=1:=by cases s.ms<;>simp[vW.pend];split<;>omega
   omega
  obtain⟨k,U⟩:∃k,s.gc=k+1:=⟨s.gc-1,ac⟩
  have a:=v;rw[U]at a;obtain⟨g1,w',o,rfl,c,G⟩:=aeO (Wd:=qI A) (γ:=false) C X F u a ac z.I.g2 O
  have H:MW A.gb 0 w (w.setCell ⟨A.gb,0,none⟩ (.int .u64 (ju k s.gv))):=⟨⟨.refl _,rfl⟩,.inr ⟨0,_,.inl rfl,rfl,rfl⟩⟩
  rcases G with⟨V,hv,S⟩|⟨W,Y⟩
  . subst V
    rw[hv]at c o H;exact zN y B hj r E o (.d4l U hv) c H x rfl (sV (λe d=>by simp at d;rcases d with rfl|rfl<;>simp)) (.inl id) (.inl ⟨_,rfl,nx S⟩) sl
  . exact zN y B hj r E o (.d4 k U W) c H x rfl (sV (λe d=>by simp at d;rcases d with rfl|rfl<;>simp)) (.inl id) (.inr ⟨rfl,Y⟩) sl
 case d5=>obtain⟨v1,K⟩:=z.I.g3 j hj (.inl r);have a:=v;rw[v1,K]at a;obtain⟨g1,o,S⟩:=aeP (Wd:=qI A) (γ:=false) C X a O;exact zN y B hj r E o .d5 v (cH rfl) (cell 0 (.inl rfl) false) rfl (sV (λe d=>by simp at d;subst d;simp)) (.inl id) (.inl ⟨_,rfl,nx S⟩) sl
 case d6=>obtain⟨v1,K⟩:=z.I.g3 j hj (.inr r);have a:=v;rw[v1,K]at a;obtain⟨g1,w',o,rfl,c,S⟩:=aeQ (Wd:=qI A) (γ:=false) C X a O;exact zN y B hj r E o .d6 (by rw[K];exact c) (⟨⟨.refl _,rfl⟩,.inr ⟨0,_,.inl rfl,rfl,rfl⟩⟩) (cell 0 (.inl rfl) true) rfl (sV (λe d=>by simp at d;subst d;simp)) (.inl id) (.inl ⟨_,rfl,nx S⟩) sl
 case d7=>
  obtain⟨v0,K,m0,a9⟩:=z.I.g4 j hj r;have a:=v;rw[v0,K]at a;have ab:=z.I.g5.1;obtain⟨g1,w',o,rfl,c,Y⟩:=aeR (Wd:=qI A) (γ:=false) C X F u a ac O
  obtain⟨m,hq⟩:=Y;have T:g1.status=.running\/g1.status=.finished:=by rcases hq.status with h|h<;>simp[h]
  exact zN y B hj r E o .d7 (by rw[K,v0];exact c) (⟨⟨.refl _,rfl⟩,.inr ⟨1,_,.inr rfl,rfl,rfl⟩⟩) Q rfl CVU (.inr ⟨XF C X O,T⟩) (.inr ⟨rfl,m,hq⟩) sl
end
end
section
open Go.Conc
open Go.ConcN (sumTo upd sumTo_upd upd_ne upd_same)
variable{P:Rg}
def MS.sc(s:MS P)(c:pw)(gv gm:Nat):MS P:={s with c:=c,gv:=gv,gm:=gm}
section
variable{s:MS P}{n:Nat}{c:pw}{gv gm:Nat}
def Tv{x:cL P}(h:x.last=true):x=.dn .d5\/x=.dn .d6\/x=.dn .d7:=by
 cases x with
 |dn p=>cases p<;>simp_all [cL.last]
 |_=>simp[cL.last]at h
def du.calm(I:du n s)(h:s.c.waits=false):s.gv=0/\s.gm=0/\∀j,j<n->(s.w j).last=false:=by
 have b:s.gv=0:=by
  have:=I.g2;by_cases e:s.gv=1
  . have:=(I.pL e).1;grind
  omega
 refine⟨b,?_,λj a=>?_⟩
 . have:=I.g5.1
   by_cases e:s.gm=1
   . have:=(I.g5.2 e).1;grind
   omega
 . cases e:(s.w j).last with
   |false=>rfl
   | true=>
     rcases Tv e with e|e|e
     . have:=(I.g3 j a (.inl e)).1;omega
     . have:=(I.g3 j a (.inr e)).1;omega
     . have:=(I.g4 j a e).2.2.2;grind
def du.acS(I:du n s)(h:s.c≠.none):s.sp=n:=by
 have:=I.ms
 grind
def du.Ka(I:du n s)(h:s.c≠.none)(g:s.gc=0)(f:∀j,j<n->(s.w j).last=false):∀j,j<n->s.w j=.gone:=λj a=>by
 have i:=I.g1;have k:(s.w j).cnt<=sumTo n (λj=>(s.w j).cnt):=(by grind [Go.ConcN.le_sumTo]);have b:=I.idle j a;rw[I.acS h]at b;have l:=f j a;have m:=I.ok j a;have d:(s.w j).cnt=0:=ac
 cases e:s.w j with
 |idle=>rw[e]at b;have:=b.1 rfl;omega
 |dn p=>cases p<;>simp_all [cL.last,cL.ok,cL.cnt]
 |gone=>rfl
 |_=>rw[e]at d;simp[cL.cnt]at d
inductive yB(s:MS P):pw->pw->Nat->ZA
 |call:yB s .jq (.wt .w0) s.gv s.gm
 |w0:yB s (.wt .w0) (.wt .w1) s.gv s.gm
 |w1z:s.gc=0->yB s (.wt .w1) (.wt .we) s.gv s.gm
 |w1:s.gc≠0->yB s (.wt .w1) (.wt (.w2 s.gc)) s.gv s.gm
 |w2h:yB s (.wt (.w2 s.gc)) (.wt .w3) 1 s.gm
 |w2m (k:Nat):s.gc≠k->yB s (.wt (.w2 k)) (.wt .w1) s.gv s.gm
 |w3:yB s (.wt .w3) (.wt .w4) s.gv s.gm
 |w4:s.gm≠0->yB s (.wt .w4) (.wt .w5) s.gv (s.gm-1)
 |w5:yB s (.wt .w5) (.wt .we) s.gv s.gm
 |we:yB s (.wt .we) (.wt .wa) s.gv s.gm
 |wa:yB s (.wt .wa) .oI s.gv s.gm
def du.XH(I:du n s)(v:s.c≠.none)(a:c≠.none)(e:c≠.gone)(b:c.ok=true)(f:gv<=1)(d:gv=1->c.waits=true/\gm=0)
 (g:∀j,j<n->(s.w j=.dn .d5\/s.w j=.dn .d6)->gv=1/\s.gc=0) (m:∀j,j<n->s.w j=.dn .d7->gv=0/\s.gc=0/\gm=0/\c.waits=true)
 (o:gm<=1/\(gm=1->c.waits=true/\gv=0/\s.gc=0/\∀j,j<n->(s.w j).last=false)) (q:c.waits=true->gv=0->gm=0->∃j,j<n/\s.w j=.dn .d7)
 (r:gv=1->s.gc=0->∃j,j<n/\(s.w j=.dn .d5\/s.w j=.dn .d6)) (t:c.Tl=true->s.gc=0/\gv=0/\gm=0/\∀j,j<n->s.w j=.gone) (u:∀k,c=.wt (.w2 k)->k≠0):du n (s.sc c gv gm):=by
 refine⟨I.g1,f,d,g,I.Cq,m,o,q,r,t,u,I.ok,b,I.sp,I.idle,?_,λ_ h=>absurd h a,I.mu⟩;have:=I.ms
 show match s.ms with
  |.add l=>s.sp+l=n/\c=.none
  |.cY l p=>s.sp+l=n/\c=.none/\1<=l/\(p=.a0\/p=.a2\/p=.a4\/p=.ae)
  |.spawn l=>s.sp+l+1=n/\c=.none
  |.recv=>s.sp=n/\c≠.none
  |.parked=>s.sp=n/\c≠.none/\c≠.gone/\∀i,i<n->s.w i≠.wait
  |.off=>s.sp=n/\c≠.none
 grind
def du.clo(I:du n s){d}(i:s.c=d)(h:yB s d c gv gm):du n (s.sc c gv gm):=by
 have calm:d.waits=false->c.waits=false->d≠.none->c≠.none->c≠.gone->c.ok=true->gv=s.gv->gm=s.gm->(c.Tl=true->s.gc=0)->(∀k,c=.wt (.w2 k)->k≠0)->du n (s.sc c gv gm):=by
  intro y z A q r t u v p l;subst u v;obtain⟨g,m0,b⟩:=I.calm am
  have e:s.c≠.none:=am
  refine I.XH e q r t I.g2 ac I.g3 (λj a h=>?_) ⟨ac,ac⟩ am I.g7 (λh=>⟨p h,g,m0,I.Ka e (p h) b⟩) l
  have:=b j a;rw[h]at this;cases this
 have g8:d.Tl=true->s.gc=0:=λh=>(I.g8 am).1
 cases h with
 |call=>exact calm rfl rfl ap ap ap rfl rfl rfl (λh=>by cases h) am
 |w0=>exact calm rfl rfl ap ap ap rfl rfl rfl (λh=>by cases h) am
 |w1z m=>exact calm rfl rfl ap ap ap rfl rfl rfl ac am
 |w1 m=>exact calm rfl rfl ap ap ap rfl rfl rfl (λh=>by cases h) am
 |w2m k m=>exact calm rfl rfl ap ap ap rfl rfl rfl (λh=>by cases h) am
 |w5=>exact calm rfl rfl ap ap ap rfl rfl rfl (λ_=>g8 rfl) am
 |we=>exact calm rfl rfl ap ap ap rfl rfl rfl (λ_=>g8 rfl) am
 |wa=>exact calm rfl rfl ap ap ap rfl rfl rfl (λ_=>g8 rfl) am
 | w2h=>
   obtain⟨g,m0,b⟩:=I.calm (by rw[i];rfl)
   have B:=I.g9 s.gc i;refine I.XH am ap ap rfl ac (λ_=>⟨rfl,m0⟩) (λj a h=>?_) (λj a h=>?_) ac ac ac (λh=>by cases h) am
   . have:=(I.g3 j a h).1;omega
   . have:=b j a;rw[h]at this;cases this
 | w3=>
   have w:s.c.waits=true:=by rw[i];rfl
   refine I.XH am ap ap rfl I.g2 (λh=>⟨rfl,(I.pL h).2⟩) I.g3 (λj a h=>?_) ⟨I.g5.1,λh=>⟨rfl,(I.g5.2 h).2⟩⟩ (λ_=>I.g6 w) I.g7 (λh=>by cases h) am
   have:=I.g4 j a h;exact⟨this.1,this.2.1,this.2.2.1,rfl⟩
 | w4 m=>
   have o:s.gm=1:=by have:=I.g5.1;omega
   obtain⟨x,g,f,b⟩:=I.g5.2 o;have e:s.c≠.none:=am
   refine I.XH e ap ap rfl I.g2 ac I.g3 (λj a h=>?_) ⟨ac,ac⟩ (λh=>by cases h) I.g7 (λ_=>⟨f,g,ac,I.Ka e f b⟩) am
   have:=b j a;rw[h]at this;cases this
def Kb{a}(b:s.c=a)(h:yB s a c gv gm):MS.kS n (s.sc c gv gm) s:=by
 refine .inl ?_;show s.ms.eZ+sumTo n (λi=>(s.w i).eZ)+c.eZ s.gc<s.ms.eZ+sumTo n _+s.c.eZ s.gc;rw[b]
 have:c.eZ s.gc<a.eZ s.gc:=by
  cases h with
  |w2m k d=>simp  [pw.eZ];grind
  |_=>simp[pw.eZ]
 omega
end
end
open Go.Conc
open Go.ConcN (sumTo upd sumTo_upd upd_ne upd_same)
section
variable{P:Rg}{A:dq}{Fin:ZD}{Z:Base}{s:MS P}{f:Nat->Node P}{q:Ct}{kk:Zz}{OO:ZF}{J M:ZA}{gs:Da}{w w':World}{t u:Trace}{c:pw}{p:NX}{gv gm:Nat}{g g1:YB}
theorem Bl(e:s.c=.wt p):ln P A s A.cl:=.inr (.inr ⟨rfl,aq⟩)
theorem H8{A:dq}(h:A.cl=0):A.dir=true:=by simp[dq.dir,h]
def XI(hd:A.dir=false)(h:s.ms≠.off):Cs P A s:=⟨am,am,λ_=>h⟩
theorem H9(b:Cs P A s)(e:s.c=.wt p):¬gV P A s A.cl:=by
 have:=A.hb;rintro(⟨h,a⟩|⟨l,d,f,a⟩|⟨_,a⟩)
 . grind [H8]
 . omega
 grind
theorem xA(b:Cs P A s):¬ki P A s A.cl:=by
 have:=A.hb;rintro(⟨h,a⟩|⟨l,c,d,a⟩)
 . grind [H8]
 omega
theorem zO(a:Cs P A s)(e:s.c=.wt p):iy P A s A.cl=zK p:=by
 have:=A.hb;unfold iy;by_cases h:A.cl=0
 . simp_all [H8]
 grind
def Od(h:s.c≠.none):dA P A s A.cl:=.inr (.inr ⟨rfl,h⟩)
def CV2{a}(h:yB s a c gv gm):a.jO=false/\c.jO=false/\a.isNone=false/\c.isNone=false/\a.busy=true/\c.busy=true:=by cases h<;>simp[pw.jO,pw.isNone,pw.busy]
def Tw:jU A s (s.sc c gv gm) A.cl:=⟨λ_ _ _=>rfl,ac,λ_=>rfl,rfl,rfl,.inl λ_ _=>rfl⟩
def tB  u  (E:cZ (dG P A Fin Z u) Z s f q kk OO J M gs w t){F}(v:s.c=F) (x:yB s F (.wt p) gv gm){d}(hd:Deaf t A.cl=d) (G:gs[A.cl]?=some g){es}(y:stepG P A.dir g w=.go g1 w' es)
 (z:xZ A.gb w' s.gc gv gm) (B:MW A.gb 0 w w') (H:Z7 A.gb es) (C:deafBehind d es=zK p) (j:s.gm=0->gm=0)
 (K:∃n m,n8 P (qI A) n g1 m/\Ls P A Fin (.wt p) (kk A.cl) (OO A.cl) m)  sl :Goes P A Fin Z u s gs w t sl A.cl:=by
 have a:fP P A Z s kk OO J M gs.size w t:=E.ex;have hb:=A.hb;obtain⟨f1,Q,R,S,L,T⟩:=CV2 x;have o:s.c.isNone=false:=am
 have k:s.c≠.none:=λe=>by rw[e]at o;cases o
 obtain⟨n,m,l,D⟩:=K;have h:(s.sc (.wt p) gv gm).c=.wt p:=rfl;have r:Cs P A (s.sc (.wt p) gv gm):=⟨λhd _=>a.off.1 hd k,λhd=>⟨(a.off.2.1 hd).1,(a.off.2.1 hd).2.1,am,am,am⟩,a.off.2.2⟩
 have hJ:J A.cl:=(a.hJ _).2 (.inr ⟨rfl,aq⟩)
 refine H6 (s':=s.sc (.wt p) gv gm) (f':=f) (q':=upd q A.cl n) u E (Od k) (xA a.off) G y Tw (λ_ _=>rfl) (λ_ _=>rfl) r am am am (λi=>?_) (a.I.clo v x) rfl z B am (Kb v x) am (.inl j) am (by grind [upd_ne]) ?_ sl
 . unfold jf
   rw[v,L];rfl
 . refine⟨λN=>absurd N (H9 r h),λ_=>⟨H9 r h,?_,?_,m,?_,?_⟩,λO=>absurd O (xA r),λ_ o _=>absurd (Bl h) o⟩
   . show A.cl<A.b+A.n+1;omega
   . rw[Deaf_own,hd,C]
     show _=iy P A (s.sc (.wt p) gv gm) A.cl
     grind [zO]
   . exact .inr (.inr ⟨rfl,D⟩)
   . exact .inr (by rw[upd_same];exact l)
variable(C:lH P A.ng)(X:mP P A.ng)
include C X in
def XJ  v  (x:cZ (dG P A Fin Z v) Z s f q kk OO J M gs w t) (u:s.c=.wt p) (Q:p≠.wa) (B:gs[A.cl]?=some g) (R:Ls P A Fin (.wt p) (kk A.cl) (OO A.cl) g)  sl :
 Goes P A Fin Z v s gs w t sl A.cl\/Mp P A s gs w sl A.cl g:=by
 have F:fP P A Z s kk OO J M gs.size w t:=x.ex;have G:=F.I.okc;rw[u]at G;obtain⟨W,μ,D,hT⟩:=R;have d:=F.gr;have hn:=A.hn;have hb:=A.hb;have N:CallKind.normal≠CallKind.early:=be
 have nx:∀{Y g1},mQ P A.ng A.gb .normal (qI A) Y (W::μ) g1->∃n O,n8 P (qI A) n g1 O/\Ls P A Fin (.wt Y) (kk A.cl) (OO A.cl) O:=λ⟨_,O,⟨n,hs⟩,hA⟩=>⟨n,O,hs,W,μ,hA,hT⟩
 have cell:∀wr,Z7 A.gb #[⟨.cell ⟨A.gb,0,none⟩,wr,true⟩]:=λwr e r=>by simp at r;subst r;exact .inl (.inr ⟨0,.inl rfl,rfl,rfl⟩)
 have hd:Deaf t A.cl=zK p:=by obtain⟨_,_,S,_⟩:=x.walk _ (Bl u);rw[S];show iy P A s A.cl=_;rw[zO F.off u]
 have y:s.c.waits=false->s.gv=0:=λh=>(F.I.calm h).1
 have H:∀l,l<A.n->(s.w l).cnt<=1:=λl _=>by
  cases e:s.w l with
  |dn p=>cases p<;>simp[cL.cnt]
  |_=>simp[cL.cnt]
 have a7:s.gc<=A.n+1:=by
  have h1:=F.I.g1;have h2:sumTo A.n (λj=>(s.w j).cnt)<=A.n:=vq A.n H
  have h3:s.ms.pend<=1:=by cases s.ms<;>simp[vW.pend];split<;>omega
  omega
 cases p<;>simp only[pw.ok,zA]at G
 case w0=>obtain⟨g1,a,m⟩:=aeS (Wd:=qI A) (γ:=A.dir) (w:=w) C X D N;exact .inl (tB v x u .w0 hd B a d (cH rfl) (λe r=>by simp at r;subst r;exact .inl (.inl (.inl rfl))) rfl id (nx m) sl)
 case w1=>
  have K:=y (by rw[u];rfl)
  have b:=d;rw[K]at b;obtain⟨g1,a,m⟩:=aeT (Wd:=qI A) (γ:=A.dir) C X b ac D
  rcases m with⟨T,m⟩|⟨T,m⟩
  . exact .inl (tB v x u (.w1z T) hd B a d (cH rfl) (cell false) rfl id (nx m) sl)
  . exact .inl (tB v x u (.w1 T) hd B a d (cH rfl) (cell false) rfl id (nx m) sl)
 case we=>
  obtain⟨g1,a,m⟩:=aeU (Wd:=qI A) (γ:=A.dir) (w:=w) C X (λw h=>h.1) D N
  exact .inl (tB v x u .we hd B a d (cH rfl) (λe r=>by simp at r;subst r;exact .inl (.inl (.inr rfl))) rfl id (nx m) sl)
 case wa=>exact absurd rfl Q
 case w2 k=>
  have K:=y (by rw[u];rfl)
  have b:=d;rw[K]at b
  rcases aeV (Wd:=qI A) (γ:=A.dir) C X (λw h=>h.2.1) b D with⟨E,g1,w',a,rfl,z,m⟩|⟨E,g1,a,m⟩
  . subst E
    exact .inl (tB v x u .w2h hd B a z (⟨⟨.refl _,rfl⟩,.inr ⟨0,_,.inl rfl,rfl,rfl⟩⟩) (λe r=>by simp at r;rcases r with rfl|rfl<;>exact .inl (.inr ⟨0,.inl rfl,rfl,rfl⟩)) rfl id (nx m) sl)
  . exact .inl (tB v x u (.w2m k E) hd B a d (cH rfl) (cell false) rfl id (nx m) sl)
 case w3=>obtain⟨g1,a,m⟩:=aeW (Wd:=qI A) (γ:=A.dir) (w:=w) C X D N;exact .inl (tB v x u .w3 hd B a d (cH rfl) (λe r=>by simp at r;subst r;exact .inr ⟨1,.inr rfl,.inr rfl⟩) rfl id (nx m) sl)
 case w4=>
  by_cases L:s.gm=0
  . right
    have b:=d;rw[L]at b;have a:=acr (γ:=A.dir) C X b D;refine⟨.inr ⟨rfl,u,L⟩,?_⟩;have h:=runT_crowd_go (P:=P) (sl:=sl) (i:=A.cl) B a
    have U:woken P g {g with status:=.blocked} w=id:=funext λo=>by unfold Go.Conc.woken;simp
    rw[U,Array.map_id]at h;exact h
  . left
    obtain⟨g1,w',a,rfl,z,m⟩:=aeX (Wd:=qI A) (γ:=A.dir) C X d L D N
    exact tB v x u (.w4 L) hd B a z (⟨⟨.refl _,rfl⟩,.inr ⟨1,_,.inr rfl,rfl,rfl⟩⟩) (λe r=>by
     simp[semEvents]at r
     rcases r with rfl|rfl|rfl|rfl
     . exact .inl (.inl (.inl rfl))
     . exact .inl (.inr ⟨1,.inr rfl,rfl,rfl⟩)
     . exact .inl (.inr ⟨1,.inr rfl,rfl,rfl⟩)
     . exact .inl (.inl (.inr rfl))) rfl (λh=>absurd h L) (nx m) sl
 case w5=>
  obtain⟨V,K,m0,_⟩:=F.I.g8 (by rw[u];rfl)
  have b:=d;rw[V,K]at b;obtain⟨g1,a,m⟩:=aeY (Wd:=qI A) (γ:=A.dir) C X b D;exact .inl (tB v x u .w5 hd B a d (cH rfl) (cell false) rfl id (nx m) sl)
end
section
variable{Z:Base}{kk:Zz}{OO:ZF}{J M:ZA}{w:World}{t:Trace}
def dX.acT(h:dX Z kk OO J M w t){i ad}(z:J i)(o:ad.block<w.heap.size)(hd:Deaf t i=0)(A:∀p,M p->t.heard p/\Z.N0<=p/\t.act? p=some (.mark (.releaseMerge ad)))
 (B:∀m a,Z.N0<=m->t.act? m≠some (.mark (.release a)))  fn   pos :
 dX Z kk OO J (λ_=>False) w (t++MemOp.ofEvents i fn pos #[⟨.mark (.acquire ad),false,true⟩]):=by
 obtain⟨u,v⟩:=S1 (MemOp.ofEvents i fn pos #[⟨.mark (.acquire ad),false,true⟩]);have f:u=#[⟨i,fn,pos,.mark (.acquire ad)⟩]:=by rw[v,ofEvents_eq];simp[MemAct.ofEvent]
 rw[<-v];have C:∀op∈u,op.act.touch?=none:=λop c=>by rw[f]at c;simp at c;subst c;rfl
 have l:∀op∈u,op.g=i:=am
 have q:u[0]?=some ⟨i,fn,pos,.mark (.acquire ad)⟩:=am
 have d:qg u:=λop c=>am
 have x:∀k,Z.N0<=k->∀a,(t++u).act? k≠some (.mark (.release a)):=(by grind [xy])
 exact h.AO (λa b=>a=b) rfl ⟨⟨.refl _,rfl⟩,am⟩ (λb=>.inl rfl) (λop c=>by rw[f]at c;simp at c;subst c;simpa[MemAct.low]using o) (λa b e n y _ _ _ D=>by subst e;exact D.app u)
  am am am h.om
  (λsaid=>noRace_append (h.clean said) l am) am am
  (λn a G H h=>h.elim (λ⟨j,r,s⟩=>.inr (.inl ⟨j,r,s.app _⟩)) (λ⟨p,r,s⟩=>by obtain⟨E,I,F⟩:=A p r;exact .inr (.inl ⟨i,z,tx (y:=⟨i,fn,pos,.mark (.acquire ad)⟩) d q rfl hd F E am s⟩)))
end
section
variable{P:Rg}{A:dq}{Fin:ZD}{Z:Base}{s:MS P}{f:Nat->Node P}{q:Ct}{kk:Zz}{OO:ZF}{J M:ZA}{gs:Da}{w w':World}{t u:Trace}{c:pw}{p:NX}{gv gm:Nat}{g g1:YB}
theorem Bm(e:s.c=.oI\/s.c=.jq):gV P A s A.cl:=.inr (.inr ⟨rfl,am⟩)
def Oe(hd:A.dir=false)(e:s.c=.oI\/s.c=.jq):¬ln P A s A.cl:=by
 have:=A.hb;have:=BY hd;rintro(⟨e,_⟩|⟨l,b,d,a⟩|⟨_,a⟩)
 . omega
 . omega
 grind
def Of(hd:A.dir=false)(e:s.c≠.jq):eF P A Fin s A.cl=zJ P A:=by
 have:=A.hb;have:=BY hd;unfold eF
 grind
theorem Og(hd:A.dir=false)(e:s.c=.jq):eF P A Fin s A.cl=DN P A:=by
 have:=A.hb;have:=BY hd;unfold eF
 grind
def Y4{x}:Xs P A s A.cl x:=λj h X a b _=>by have:=A.hb;omega
variable(C:lH P A.ng)(X:mP P A.ng)
include C X in
def XK  v  (F:cZ (dG P A Fin Z v) Z s f q kk OO J M gs w t) (o:s.c=.wt .wa) (V:gs[A.cl]?=some g) (G:Ls P A Fin (.wt .wa) (kk A.cl) (OO A.cl) g) (d:A.dir=false)  sl :
 Goes P A Fin Z v s gs w t sl A.cl:=by
 have j:fP P A Z s kk OO J M gs.size w t:=F.ex;have B:=cE (P:=P) (A:=A) (Fin:=Fin) (Z:=Z) v;obtain⟨c0,μ,hM,W⟩:=G;rw[wN (by rw[d];simp)]at W
 have a7:=BY d;have hb:=A.hb;have H:(A.cl==0)=false:=F2
 obtain⟨g1,K,hr,⟨k,x⟩⟩:=R1 (Wd:=λ_=>True) (γ:=false) (w:=w) C X hM be
 obtain⟨tr⟩:=T.tree (P:=P) (m:=zJ P A) rfl (W _ (az.Le.refl _));obtain⟨T,_⟩:=TT.pre x tr;have z:=runT_crowd_go (P:=P) (sl:=sl) (i:=A.cl) V (by rw[H];exact K)
 have L:=Bl (P:=P) (A:=A) o
 have hd:Deaf t A.cl=0:=by obtain⟨_,_,N,_⟩:=F.walk _ L;rw[N];show iy P A s A.cl=_;rw[zO j.off o];rfl
 have hJ:J A.cl:=(j.hJ _).2 (.inr ⟨rfl,by rw[o];rfl⟩)
 have hG:A.gb<w.heap.size:=by obtain⟨c,e,Q⟩:=j.Fx;exact(CS.1 Q).1
 have hP:=F.eU.acT (i:=A.cl) (ad:=⟨A.gb,0,none⟩) hJ hG hd (λp D=>by
  obtain⟨Q,h2,u⟩:=j.hM p D
  rcases u with⟨u,_⟩|⟨u,_⟩
  . exact⟨Q,h2,u⟩
  . rw[o]at u;cases u) j.norel g.frame.fn g.frame.place
 have E:∀op∈MemOp.ofEvents A.cl g.frame.fn g.frame.place #[⟨.mark (.acquire ⟨A.gb,0,none⟩),false,true⟩],op.g=A.cl:=λop r=>by obtain⟨e,_,rfl⟩:=zj r;rfl
 have R:fP P A Z (s.sc .oI s.gv s.gm) kk OO J (λ_=>False) gs.size w (t++MemOp.ofEvents A.cl g.frame.fn g.frame.place #[⟨.mark (.acquire ⟨A.gb,0,none⟩),false,true⟩]):=
  j.acQ (Tw (s:=s) (c:=.oI)) (λ_ _=>rfl) (λ_ _=>rfl) (XI d (j.off.2.2 d)) (by rw[o];rfl) (by rw[o];rfl) (λp D=>D.elim) (λe=>by rw[o]at e;cases e) (λ⟨p,D⟩=>D.elim) (λi=>by unfold jf;rw[o];rfl) (j.I.clo o .wa) rfl j.gr (cH rfl) (λop r=>by obtain⟨e,Y,rfl⟩:=zj r;simp at Y;subst Y;exact⟨λa ha=>by simp[MemAct.ofEvent,MemAct.touch?]at ha,λa h=>by simp[MemAct.ofEvent]at h⟩)
 have S:Beside (dG P A Fin Z v) s (s.sc .oI s.gv s.gm) f (dz f A.cl ⟨zJ P A,kk A.cl,OO A.cl,g1,T⟩) q q kk kk OO OO J J w A.cl g g1:=r8 v Tw (λi hi=>aK _ _ hi) (λ_ _=>rfl) (λ_ _ _=>rfl) (λ_ _ _=>rfl) (λ_ _ h=>h) (.inl ⟨id,id⟩) (λ{i k O y} U=>B.qu (s:=s) (i:=i) (k:=k) (O:=O) (g:=y) U)
 refine⟨_,_,z,s.sc .oI s.gv s.gm,dz f A.cl ⟨zJ P A,kk A.cl,OO A.cl,g1,T⟩,q,kk,OO,J,(λ_=>False),_,_,_,rfl,Kb o .wa,?_⟩
 refine cZ.step B F V E hP R (λl y hl U=>B.zf j hl _ _ U) S ⟨λ_=>?_,λh=>absurd h (Oe d (.inl rfl)),λh=>absurd h (xA (XI d (j.off.2.2 d))),λh=>absurd (Bm (.inl rfl)) h⟩
 rw[aD];refine⟨by show A.cl<A.b+A.n+1;omega,rfl,?_,rfl,rfl,hr,?_,.inr hJ,Y4⟩
 . show zJ P A=eF P A Fin (s.sc .oI s.gv s.gm) A.cl
   rw[Of d (by simp[MS.sc])]
 . rw[Deaf_own,hd];rfl
end
def Bn {P y s fr x f rA ν} (a:FR y s fr) (h:ck s=some x):fr≠Frame.enter P f rA ν:=fun e=>by
 obtain⟨ο,i,μ,kk,o,as,b,d,g,j,k,c,l⟩:=gh   a h;have:fr.todo = .inRegion ο (i :: μ) :: kk:=by rw[c];rfl
 rw[e] at this;simp[Frame.enter] at this
def Ia{fr a cs b}(h:G fr cs=G a b):fr=a:=by have:=congrArg Goroutine.frame h;exact this
section
variable{P:Rg}{A:dq}{Fin:ZD}{Z:Base}{s:MS P}{f:Nat->Node P}{q:Ct}{kk:Zz}{OO:ZF}{J M:ZA}{gs:Da}{w w':World}{t u:Trace}{j:Nat}{c:pw}{p:NX}{gv gm:Nat}{g g1:YB}
variable(C:lH P A.ng)(X:mP P A.ng)
include C in
theorem Kc{b ν a cs f rA n Wd d}(h:n8 P Wd n (G (Frame.enter P f rA a) cs) d)(g:ya P A.ng b ν .w0 cs d):n≠0:=λe=>by subst e;obtain⟨c,y,fr,i,rfl,l,j,k,rfl⟩:=g;exact Bn j (C.w0 b ν).1 (Ia h).symm
include C in
def Tx{b ν a cs f rA n Wd d}(h:n8 P Wd n (G (Frame.enter P f rA a) cs) d)(g:ya P A.ng b ν .a0 cs d):n≠0:=λe=>by subst e;obtain⟨c,y,fr,i,rfl,l,j,k,rfl⟩:=g;exact Bn j (C.a0 b ν).1 (Ia h).symm
include C in
def Ty{b ν a cs f rA n Wd d}(h:n8 P Wd n (G (Frame.enter P f rA a) cs) d)(g:ya P A.ng b ν .d1 cs d):n≠0:=λe=>by subst e;obtain⟨c,y,fr,i,rfl,l,j,k,rfl⟩:=g;exact Bn j (C.d1 b).1 (Ia h).symm
include C X in
def CV1  h  (i:cZ (dG P A Fin Z h) Z s f q kk OO J M gs w t) (u:s.c=.jq){k O N}(j:k=kk A.cl) (l:O=OO A.cl) (z:gs[A.cl]?=some g) (B:(DN P A).fY k O g N) (a:A.dir=false)  sl :
 Goes P A Fin Z h s gs w t sl A.cl:=by
 have v:fP P A Z s kk OO J M gs.size w t:=i.ex;obtain⟨_,_,_,_,_,_,m,_⟩:=i.live _ (Bm (.inr u));obtain⟨rfl,x,μ,rfl,D⟩:=B;subst j l;obtain⟨E,⟨n,d⟩,y⟩:=wy (P:=P) (n:=A.ng) (b:=A.gb) (ν:=.normal) (cs:=x::μ) (Wd:=qI A) X C;cases n with
 |zero=>exact absurd rfl (Kc C d y)
 |succ n=>obtain⟨g1,⟨F,o⟩,p⟩:=d;have r:qI A w:=(cE (P:=P) (A:=A) (Fin:=Fin) (Z:=Z) h).wd v;exact tB h i u .call m z (by rw[a];exact o false w r) v.gr (cH rfl) (λe G=>by simp at G) rfl id ⟨n,E,p,x,μ,y,by rw[wN (by rw[a];simp)];exact D⟩ sl
def zP(hj:j<A.n)(e:s.w j=.Fa):gV P A s (A.b+j):=.inr (.inl ⟨j,hj,rfl,aq⟩)
def Bo(hj:j<A.n)(e:s.w j=.Fa):¬ki P A s (A.b+j):=by
 have:=A.hb;rintro(⟨e,_⟩|⟨l,a,c,d⟩)
 . omega
 grind
include C X in
def AsT  r  (u:cZ (dG P A Fin Z r) Z s f q kk OO J M gs w t) (hj:j<A.n) (c:s.w j=.Fa){k O N}(H:gs[A.b+j]?=some g) (K:(rZ P A).fY k O g N)  sl :
 Goes P A Fin Z r s gs w t sl (A.b+j):=by
 have o:fP P A Z s kk OO J M gs.size w t:=u.ex;have hb:=A.hb;obtain⟨_,_,_,_,_,_,v,_⟩:=u.live _ (zP hj c);obtain⟨rfl,F,fn,τ,todo,y,p,rfl⟩:=K;have z:(A.b+j==0)=false:=F2
 obtain⟨L,⟨n,m⟩,G⟩:=abh (P:=P) (n:=A.ng) (b:=A.gb) (ν:=.deferred) (cs:=[qo P F τ todo,fy P]) (Wd:=qI A) X (λw h=>h.1) C
 cases n with
 |zero=>exact absurd rfl (Ty C m G)
 | succ n=>
   obtain⟨g1,⟨Q,B⟩,D⟩:=m;have E:qI A w:=(cE (P:=P) (A:=A) (Fin:=Fin) (Z:=Z) r).wd o;obtain⟨x,d⟩:=S1 (.dn .d1:cL P);have a:(s.bW j x s.sh).w j=.dn .d1:=by rw[bV,d]
   have R:du A.n (s.bW j x s.sh):=o.I.CG hj (by rw[c];rfl) (by rw[d];rfl) (.inl (by rw[d,c];rfl)) (by rw[d];rfl) (by rw[d,c];rfl)
   have S:MS.kS A.n (s.bW j x s.sh) s:=zM hj (by rw[d,c];simp[cL.eZ])
   have hJ:J (A.b+j):=(o.hJ _).2 (.inl ⟨j,hj,rfl,by rw[c];rfl⟩)
   refine H6 (s':=s.bW j x s.sh) (f':=f) (q':=upd q (A.b+j) n) (es:=#[]) r u (mV o.I hj (by rw[c];rfl)) (Bo hj c) H (by rw[z];exact B false w E) (DQ hj (.inl (by rw[d,c];rfl))) (λl _=>?_) (λl _=>?_) o.off rfl rfl id (vn hj (by rw[d,c];rfl)) R rfl o.gr (cH rfl) (.inl kD) S (.inl (.inr hJ)) (.inl id) (λ_ _=>rfl) (λi T=>upd_ne q n T) ?_ sl
   . by_cases e:l=j
     . subst e;rw[bV,d,c];rfl
     . rw[dW e]
   . by_cases e:l=j
     . subst e;rw[bV,d,c];rfl
     . rw[dW e]
   . refine⟨λU=>absurd U (pZ hj a),λ_=>⟨pZ hj a,?_,?_,L,?_,?_⟩,λV=>absurd V (wP hj a),λ_ W _=>absurd (sU hj a) W⟩
     . show A.b+j<A.b+A.n+1;omega
     . rw[Deaf_own,v]
       show _=iy P A (s.bW j x s.sh) (A.b+j);rw[jG hj,a];rfl
     . refine .inr (.inl ⟨j,hj,rfl,?_⟩)
       rw[a];exact⟨F,fn,τ,todo,y,p,G⟩
     . exact .inr (by rw[upd_same];exact D)
end
section
variable{P:Rg}
def MS.tC(s:MS P)(ms:vW)(gc:Nat):MS P:={s with ms:=ms,gc:=gc}
inductive Kd(s:MS P):vW->vW->ZA
 |call (j:Nat):1<=j->Kd s (.add j) (.cY j .a0) s.gc
 |a0 (j:Nat):Kd s (.cY j .a0) (.cY j .a2) s.gc
 |a2 (j:Nat) (p:NX):p=.a4\/p=.ae->Kd s (.cY j .a2) (.cY j p) (s.gc+1)
 |a4 (j:Nat):Kd s (.cY j .a4) (.cY j .ae) s.gc
 |ae (j:Nat):Kd s (.cY j .ae) (.spawn (j-1)) s.gc
def du.mai{n}{s:MS P}(I:du n s){m0 m1 gc}(g:s.ms=m0)(h:Kd s m0 m1 gc):du n (s.tC m1 gc)/\s.c=.none:=by
 have a:=I.ms;rw[g]at a;have d:s.c=.none:=by cases h<;>first|exact a.2|exact a.2.1
 obtain⟨k,i,f⟩:=I.calm (by rw[d];rfl);refine⟨⟨?_,I.g2,I.pL,λj b h=>?_,I.Cq,λj b h=>?_,⟨I.g5.1,λh=>(by have h:s.gm=1:=h;omega)⟩,I.g6,λh=>(by have h:s.gv=1:=h;omega),λh=>?_,I.g9,I.ok,I.okc,I.sp,I.idle,?_,I.early,I.mu⟩,d⟩
 . have:=I.g1
   show gc=sumTo n (λj=>(s.w j).cnt)+m1.pend;cases h with
   |a2 j p e=>rcases e with rfl|rfl<;>simp_all [vW.pend]
   |_=>simp_all [vW.pend]
 . have h:s.w j=.dn .d5\/s.w j=.dn .d6:=h
   have:=f j b;rcases h with h|h<;>rw[h]at this<;>cases this
 . have h:s.w j=.dn .d7:=h
   have:=f j b;rw[h]at this;cases this
 . have h:s.c.Tl=true:=h
   rw[d]at h;cases h
 . cases h with
   |call j b=>exact⟨a.1,a.2,b,.inl rfl⟩
   |a0 j=>exact⟨a.1,a.2.1,a.2.2.1,am⟩
   |a2 j p e=>exact⟨a.1,a.2.1,a.2.2.1,.inr (.inr e)⟩
   |a4 j=>exact⟨a.1,a.2.1,a.2.2.1,am⟩
   |ae j=>exact⟨by show s.sp+(j-1)+1=n;omega,a.2.1⟩
def Tz{n}{s:MS P}{m0 m1 gc}(a:s.c=.none)(hj:∀j p,m0=.cY j p->1<=j)(b:s.ms=m0)(h:Kd s m0 m1 gc):MS.kS n (s.tC m1 gc) s:=by
 refine .inl ?_;show m1.eZ+sumTo n (λi=>(s.w i).eZ)+s.c.eZ gc<s.ms.eZ+sumTo n _+s.c.eZ s.gc;rw[b,a];have e:∀x,pw.eZ x .none=0:=λ_=>rfl
 rw[e,e]
 have:m1.eZ<m0.eZ:=by
  cases h with
  |a2 j p d=>rcases d with rfl|rfl<;>simp[vW.eZ]
  |ae j=>have:=hj j .ae rfl;simp  [vW.eZ];omega
  |_=>simp[vW.eZ]
 omega
end
section
variable{P:Rg}{A:dq}{Fin:ZD}{Z:Base}{s:MS P}{f f':Nat->Node P}{q q':Ct}{kk:Zz}{OO:ZF}{J M:ZA}{gs:Da}{w w':World}{t u:Trace}{j:Nat}{c:pw}{p:NX}{gc:Nat}{g g1:YB}{m0 m1:vW}
def Ms(e:s.ms=.cY j p):ln P A s 0:=.inl ⟨rfl,aq⟩
def Oh(b:s.c=.none)(e:s.ms=.cY j p):¬gV P A s 0:=by
 have:=A.hb;rintro(⟨_,a⟩|⟨l,d,f,a⟩|⟨_,a⟩)
 . grind
 . omega
 grind
def sW(e:s.ms≠.parked):¬ki P A s 0:=by
 have:=A.hb;rintro(⟨_,a⟩|⟨l,b,c,a⟩)
 . grind
 omega
def Oi(e:s.ms=.cY j p):iy P A s 0=zK p:=by
 unfold iy
 grind
def acU:jU A s (s.tC m1 gc) 0:=⟨λ_ _ _=>rfl,λ_=>rfl,ac,rfl,rfl,.inl λ_ _=>rfl⟩
def Bp  r  (L:cZ (dG P A Fin Z r) Z s f q kk OO J M gs w t) (z:s.ms=m0) (o:Kd s m0 m1 gc){d}(hd:Deaf t 0=d) (R:gs[0]?=some g){es}(B:stepG P true g w=.go g1 w' es)
 (C:xZ A.gb w' gc s.gv s.gm) (D:MW A.gb 0 w w') (S:Z7 A.gb es)
 (T:(∃j p n x,m1=.cY j p/\deafBehind d es=zK p/\n8 P (qI A) n g1 x/\Mt P A Fin (.cY j p) (kk 0) (OO 0) x)\/
   (∃j,m1=.spawn j/\deafBehind d es=0/\g1.status=.running/\∃N:TT P (N8 P A Fin j) (kk 0) (OO 0) g1,True))  sl :Goes P A Fin Z r s gs w t sl 0:=by
 have O:fP P A Z s kk OO J M gs.size w t:=L.ex;have hb:=A.hb;have U:((0:Nat)==0)=true:=rfl;obtain⟨V,k⟩:=O.I.mai z o;have Q:s.c.isNone=true:=by rw[k];rfl
 have W:MS.kS A.n (s.tC m1 gc) s:=Tz k (λj p e=>by have:=O.I.ms;grind) z o
 have Y:Cs P A (s.tC m1 gc):=⟨λ_ h=>absurd k h,λ_=>⟨by cases o<;>simp[MS.tC],by cases o<;>simp[MS.tC],by rw[show(s.tC m1 gc).c=.none from k];simp⟩,λ_=>by cases o<;>simp[MS.tC]⟩
 have E:s.ms≠.parked:=by rw[z];cases o<;>simp
 have F:∀fn pos,Deaf (t++MemOp.ofEvents 0 fn pos es) 0=deafBehind d es:=(by grind [Deaf_own])
 have go:∀(f':Nat->Node P) (q':Ct),(∀i,i≠0->f' i=f i)->(∀i,i≠0->q' i=q i)->Self P (dG P A Fin Z r) (s.tC m1 gc) f' q' kk OO J (t++MemOp.ofEvents 0 g.frame.fn g.frame.place es) 0 g1->Goes P A Fin Z r s gs w t sl 0:=λf' q' hf hq m=>H6 (s':=s.tC m1 gc) r L (.inl rfl) (sW E) R B acU (λ_ _=>rfl) (λ_ _=>rfl) Y rfl rfl id (λi=>Zy) V rfl C D am W ac (.inl id) hf hq m sl
 rcases T with⟨j,p,n,x,rfl,u,v,G⟩|⟨j,rfl,u,hr,N,_⟩
 . have a:(s.tC (.cY j p) gc).ms=.cY j p:=rfl
   refine go f (upd q 0 n) am (by grind [upd_ne]) ⟨λhl=>absurd hl (Oh (s:=s.tC (.cY j p) gc) k a),λ_=>⟨Oh (s:=s.tC (.cY j p) gc) k a,?_,?_,x,?_,?_⟩,λhh=>absurd hh (sW aq),λ_ Q _=>absurd (Ms a) Q⟩
   . show 0<A.b+A.n+1;omega
   . rw[F,u]
     show _=iy P A (s.tC (.cY j p) gc) 0;rw[Oi a]
   . exact .inl ⟨rfl,G⟩
   . exact .inr (by rw[upd_same];exact v)
 . have H:gV P A (s.tC (.spawn j) gc) 0:=.inl ⟨rfl,trivial⟩
   have K:¬ln P A (s.tC (.spawn j) gc) 0:=by
    rintro(⟨_,y⟩|⟨l,h1,h2,y⟩|⟨_,y⟩)
    . exact y
    . omega
    . rw[show(s.tC (.spawn j) gc).c=.none from k]at y;omega
   refine go (dz f 0 ⟨N8 P A Fin j,kk 0,OO 0,g1,N⟩) q (by grind [aK]) ac ⟨λ_=>?_,λh=>absurd h K,λh=>absurd h (sW (by simp[MS.tC])),λh=>absurd H h⟩
   rw[aD];refine⟨by show 0<A.b+A.n+1;omega,rfl,?_,rfl,rfl,hr,am,.inl rfl,λl h X h1 h2 _=>ac⟩
   show N8 P A Fin j=eF P A Fin (s.tC (.spawn j) gc) 0;unfold eF;rw[wS rfl];rfl
variable(C:lH P A.ng)(X:mP P A.ng)
include C X in
def aiy  y  (z:cZ (dG P A Fin Z y) Z s f q kk OO J M gs w t) (i:s.ms=.cY j p) (B:gs[0]?=some g) (L:Mt P A Fin (.cY j p) (kk 0) (OO 0) g)  sl :Goes P A Fin Z y s gs w t sl 0:=by
 have H:fP P A Z s kk OO J M gs.size w t:=z.ex;have D:=H.I.ms;rw[i]at D;obtain⟨_,V,W,Y⟩:=D;obtain⟨N,a7,hl⟩:=H.I.calm (by rw[V];rfl)
 obtain⟨R,μ,K,S⟩:=L;have d:=H.gr;have hn:=A.hn;have O:CallKind.normal≠CallKind.early:=be
 have nx:∀{U g1},mQ P A.ng A.gb .normal (qI A) U (R::μ) g1->∃n b,n8 P (qI A) n g1 b/\Mt P A Fin (.cY j U) (kk 0) (OO 0) b:=λ⟨_,b,⟨n,hs⟩,hA⟩=>⟨n,b,hs,R,μ,hA,S⟩
 have hd:Deaf t 0=zK p:=by obtain⟨_,_,Q,_⟩:=z.walk _ (Ms i);rw[Q];show iy P A s 0=_;rw[Oi i]
 have E:∀l,l<A.n->(s.w l).cnt<=1:=λl _=>by
  cases e:s.w l with
  |dn p=>cases p<;>simp[cL.cnt]
  |_=>simp[cL.cnt]
 have a8:s.gc<=A.n+1:=by
  have o:=H.I.g1;have r:sumTo A.n (λj=>(s.w j).cnt)<=A.n:=vq A.n E
  have h3:s.ms.pend<=1:=by cases s.ms<;>simp[vW.pend];split<;>omega
  omega
 rcases Y with rfl|rfl|rfl|rfl
 . obtain⟨g1,a,hN⟩:=aeI (Wd:=qI A) (γ:=true) (w:=w) C X K O
   obtain⟨n,b,o,r⟩:=nx hN;exact Bp y z i (.a0 j) hd B a d (cH rfl) (λe c=>by simp at c;subst c;exact .inl (.inl (.inl rfl))) (.inl ⟨j,_,n,b,rfl,rfl,o,r⟩) sl
 . have u:=d
   rw[N]at u;obtain⟨g1,w',a,rfl,x,hN⟩:=aeJ (Wd:=qI A) (γ:=true) (v:=0) C X (λw h=>h.2.1) u ac K
   have F:Z7 A.gb #[⟨.cell ⟨A.gb,0,none⟩,false,true⟩,⟨.cell ⟨A.gb,0,none⟩,true,true⟩]:=λe c=>by simp at c;rcases c with rfl|rfl<;>exact .inl (.inr ⟨0,.inl rfl,rfl,rfl⟩)
   rcases hN with hN|hN
   . obtain⟨n,b,o,r⟩:=nx hN
     exact Bp y z i (.a2 j _ (.inl rfl)) hd B a (by rw[N];exact x) (⟨⟨.refl _,rfl⟩,.inr ⟨0,_,.inl rfl,rfl,rfl⟩⟩) F (.inl ⟨j,_,n,b,rfl,rfl,o,r⟩) sl
   . obtain⟨n,b,o,r⟩:=nx hN
     exact Bp y z i (.a2 j _ (.inr rfl)) hd B a (by rw[N];exact x) (⟨⟨.refl _,rfl⟩,.inr ⟨0,_,.inl rfl,rfl,rfl⟩⟩) F (.inl ⟨j,_,n,b,rfl,rfl,o,r⟩) sl
 . obtain⟨g1,a,hN⟩:=aeK (Wd:=qI A) (γ:=true) (w:=w) C X K O
   obtain⟨n,b,o,r⟩:=nx hN;exact Bp y z i (.a4 j) hd B a d (cH rfl) (λe c=>by simp at c;subst c;exact .inr ⟨1,.inr rfl,.inl rfl⟩) (.inl ⟨j,_,n,b,rfl,rfl,o,r⟩) sl
 . obtain⟨g1,a,hr,⟨k,G⟩⟩:=aeL (Wd:=λ_=>True) (γ:=true) (w:=w) C X K O
   obtain⟨tr⟩:=T.tree (P:=P) (m:=N8 P A Fin (j-1)) rfl S;obtain⟨T,_⟩:=TT.pre G tr;exact Bp y z i (.ae j) hd B a d (cH rfl) (λe c=>by simp at c;subst c;exact .inl (.inl (.inr rfl))) (.inr ⟨j-1,rfl,rfl,hr,T,trivial⟩) sl
include C X in
def TA  c  (d:cZ (dG P A Fin Z c) Z s f q kk OO J M gs w t) (r:s.ms=.add (j+1)){k O N}(h:k=kk 0) (i:O=OO 0) (y:gs[0]?=some g) (z:(vN P A Fin (j+1)).fY k O g N)  sl :
 Goes P A Fin Z c s gs w t sl 0:=by
 have u:fP P A Z s kk OO J M gs.size w t:=d.ex;obtain⟨_,_,_,_,_,_,l,_⟩:=d.live 0 (.inl ⟨rfl,by rw[r];trivial⟩);obtain⟨rfl,v,μ,rfl,B⟩:=z;subst h i;obtain⟨D,⟨n,a⟩,x⟩:=akS (P:=P) (n:=A.ng) (b:=A.gb) (ν:=.normal) (cs:=v::μ) (Wd:=qI A) X;cases n with
 |zero=>exact absurd rfl (Tx C a x)
 |succ n=>obtain⟨g1,⟨E,m⟩,o⟩:=a;have p:qI A w:=(cE (P:=P) (A:=A) (Fin:=Fin) (Z:=Z) c).wd u;exact Bp c d r (.call (j+1) ac) l y (m true w p) u.gr (cH rfl) (λe F=>by simp at F) (.inl ⟨j+1,.a0,n,D,rfl,rfl,o,v,μ,x,B⟩) sl
end
