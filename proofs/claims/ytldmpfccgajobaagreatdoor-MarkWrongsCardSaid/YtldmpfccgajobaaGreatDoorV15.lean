import Derived.Test.YtldmpfccgajobaaGreatDoorV14
set_option linter.all false
namespace Go.bG
open Go.Conc
open Go.ConcN (sumTo upd sumTo_upd upd_ne upd_same)
section
variable{P:Program}
def MS.pT(s:MS P)(ms:mP)(gc:Nat):MS P:={s with ms:=ms,gc:=gc}
inductive zL(s:MS P):mP->mP->Nat->Prop
 |call (j:Nat):1<=j->zL s (.add j) (.bb j .a0) s.gc
 |a0 (j:Nat):zL s (.bb j .a0) (.bb j .a2) s.gc
 |a2 (j:Nat) (p:sP):p=.a4\/p=.ae->zL s (.bb j .a2) (.bb j p) (s.gc+1)
 |a4 (j:Nat):zL s (.bb j .a4) (.bb j .ae) s.gc
 |ae (j:Nat):zL s (.bb j .ae) (.spawn (j-1)) s.gc
theorem bs.SB{n:Nat}{s:MS P}(I:bs n s){m0 m1:mP}{gc:Nat}(f:s.ms=m0)(h:zL s m0 m1 gc):bs n (s.pT m1 gc)/\s.c=.none:=by
 have a:=I.ms;rw[f]at a;have d:s.c=.none:=by cases h<;>first|exact a.2|exact a.2.1
 obtain⟨k,i,g⟩:=I.calm (by rw[d];rfl);refine⟨⟨?_,I.g2,I.pP,λj b h=>?_,I.pf,λj b h=>?_,⟨I.g5.1,λh=>(by have h:s.gm=1:=h;omega)⟩,I.g6,λh=>(by have h:s.gv=1:=h;omega),λh=>?_,I.g9,I.ok,I.LO,I.sp,I.idle,?_,I.early,I.mu⟩,d⟩
 . have:=I.g1
   rw[f]at this;show gc=sumTo n (λj=>(s.w j).cnt)+m1.pend;cases h with
   |a2 j p e=>rcases e with rfl|rfl<;>simp_all [mP.pend]
   |_=>simp_all [mP.pend]
 . have h:s.w j=.dn .d5\/s.w j=.dn .d6:=h
   have:=g j b;rcases h with h|h<;>rw[h]at this<;>cases this
 . have h:s.w j=.dn .d7:=h
   have:=g j b;rw[h]at this;cases this
 . have h:s.c.GL=true:=h
   rw[d]at h;cases h
 . cases h with
   |call j b=>exact⟨a.1,a.2,b,.inl rfl⟩
   |a0 j=>exact⟨a.1,a.2.1,a.2.2.1,.inr (.inl rfl)⟩
   |a2 j p e=>exact⟨a.1,a.2.1,a.2.2.1,.inr (.inr e)⟩
   |a4 j=>exact⟨a.1,a.2.1,a.2.2.1,.inr (.inr (.inr rfl))⟩
   |ae j=>exact⟨by have l:=a.1;have m:=a.2.2.1;show s.sp+(j-1)+1=n;omega,a.2.1⟩
theorem G2{n:Nat}{s:MS P}{m0 m1:mP}{gc:Nat}(a:s.c=.none)(b:∀j p,m0=.bb j p->1<=j)(d:s.ms=m0)(h:zL s m0 m1 gc):MS.fh n (s.pT m1 gc) s:=by
 refine .inl ?_;show m1.bU+sumTo n (λi=>(s.w i).bU)+s.c.bU gc<s.ms.bU+sumTo n (λi=>(s.w i).bU)+s.c.bU s.gc;rw[d,a];have e:∀x,iv.bU x .none=0:=λ_=>rfl
 rw[e,e]
 have:m1.bU<m0.bU:=by
  cases h with
  |a2 j p f=>rcases f with rfl|rfl<;>simp[mP.bU]
  |ae j=>have:=b j .ae rfl;simp only[mP.bU];omega
  |_=>simp[mP.bU]
 omega
end
section
variable{P:Program}{A:dk}{Fin:ag->ah->Goroutine->Prop}{Z:Base}{s:MS P}{f f':Nat->Node P}{q q':Nat->Nat}{kk:Nat->ag}{OO:Nat->ah}{J M:Nat->Prop}{gs:Array Goroutine}{w w':World}{t u:Trace}{j:Nat}{c:iv}{p:sP}{gc:Nat}{g g1:Goroutine}{m0 m1:mP}
theorem BE(e:s.ms=.bb j p):dV P A s 0:=.inl ⟨rfl,by rw[e];trivial⟩
theorem C8(e:s.ms=.bb j p):¬cL P A s 0:=by
 have:=A.hb;rintro(⟨_,a⟩|⟨l,b,c,a⟩|⟨a,_⟩)
 . rw[e]at a;exact a
 . omega
 . omega
theorem kE(e:s.ms≠.parked):¬dz P A s 0:=by
 have:=A.hb;rintro(⟨_,a⟩|⟨l,b,c,a⟩)
 . exact e a
 . omega
theorem C9(e:s.ms=.bb j p):cd P A s 0=rQ p:=by unfold cd;rw[if_pos rfl,e]
theorem Or:dK A s (s.pT m1 gc) 0:=⟨λ_ _ _=>rfl,λ_=>rfl,λh=>absurd rfl h,rfl,λ_ _=>rfl⟩
theorem qX(o:A.b+A.n+1<=Z.lk)(O:bg (bM P A Fin Z o) Z s f q kk OO J M gs w t)(v:s.ms=m0)(y:zL s m0 m1 gc){d:Nat}(hd:Deaf t 0=d)(T:gs[0]?=some g){es:Array Event}(z:stepG P true g w=.go g1 w' es)
 (B:oq A.gb w' gc s.gv s.gm) (C:MW A.gb 0 w w') (D:LV A.gb es)
 (U:(∃j p n x,m1=.bb j p/\deafBehind d es=rQ p/\iV P (jJ A) n g1 x/\Pk P A Fin (.bb j p) (kk 0) (OO 0) x)\/
   (∃j,m1=.spawn j/\deafBehind d es=0/\g1.status=.running/\∃Q:TT P (CZ P A Fin j) (kk 0) (OO 0) g1,True)) (sl:Option (Nat × Nat)):Goes P A Fin Z o s gs w t sl 0:=by
 have R:cz P A Z s kk OO J M gs.size w t:=O.ex;have hb:=A.hb;have V:((0:Nat)==0)=true:=rfl;obtain⟨W,S⟩:=R.I.SB v y;have E:s.c.isNone=true:=by rw[S];rfl
 have Y:MS.fh A.n (s.pT m1 gc) s:=G2 S (λj p e=>by have:=R.I.ms;rw[v,e]at this;exact this.2.2.1) v y
 have F:s.ms≠.parked:=by rw[v];cases y<;>simp
 have r:∀fn pos,Deaf (t++MemOp.ofEvents 0 fn pos es) 0=deafBehind d es:=λfn pos=>by rw[Deaf_own,hd]
 have go:∀(f':Nat->Node P) (q':Nat->Nat),(∀i,i≠0->f' i=f i)->(∀i,i≠0->q' i=q i)->Self P (bM P A Fin Z o) (s.pT m1 gc) f' q' kk OO J (t++MemOp.ofEvents 0 g.frame.fn g.frame.place es) 0 g1->Goes P A Fin Z o s gs w t sl 0:=λf' q' hf hq k=>yd (s':=s.pT m1 gc) o O (.inl rfl) (kE F) T z Or (λ_ _=>rfl) rfl rfl id (λi=>Iff.rfl) W rfl B C (.inr ⟨D,by rw[E];rfl⟩) Y (.inl (.inl rfl)) (.inl id) hf hq k sl
 rcases U with⟨j,p,n,x,rfl,m,u,G⟩|⟨j,rfl,m,hr,Q,_⟩
 . have a:(s.pT (.bb j p) gc).ms=.bb j p:=rfl
   refine go f (upd q 0 n) (λ_ _=>rfl) (λi H=>upd_ne q n H) ⟨λhl=>absurd hl (C8 a),λ_=>⟨C8 a,?_,?_,x,?_,?_⟩,λhh=>absurd hh (kE (by simp[MS.pT])),λ_ E _=>absurd (BE a) E⟩
   . show 0<A.b+A.n+1;omega
   . rw[r,m]
     show _=cd P A (s.pT (.bb j p) gc) 0;rw[C9 a]
   . exact .inl ⟨rfl,G⟩
   . exact .inr (by rw[upd_same];exact u)
 . have K:cL P A (s.pT (.spawn j) gc) 0:=.inl ⟨rfl,trivial⟩
   have L:¬dV P A (s.pT (.spawn j) gc) 0:=by
    rintro(⟨_,N⟩|⟨l,h1,h2,N⟩|⟨N,_⟩)
    . exact N
    . omega
    . omega
   refine go (bo f 0 ⟨CZ P A Fin j,kk 0,OO 0,g1,Q⟩) q (λi H=>ap _ _ H) (λ_ _=>rfl) ⟨λ_=>?_,λh=>absurd h L,λh=>absurd h (kE (by simp[MS.pT])),λh=>absurd K h⟩
   rw[ak];refine⟨by show 0<A.b+A.n+1;omega,rfl,?_,rfl,rfl,hr,by rw[r,m],.inl rfl,λl h X h1 h2 _=>by omega⟩
   show CZ P A Fin j=bm P A Fin (s.pT (.spawn j) gc) 0;unfold bm;rw[if_pos rfl];rfl
variable(C:iu P A.ng)(X:jt P A.ng)
include C X in
theorem zM(z:A.b+A.n+1<=Z.lk)(B:bg (bM P A Fin Z z) Z s f q kk OO J M gs w t)(o:s.ms=.bb j p)(D:gs[0]?=some g)(N:Pk P A Fin (.bb j p) (kk 0) (OO 0) g)(sl:Option (Nat × Nat)):Goes P A Fin Z z s gs w t sl 0:=by
 have K:cz P A Z s kk OO J M gs.size w t:=B.ex;have E:=K.I.ms;rw[o]at E;obtain⟨_,W,Y,hp⟩:=E;obtain⟨O,a7,hl⟩:=K.I.calm (by rw[W];rfl)
 obtain⟨S,rest,L,U⟩:=N;have i:=K.gr;have hn:=A.hn;have Q:CallKind.normal≠CallKind.early:=by decide
 have nx:∀{V g1},fP P A.ng A.gb .normal (jJ A) V (S::rest) g1->∃n c,iV P (jJ A) n g1 c/\Pk P A Fin (.bb j V) (kk 0) (OO 0) c:=λ⟨_,c,⟨n,hs⟩,hA⟩=>⟨n,c,hs,S,rest,hA,U⟩
 have hd:Deaf t 0=rQ p:=by obtain⟨_,_,R,_⟩:=B.walk _ (BE o);rw[R];show cd P A s 0=_;rw[C9 o]
 have F:∀l,l<A.n->(s.w l).cnt<=1:=λl _=>by
  cases e:s.w l with
  |dn p=>cases p<;>simp[aW.cnt]
  |_=>simp[aW.cnt]
 have a8:s.gc<=A.n+1:=by
  have r:=K.I.g1;have u:sumTo A.n (λj=>(s.w j).cnt)<=A.n:=mn A.n F
  have h3:s.ms.pend<=1:=by cases s.ms<;>simp[mP.pend];split<;>omega
  omega
 rcases hp with rfl|rfl|rfl|rfl
 . obtain⟨g1,a,hN⟩:=PN (Wd:=jJ A) (main:=true) (w:=w) C X L Q
   obtain⟨n,c,r,u⟩:=nx hN;exact qX z B o (.a0 j) hd D a i (aP rfl) (λe d=>by simp at d;subst d;exact .inl (.inl (.inl rfl))) (.inl ⟨j,_,n,c,rfl,rfl,r,u⟩) sl
 . have x:=i
   rw[O]at x;obtain⟨g1,w',a,rfl,y,hN⟩:=PO (Wd:=jJ A) (main:=true) (v:=0) C X (λw h=>h.2.1) x (by omega) L
   have G:LV A.gb #[⟨.cell ⟨A.gb,0,none⟩,false,true⟩,⟨.cell ⟨A.gb,0,none⟩,true,true⟩]:=λe d=>by simp at d;rcases d with rfl|rfl<;>exact .inl (.inr ⟨0,.inl rfl,rfl,rfl⟩)
   rcases hN with hN|hN
   . obtain⟨n,c,r,u⟩:=nx hN
     exact qX z B o (.a2 j _ (.inl rfl)) hd D a (by rw[O];exact y) (⟨⟨.refl _,rfl⟩,.inr ⟨0,_,.inl rfl,rfl,rfl⟩⟩) G (.inl ⟨j,_,n,c,rfl,rfl,r,u⟩) sl
   . obtain⟨n,c,r,u⟩:=nx hN
     exact qX z B o (.a2 j _ (.inr rfl)) hd D a (by rw[O];exact y) (⟨⟨.refl _,rfl⟩,.inr ⟨0,_,.inl rfl,rfl,rfl⟩⟩) G (.inl ⟨j,_,n,c,rfl,rfl,r,u⟩) sl
 . obtain⟨g1,a,hN⟩:=PP (Wd:=jJ A) (main:=true) (w:=w) C X L Q
   obtain⟨n,c,r,u⟩:=nx hN;exact qX z B o (.a4 j) hd D a i (aP rfl) (λe d=>by simp at d;subst d;exact .inr ⟨1,.inr rfl,.inl rfl⟩) (.inl ⟨j,_,n,c,rfl,rfl,r,u⟩) sl
 . obtain⟨g1,a,hr,⟨k,H⟩⟩:=PQ (Wd:=λ_=>True) (main:=true) (w:=w) C X L Q
   obtain⟨tr⟩:=T.tree (P:=P) (m:=CZ P A Fin (j-1)) rfl U;obtain⟨T,_⟩:=TT.pre H tr;exact qX z B o (.ae j) hd D a i (aP rfl) (λe d=>by simp at d;subst d;exact .inl (.inl (.inr rfl))) (.inr ⟨j-1,rfl,rfl,hr,T,trivial⟩) sl
include C X in
theorem G3(c:A.b+A.n+1<=Z.lk)(d:bg (bM P A Fin Z c) Z s f q kk OO J M gs w t)(r:s.ms=.add (j+1)){k:ag}{O:ah}{N:ag->ah->Goroutine->Prop}(h:k=kk 0)(i:O=OO 0)(y:gs[0]?=some g)(z:(wu P A Fin (j+1)).cJ k O g N)(sl:Option (Nat × Nat)):
 Goes P A Fin Z c s gs w t sl 0:=by
 have u:cz P A Z s kk OO J M gs.size w t:=d.ex;obtain⟨_,_,_,_,_,_,l,_⟩:=d.live 0 (.inl ⟨rfl,by rw[r];trivial⟩);obtain⟨rfl,v,rest,rfl,B⟩:=z;subst h i;obtain⟨D,⟨n,a⟩,x⟩:=vF (P:=P) (n:=A.ng) (b:=A.gb) (kind:=.normal) (cs:=v::rest) (Wd:=jJ A) X;cases n with
 |zero=>exact absurd rfl (GZ C a x)
 |succ n=>obtain⟨g1,⟨E,m⟩,o⟩:=a;have p:jJ A w:=(aR (P:=P) (A:=A) (Fin:=Fin) (Z:=Z) c).wd u;exact qX c d r (.call (j+1) (by omega)) l y (m true w p) u.gr (aP rfl) (λe F=>by simp at F) (.inl ⟨j+1,.a0,n,D,rfl,rfl,o,v,rest,x,B⟩) sl
end
end Go.bG
