import Derived.Test.YtkcceaplmgdnfaaGreatDoorC20
set_option linter.all false
namespace Go.bu
open Go.Conc
open Go.ConcN (sumTo upd sumTo_upd upd_ne upd_same)
theorem vM{e:Event}(h:MemAct.ofEvent e=.mark .enable):e.loc=.mark .enable:=by
 obtain⟨loc,wr,a⟩:=e;cases loc with
 |mark m=>cases m<;>simp_all [MemAct.ofEvent]
 |cell b=>simp[MemAct.ofEvent]at h
 |obj r=>cases wr<;>cases a<;>simp[MemAct.ofEvent]at h
 |_=>simp[MemAct.ofEvent]at h
theorem lK{i:Nat}{fn:FuncId}{pos:String}{es:Array Event}(h:∀e∈es,e.loc≠.mark .enable):∀(m:Nat) (op:MemOp) (a:Touch),(MemOp.ofEvents i fn pos es)[m]?=some op->op.act.touch?=some a->∀(l:Nat) (b:MemOp),l<m->(MemOp.ofEvents i fn pos es)[l]?=some b->b.act≠.mark .enable:=λm op a _ _ l b _ c d=>by obtain⟨e,f,rfl⟩:=Go.Conc.mem_ofEvents (Array.mem_of_getElem? c);exact h e f (vM d)
theorem Gl{i:Nat}{fn:FuncId}{pos:String}{ad:Addr}:∀(m:Nat) (op:MemOp) (a:Touch),(MemOp.ofEvents i fn pos (semEvents ad))[m]?=some op->op.act.touch?=some a->∀(l:Nat) (c:MemOp),l<m->(MemOp.ofEvents i fn pos (semEvents ad))[l]?=some c->c.act≠.mark .enable:=λm op a d f l c e b=>by
 rw[ofEvents_eq]at d b;simp only[semEvents]at d b
 match m,l,e with
 |0,l,e=>omega
 |1,0,_=>simp at b;subst b;simp[MemAct.ofEvent]
 |2,0,_=>simp at b;subst b;simp[MemAct.ofEvent]
 |2,1,_=>simp at b;subst b;simp[MemAct.ofEvent]
 |3,l,_=>simp at d;subst d;simp[MemAct.ofEvent,MemAct.touch?]at f
 |m+4,l,_=>simp at d
theorem nj:∀(n:Nat){F:Nat->Nat},(∀l,l<n->F l<=1)->sumTo n F<=n
 |0,_,_=>Nat.le_refl _
 | n+1,F,h=>by
   have a:=nj n (F:=F) (λl b=>h l (by omega));have c:=h n (by omega);simp only[sumTo];omega
section
variable{P:Program}{A:bt}{Fin:ai->aj->Goroutine->Prop}{Z:Base}{s:MS P}{f:Nat->Node P}{q:Nat->Nat}{kk:Nat->ai}{OO:Nat->aj}{J M:Nat->Prop}{gs:Array Goroutine}{w w':World}{t u:Trace}{j:Nat}{x:ba P}{gc gv gm:Nat}{g g1:Goroutine}
theorem Ds{p:uD}(h:zM s p x gc gv gm):x.gJ=true/\x.owns=false/\x.busy=false/\(ba.dn (P:=P) p).busy=false/\(ba.dn (P:=P) p).deaf=1/\(x=.gone\/∃a,x=.dn a/\x.deaf=1)/\x.gh=true:=by cases h<;>simp[ba.gJ,ba.owns,ba.busy,ba.deaf,ba.gh]
theorem qZ(u:A.b+A.n+1<=Z.lk)(F:bn (bL P A Fin Z u) Z s f q kk OO J M gs w t)(c:j<A.n){p:uD}(k:s.w j=.dn p)(X:gs[A.b+j]?=some g){es:Array Event}(Y:stepG P false g w=.go g1 w' es)(G:zM s p x gc gv gm)
 (H:pJ A.gb w' gc gv gm) (K:MW A.gb 0 w w') (v:EvM A.gb 0 es) (L:deafBehind 1 es=1)
 (ha:∀(m:Nat) (op:MemOp) (a:Touch),(MemOp.ofEvents (A.b+j) g.frame.fn g.frame.place es)[m]?=some op->op.act.touch?=some a->∀(l:Nat) (y:MemOp),l<m->(MemOp.ofEvents (A.b+j) g.frame.fn g.frame.place es)[l]?=some y->y.act≠.mark .enable)
 (z:(s.gm=0->gm=0)\/(mayWake P g=true/\(g1.status=.running\/g1.status=.finished)))
 (hs:(∃D,x=.dn D/\∃n E,iu P (jZ A) n g1 E/\Fc P A j (.dn D) (kk (A.b+j)) (OO (A.b+j)) E)\/(x=.gone/\∃m,QuitsD P m 1 g1)) (sl:Option (Nat × Nat)):Goes P A Fin Z u s gs w t sl (A.b+j):=by
 have N:cI P A Z s kk OO J M gs.size w t:=F.ex;have hb:=A.hb;have a7:(A.b+j==0)=false:=by simp;omega
 obtain⟨f1,f2,f3,f4,f5,f6,f7⟩:=Ds G;have O:=lJ (P:=P) (A:=A) (s:=s) c k
 have Q:Deaf t (A.b+j)=1:=by obtain⟨_,_,R,_⟩:=F.walk _ O;rw[R];show dq P A s (A.b+j)=1;rw[dS c,k];exact f5
 have d:(s.gk j x gc gv gm).w j=x:=bC
 have o:∀l,((s.gk j x gc gv gm).w l).busy=(s.w l).busy:=λl=>by
  by_cases e:l=j
  . simp_all
  . rw[cY e]
 have hS:dZ A s (s.gk j x gc gv gm) (A.b+j):=⟨λl _ T=>cY (by omega),λ_=>rfl,λ_=>rfl,rfl,rfl,.inl λl _=>by
  by_cases e:l=j
  . subst e;rw[bC,k,f1];rfl
  . rw[cY e]⟩
 have hI:=N.I.done c k G;have hL:=Gk c k G;have B:∀fn pos,Deaf (t++MemOp.ofEvents (A.b+j) fn pos es) (A.b+j)=1:=λfn pos=>by rw[Deaf_own,Q];exact L
 have go:∀(S:Nat),Self P (bL P A Fin Z u) (s.gk j x gc gv gm) f (upd q (A.b+j) S) kk OO J (t++MemOp.ofEvents (A.b+j) g.frame.fn g.frame.place es) (A.b+j) g1->Goes P A Fin Z u s gs w t sl (A.b+j):=λS r=>
  zL u F (gK N.I c (by rw[k];rfl)) (og c k) X (by grind) hS (λl _=>by
   by_cases e:l=j
   . subst e;rw[bC,k,f2];rfl
   . rw[cY e]) (λl _=>by
   by_cases e:l=j
   . subst e;rw[bC,k,f7];rfl
   . rw[cY e]) N.off rfl rfl id (λi=>by unfold dF;simp only[o];rfl) hI rfl H K (.inl v) hL (.inr ⟨v,Dr (by omega) ha⟩) z (λ_ _=>rfl) (λi hi=>upd_ne q S hi) r sl
 rcases hs with⟨D,rfl,n,E,C,a8⟩|⟨rfl,m,hq⟩
 . refine go n ⟨λT=>absurd T (jE c d),λ_=>⟨jE c d,?_,?_,E,?_,?_⟩,λhh=>absurd hh (og c d),λ_ hn _=>absurd (lJ c d) hn⟩
   . show A.b+j<A.b+A.n+1;omega
   . rw[B]
     show 1=dq P A (s.gk j (.dn D) gc gv gm) (A.b+j);rw[dS c,d]
     simp_all
   . exact .inr (.inl ⟨j,c,rfl,by simp_all⟩)
   . exact .inr (by rw[upd_same];exact C)
 . have nl:¬c9 P A (s.gk j .gone gc gv gm) (A.b+j):=by
    rintro(⟨e,_⟩|⟨l,U,V,W⟩|⟨e,_⟩)
    . omega
    . simp_all
    . omega
   have nw:¬fa P A (s.gk j .gone gc gv gm) (A.b+j):=by
    rintro(⟨e,_⟩|⟨l,U,V,W⟩|⟨e,_⟩)
    . omega
    . simp_all
    . omega
   have nh:¬ep P A (s.gk j .gone gc gv gm) (A.b+j):=by
    rintro(⟨e,_⟩|⟨l,U,V,W⟩)
    . omega
    simp_all
   exact go m ⟨λh=>absurd h nl,λh=>absurd h nw,λh=>absurd h nh,λ_ _ _=>⟨by omega,by rw[upd_same,B];exact hq⟩⟩
variable(C:fG P A.ng)(X:gF P A.ng)
theorem M9{n:Gd}{b:Nat}{kind:CallKind}{cs:List Frame}{g:Goroutine}(C:fG P n)(X:gF P n)(h:pK P n b kind .d7 cs g):mayWake P g=true:=by
 obtain⟨c,y,fr,f,⟨rfl,l⟩,m,i,j,rfl⟩:=h;have d:=Di (y:=y) (a:=true) (by simp_all);obtain⟨e,k⟩:=C.d9 b (Fl.of y);rw[d]at e k;exact zJ i e X.m6
include C X in
theorem Na(z:A.b+A.n+1<=Z.lk)(D:bn (bL P A Fin Z z) Z s f q kk OO J M gs w t)(r:j<A.n){p:uD}(u:s.w j=.dn p)(F:gs[A.b+j]?=some g)(N:Fc P A j (.dn p) (kk (A.b+j)) (OO (A.b+j)) g)(sl:Option (Nat × Nat)):Goes P A Fin Z z s gs w t sl (A.b+j):=by
 have B:cI P A Z s kk OO J M gs.size w t:=D.ex;have O:=B.I.ok j r;rw[u]at O;have E:=N;obtain⟨fw,fn,tmps,todo,G,v,Q⟩:=N;have x:=B.gr;have hn:=A.hn;have nx:∀{p' g1},gI P A.ng A.gb .deferred (jZ A) p' [jO P fw tmps todo,cd P] g1->∃n g2,iu P (jZ A) n g1 g2/\Fc P A j (.dn p') (kk (A.b+j)) (OO (A.b+j)) g2:=λ⟨_,g2,⟨n,hs⟩,hA⟩=>⟨n,g2,hs,fw,fn,tmps,todo,G,v,hA⟩
 have cell:∀(i:Nat),(i=0\/i=1)->∀wr,EvM A.gb 0 #[⟨.cell ⟨A.gb,i,none⟩,wr,true⟩]:=λi hi wr e d=>by simp at d;subst d;exact .inr ⟨i,by simpa using hi,rfl,rfl⟩
 have y:EvM A.gb 0 #[⟨.cell ⟨A.gb,0,none⟩,false,true⟩,⟨.cell ⟨A.gb,0,none⟩,true,true⟩]:=λe d=>by simp at d;rcases d with rfl|rfl<;>exact .inr ⟨0,.inl rfl,rfl,rfl⟩
 have R:EvM A.gb 0 (semEvents ⟨A.gb,1,none⟩):=λe d=>by
  simp[semEvents]at d
  rcases d with rfl|rfl|rfl|rfl
  . exact .inl (.inl rfl)
  . exact .inr ⟨1,.inr rfl,rfl,rfl⟩
  . exact .inr ⟨1,.inr rfl,rfl,rfl⟩
  . exact .inl (.inr rfl)
 have S:∀l,l<A.n->(s.w l).cnt<=1:=λl _=>by
  cases e:s.w l with
  |dn p=>cases p<;>simp[ba.cnt]
  |_=>simp[ba.cnt]
 cases p<;>simp only[ba.ok,Bool.false_eq_true]at O
 case d1=>exact M7 C X z D r u F E sl
 case d2=>exact M6 C X z D r u F E sl
 case d4=>
  have a7:1<=s.gc:=by
   have h1:=B.I.g1;have:(s.w j).cnt<=sumTo A.n (λj=>(s.w j).cnt):=Go.ConcN.le_sumTo (f:=λj=>(s.w j).cnt) r
   rw[u]at this;have e:(ba.dn (P:=P) .d4).cnt=1:=rfl;omega
  have a8:s.gc<=A.n+1:=by
   have h1:=B.I.g1;have h2:sumTo A.n (λj=>(s.w j).cnt)<=A.n:=nj A.n S
   have h3:s.ms.pend<=1:=by cases s.ms<;>simp[m8.pend];split<;>omega
   omega
  obtain⟨k,V⟩:∃k,s.gc=k+1:=⟨s.gc-1,by omega⟩
  have a:=x;rw[V]at a;obtain⟨g1,w',o,rfl,c,H⟩:=TZ (Wd:=jZ A) (main:=false) C X G v a (by omega) B.I.g2 Q
  have K:MW A.gb 0 w (w.setCell ⟨A.gb,0,none⟩ (.int .u64 (dN k s.gv))):=⟨⟨.refl _,rfl⟩,.inr ⟨0,_,.inl rfl,rfl,rfl⟩⟩
  rcases H with⟨W,hv,T⟩|⟨Y,hG⟩
  . subst W
    rw[hv]at c o K;exact qZ z D r u F o (.Ue V hv) c K y rfl (lK (λe d=>by simp at d;rcases d with rfl|rfl<;>simp)) (.inl id) (.inl ⟨_,rfl,nx T⟩) sl
  . exact qZ z D r u F o (.d4 k V Y) c K y rfl (lK (λe d=>by simp at d;rcases d with rfl|rfl<;>simp)) (.inl id) (.inr ⟨rfl,hG⟩) sl
 case d5=>obtain⟨v1,L⟩:=B.I.g3 j r (.inl u);have a:=x;rw[v1,L]at a;obtain⟨g1,o,T⟩:=T2 (Wd:=jZ A) (main:=false) C X a Q;exact qZ z D r u F o .d5 x (aZ rfl) (cell 0 (.inl rfl) false) rfl (lK (λe d=>by simp at d;subst d;simp)) (.inl id) (.inl ⟨_,rfl,nx T⟩) sl
 case d6=>obtain⟨v1,L⟩:=B.I.g3 j r (.inr u);have a:=x;rw[v1,L]at a;obtain⟨g1,w',o,rfl,c,T⟩:=T3 (Wd:=jZ A) (main:=false) C X a Q;exact qZ z D r u F o .d6 (by rw[L];exact c) (⟨⟨.refl _,rfl⟩,.inr ⟨0,_,.inl rfl,rfl,rfl⟩⟩) (cell 0 (.inl rfl) true) rfl (lK (λe d=>by simp at d;subst d;simp)) (.inl id) (.inl ⟨_,rfl,nx T⟩) sl
 case d7=>
  obtain⟨v0,L,m0,a9⟩:=B.I.g4 j r u;have a:=x;rw[v0,L]at a;have ab:=B.I.g5.1;obtain⟨g1,w',o,rfl,c,hG⟩:=T4 (Wd:=jZ A) (main:=false) C X G v a (by omega) Q
  obtain⟨m,hq⟩:=hG;have U:g1.status=.running\/g1.status=.finished:=by rcases hq.status with h|h<;>simp[h]
  exact qZ z D r u F o .d7 (by rw[L,v0];exact c) (⟨⟨.refl _,rfl⟩,.inr ⟨1,_,.inr rfl,rfl,rfl⟩⟩) R rfl Gl (.inr ⟨M9 C X Q,U⟩) (.inr ⟨rfl,m,hq⟩) sl
end
end Go.bu
namespace Go.bu
open Go.Conc
open Go.ConcN (sumTo upd sumTo_upd upd_ne upd_same)
variable{P:Program}
def MS.kT(s:MS P)(c:iG)(gv gm:Nat):MS P:={s with c:=c,gv:=gv,gm:=gm}
section
variable{s:MS P}{n:Nat}{c:iG}{gv gm:Nat}
theorem Jm{x:ba P}(h:x.last=true):x=.dn .d5\/x=.dn .d6\/x=.dn .d7:=by
 cases x with
 |dn p=>cases p<;>simp_all [ba.last]
 |_=>simp[ba.last]at h
theorem bD.calm(I:bD n s)(h:s.c.waits=false):s.gv=0/\s.gm=0/\∀j,j<n->(s.w j).last=false:=by
 have b:s.gv=0:=by
  have:=I.g2;by_cases e:s.gv=1
  . have:=(I.Jd e).1;simp_all
  . omega
 refine⟨b,?_,λj a=>?_⟩
 . have:=I.g5.1
   by_cases e:s.gm=1
   . have:=(I.g5.2 e).1;simp_all
   . omega
 . cases e:(s.w j).last with
   |false=>rfl
   | true=>
     rcases Jm e with e|e|e
     . have:=(I.g3 j a (.inl e)).1;omega
     . have:=(I.g3 j a (.inr e)).1;omega
     . have:=(I.g4 j a e).2.2.2;simp_all
theorem bD.R4(I:bD n s)(h:s.c≠.none):s.sp=n:=by
 have:=I.ms
 grind
theorem bD.BA(I:bD n s)(h:s.c≠.none)(l:s.gc=0)(g:∀j,j<n->(s.w j).last=false):∀j,j<n->s.w j=.gone:=λj a=>by
 have m:=I.g1;have o:(s.w j).cnt<=sumTo n (λj=>(s.w j).cnt):=Go.ConcN.le_sumTo (f:=λj=>(s.w j).cnt) a;have b:=I.idle j a;rw[I.R4 h]at b;have i:=g j a;have k:=I.ok j a;have d:(s.w j).cnt=0:=by omega
 cases e:s.w j with
 |idle=>rw[e]at b;have:=b.1 rfl;omega
 |dn p=>rw[e]at i k d;cases p<;>simp_all [ba.last,ba.ok,ba.cnt]
 |gone=>rfl
 |_=>rw[e]at d;simp[ba.cnt]at d
inductive qi(s:MS P):iG->iG->Nat->Nat->Prop
 |call:qi s .dL (.wt .w0) s.gv s.gm
 |w0:qi s (.wt .w0) (.wt .w1) s.gv s.gm
 |Vi:s.gc=0->qi s (.wt .w1) (.wt .we) s.gv s.gm
 |w1:s.gc≠0->qi s (.wt .w1) (.wt (.w2 s.gc)) s.gv s.gm
 |Vj:qi s (.wt (.w2 s.gc)) (.wt .w3) 1 s.gm
 |Uf (k:Nat):s.gc≠k->qi s (.wt (.w2 k)) (.wt .w1) s.gv s.gm
 |w3:qi s (.wt .w3) (.wt .w4) s.gv s.gm
 |w4:s.gm≠0->qi s (.wt .w4) (.wt .w5) s.gv (s.gm-1)
 |w5:qi s (.wt .w5) (.wt .we) s.gv s.gm
 |we:qi s (.wt .we) (.wt .wa) s.gv s.gm
 |wa:qi s (.wt .wa) .iH s.gv s.gm
theorem bD.Nb(I:bD n s)(v:s.c≠.none)(a:c≠.none)(e:c≠.gone)(b:c.ok=true)(f:gv<=1)(d:gv=1->c.waits=true/\gm=0)
 (g:∀j,j<n->(s.w j=.dn .d5\/s.w j=.dn .d6)->gv=1/\s.gc=0) (m:∀j,j<n->s.w j=.dn .d7->gv=0/\s.gc=0/\gm=0/\c.waits=true)
 (o:gm<=1/\(gm=1->c.waits=true/\gv=0/\s.gc=0/\∀j,j<n->(s.w j).last=false)) (q:c.waits=true->gv=0->gm=0->∃j,j<n/\s.w j=.dn .d7)
 (r:gv=1->s.gc=0->∃j,j<n/\(s.w j=.dn .d5\/s.w j=.dn .d6)) (t:c.Jc=true->s.gc=0/\gv=0/\gm=0/\∀j,j<n->s.w j=.gone) (u:∀k,c=.wt (.w2 k)->k≠0):bD n (s.kT c gv gm):=by
 refine⟨I.g1,f,d,g,I.H6,m,o,q,r,t,u,I.ok,b,I.sp,I.idle,?_,λ_ h=>absurd h a,I.mu⟩;have:=I.ms
 show match s.ms with
  |.add l=>s.sp+l=n/\c=.none
  |.bh l p=>s.sp+l=n/\c=.none/\1<=l/\(p=.a0\/p=.a2\/p=.a4\/p=.ae)
  |.spawn l=>s.sp+l+1=n/\c=.none
  |.recv=>s.sp=n/\c≠.none
  |.parked=>s.sp=n/\c≠.none/\c≠.gone/\∀i,i<n->s.w i≠.wait
  |.off=>s.sp=n/\c≠.none
 grind
theorem bD.Vk(I:bD n s){d:iG}(l:s.c=d)(h:qi s d c gv gm):bD n (s.kT c gv gm):=by
 have calm:d.waits=false->c.waits=false->d≠.none->c≠.none->c≠.gone->c.ok=true->gv=s.gv->gm=s.gm->(c.Jc=true->s.gc=0)->(∀k,c=.wt (.w2 k)->k≠0)->bD n (s.kT c gv gm):=by
  intro z A B q r t u v p m;subst u v;obtain⟨g,m0,b⟩:=I.calm (by simp_all)
  have e:s.c≠.none:=by simp_all
  refine I.Nb e q r t I.g2 (λh=>by omega) I.g3 (λj a h=>?_) ⟨by omega,λh=>by omega⟩ (λh=>by simp_all) I.g7 (λh=>⟨p h,g,m0,I.BA e (p h) b⟩) m
  have:=b j a;rw[h]at this;cases this
 have g8:d.Jc=true->s.gc=0:=λh=>(I.g8 (by simp_all)).1
 cases h with
 |call=>exact calm rfl rfl (by simp) (by simp) (by simp) rfl rfl rfl (λh=>by cases h) (λk h=>by cases h)
 |w0=>exact calm rfl rfl (by simp) (by simp) (by simp) rfl rfl rfl (λh=>by cases h) (λk h=>by cases h)
 |Vi i=>exact calm rfl rfl (by simp) (by simp) (by simp) rfl rfl rfl (λ_=>i) (λk h=>by cases h)
 |w1 i=>exact calm rfl rfl (by simp) (by simp) (by simp) rfl rfl rfl (λh=>by cases h) (λk h=>by simp_all)
 |Uf k i=>exact calm rfl rfl (by simp) (by simp) (by simp) rfl rfl rfl (λh=>by cases h) (λk h=>by cases h)
 |w5=>exact calm rfl rfl (by simp) (by simp) (by simp) rfl rfl rfl (λ_=>g8 rfl) (λk h=>by cases h)
 |we=>exact calm rfl rfl (by simp) (by simp) (by simp) rfl rfl rfl (λ_=>g8 rfl) (λk h=>by cases h)
 |wa=>exact calm rfl rfl (by simp) (by simp) (by simp) rfl rfl rfl (λ_=>g8 rfl) (λk h=>by cases h)
 | Vj=>
   obtain⟨g,m0,b⟩:=I.calm (by rw[l];rfl)
   have w:=I.g9 s.gc l;refine I.Nb (by grind) (by simp) (by simp) rfl (by omega) (λ_=>⟨rfl,m0⟩) (λj a h=>?_) (λj a h=>?_) ⟨by omega,λh=>by omega⟩ (λ_ h=>by omega) (λ_ h=>absurd h w) (λh=>by cases h) (λk h=>by cases h)
   . have:=(I.g3 j a h).1;omega
   . have:=b j a;rw[h]at this;cases this
 | w3=>
   have x:s.c.waits=true:=by rw[l];rfl
   refine I.Nb (by grind) (by simp) (by simp) rfl I.g2 (λh=>⟨rfl,(I.Jd h).2⟩) I.g3 (λj a h=>?_) ⟨I.g5.1,λh=>⟨rfl,(I.g5.2 h).2⟩⟩ (λ_=>I.g6 x) I.g7 (λh=>by cases h) (λk h=>by cases h)
   have:=I.g4 j a h;exact⟨this.1,this.2.1,this.2.2.1,rfl⟩
 | w4 i=>
   have o:s.gm=1:=by have:=I.g5.1;omega
   obtain⟨y,g,f,b⟩:=I.g5.2 o;have e:s.c≠.none:=by grind
   refine I.Nb e (by simp) (by simp) rfl I.g2 (λh=>by omega) I.g3 (λj a h=>?_) ⟨by omega,λh=>by omega⟩ (λh=>by cases h) I.g7 (λ_=>⟨f,g,by omega,I.BA e f b⟩) (λk h=>by cases h)
   have:=b j a;rw[h]at this;cases this
theorem BB{a:iG}(b:s.c=a)(h:qi s a c gv gm):MS.eU n (s.kT c gv gm) s:=by
 refine .inl ?_;show s.ms.bT+sumTo n (λi=>(s.w i).bT)+c.bT s.gc<s.ms.bT+sumTo n (λi=>(s.w i).bT)+s.c.bT s.gc;rw[b]
 have:c.bT s.gc<a.bT s.gc:=by
  cases h with
  |Uf k d=>simp only[iG.bT];simp_all
  |_=>simp[iG.bT]
 omega
end
end Go.bu
namespace Go.bu
open Go.Conc
open Go.ConcN (sumTo upd sumTo_upd upd_ne upd_same)
section
variable{P:Program}{A:bt}{Fin:ai->aj->Goroutine->Prop}{Z:Base}{s:MS P}{f:Nat->Node P}{q:Nat->Nat}{kk:Nat->ai}{OO:Nat->aj}{J M:Nat->Prop}{gs:Array Goroutine}{w w':World}{t u:Trace}{c:iG}{p:uD}{gv gm:Nat}{g g1:Goroutine}
theorem sz(e:s.c=.wt p):fa P A s A.cl:=.inr (.inr ⟨rfl,by simp_all⟩)
theorem zN{A:bt}(h:A.cl=0):A.dir=true:=by simp[bt.dir,h]
theorem zO(hd:A.dir=false)(h:s.ms≠.off):uj P A s:=⟨λe=>by simp_all,λe=>by simp_all,λ_=>h⟩
theorem zP(b:uj P A s)(e:s.c=.wt p):¬c9 P A s A.cl:=by
 have:=A.hb;rintro(⟨h,a⟩|⟨l,d,f,a⟩|⟨_,a⟩)
 . rw[b.1 (zN h) (by rw[e];simp)]at a;exact a
 . omega
 simp_all
theorem oW(b:uj P A s):¬ep P A s A.cl:=by
 have:=A.hb;rintro(⟨h,a⟩|⟨l,c,d,a⟩)
 . exact(b.2.1 (zN h)).2.1 a
 . omega
theorem q8(a:uj P A s)(e:s.c=.wt p):dq P A s A.cl=qW p:=by
 have:=A.hb;unfold dq;by_cases h:A.cl=0
 . rw[if_pos h,a.1 (zN h) (by rw[e];simp),e]
 simp_all
theorem Fh(h:s.c≠.none):bG P A s A.cl:=.inr (.inr ⟨rfl,h⟩)
theorem Gm{a:iG}(h:qi s a c gv gm):a.dO=false/\c.dO=false/\a.isNone=false/\c.isNone=false/\a.busy=true/\c.busy=true:=by cases h<;>simp[iG.dO,iG.isNone,iG.busy]
theorem Jn:dZ A s (s.kT c gv gm) A.cl:=⟨λ_ _ _=>rfl,λh=>absurd rfl h,λ_=>rfl,rfl,rfl,.inl λ_ _=>rfl⟩
theorem l9(u:A.b+A.n+1<=Z.lk)(F:bn (bL P A Fin Z u) Z s f q kk OO J M gs w t){G:iG}(v:s.c=G)(x:qi s G (.wt p) gv gm){d:Nat}(hd:Deaf t A.cl=d)(H:gs[A.cl]?=some g){es:Array Event}(y:stepG P A.dir g w=.go g1 w' es)
 (z:pJ A.gb w' s.gc gv gm) (B:MW A.gb 0 w w') (C:Pg A.gb es) (D:deafBehind d es=qW p) (j:s.gm=0->gm=0)
 (K:∃n r,iu P (jZ A) n g1 r/\QA P A Fin (.wt p) (kk A.cl) (OO A.cl) r) (sl:Option (Nat × Nat)):Goes P A Fin Z u s gs w t sl A.cl:=by
 have h:cI P A Z s kk OO J M gs.size w t:=F.ex;have hb:=A.hb;obtain⟨f1,R,S,T,L,U⟩:=Gm x;have k:s.c.isNone=false:=by simp_all
 have l:s.c≠.none:=λe=>by rw[e]at k;cases k
 obtain⟨n,r,m,E⟩:=K;have a:(s.kT (.wt p) gv gm).c=.wt p:=rfl;have o:uj P A (s.kT (.wt p) gv gm):=⟨λhd _=>h.off.1 hd l,λhd=>⟨(h.off.2.1 hd).1,(h.off.2.1 hd).2.1,by simp_all,by simp_all,by simp_all⟩,h.off.2.2⟩
 have hJ:J A.cl:=(h.hJ _).2 (.inr ⟨rfl,by simp_all⟩)
 refine zL (s':=s.kT (.wt p) gv gm) (f':=f) (q':=upd q A.cl n) u F (Fh l) (oW h.off) H y Jn (λ_ _=>rfl) (λ_ _=>rfl) o (by simp_all) (by simp_all) (λ_=>.inr (.inr ⟨p,rfl⟩)) (λi=>?_) (h.I.Vk v x) rfl z B (.inr ⟨C,by rw[k];rfl⟩) (BB v x) (.inl (.inr hJ)) (.inl j) (λ_ _=>rfl) (λi N=>upd_ne q n N) ?_ sl
 . unfold dF
   rw[v,L];rfl
 . refine⟨λO=>absurd O (zP o a),λ_=>⟨zP o a,?_,?_,r,?_,?_⟩,λQ=>absurd Q (oW o),λ_ k _=>absurd (sz a) k⟩
   . show A.cl<A.b+A.n+1;omega
   . rw[Deaf_own,hd,D]
     show _=dq P A (s.kT (.wt p) gv gm) A.cl;rw[q8 o a]
   . exact .inr (.inr ⟨rfl,E⟩)
   . exact .inr (by rw[upd_same];exact m)
variable(C:fG P A.ng)(X:gF P A.ng)
include C X in
theorem Nc(x:A.b+A.n+1<=Z.lk)(y:bn (bL P A Fin Z x) Z s f q kk OO J M gs w t)(v:s.c=.wt p)(R:p≠.wa)(D:gs[A.cl]?=some g)(S:QA P A Fin (.wt p) (kk A.cl) (OO A.cl) g)(sl:Option (Nat × Nat)):
 Goes P A Fin Z x s gs w t sl A.cl\/Dq P A s gs w sl A.cl g:=by
 have G:cI P A Z s kk OO J M gs.size w t:=y.ex;have H:=G.I.Qz;rw[v]at H;obtain⟨Y,rest,E,hT⟩:=S;have m:=G.gr;have hn:=A.hn;have hb:=A.hb;have O:CallKind.normal≠CallKind.early:=by decide
 have nx:∀{p' g1},gI P A.ng A.gb .normal (jZ A) p' (Y::rest) g1->∃n Q,iu P (jZ A) n g1 Q/\QA P A Fin (.wt p') (kk A.cl) (OO A.cl) Q:=λ⟨_,Q,⟨n,hs⟩,hA⟩=>⟨n,Q,hs,Y,rest,hA,hT⟩
 have cell:∀wr,Pg A.gb #[⟨.cell ⟨A.gb,0,none⟩,wr,true⟩]:=λwr e u=>by simp at u;subst u;exact .inl (.inr ⟨0,.inl rfl,rfl,rfl⟩)
 have hd:Deaf t A.cl=qW p:=by obtain⟨_,_,T,_⟩:=y.walk _ (sz v);rw[T];show dq P A s A.cl=_;rw[q8 G.off v]
 have z:s.c.waits=false->s.gv=0:=λh=>(G.I.calm h).1
 have K:∀l,l<A.n->(s.w l).cnt<=1:=λl _=>by
  cases e:s.w l with
  |dn p=>cases p<;>simp[ba.cnt]
  |_=>simp[ba.cnt]
 have a7:s.gc<=A.n+1:=by
  have h1:=G.I.g1;have h2:sumTo A.n (λj=>(s.w j).cnt)<=A.n:=nj A.n K
  have h3:s.ms.pend<=1:=by cases s.ms<;>simp[m8.pend];split<;>omega
  omega
 cases p<;>simp only[iG.ok,Bool.false_eq_true]at H
 case w0=>obtain⟨g1,a,r⟩:=T5 (Wd:=jZ A) (main:=A.dir) (w:=w) C X E O;exact .inl (l9 x y v .w0 hd D a m (aZ rfl) (λe u=>by simp at u;subst u;exact .inl (.inl (.inl rfl))) rfl id (nx r) sl)
 case w1=>
  have L:=z (by rw[v];rfl)
  have d:=m;rw[L]at d;obtain⟨g1,a,r⟩:=T6 (Wd:=jZ A) (main:=A.dir) C X d (by omega) E
  rcases r with⟨U,r⟩|⟨U,r⟩
  . exact .inl (l9 x y v (.Vi U) hd D a m (aZ rfl) (cell false) rfl id (nx r) sl)
  . exact .inl (l9 x y v (.w1 U) hd D a m (aZ rfl) (cell false) rfl id (nx r) sl)
 case we=>
  obtain⟨g1,a,r⟩:=T7 (Wd:=jZ A) (main:=A.dir) (w:=w) C X (λw h=>h.1) E O
  exact .inl (l9 x y v .we hd D a m (aZ rfl) (λe u=>by simp at u;subst u;exact .inl (.inl (.inr rfl))) rfl id (nx r) sl)
 case wa=>exact absurd rfl R
 case w2 k=>
  have L:=z (by rw[v];rfl)
  have d:=m;rw[L]at d
  rcases T8 (Wd:=jZ A) (main:=A.dir) C X (λw h=>h.2.1) d E with⟨F,g1,w',a,rfl,B,r⟩|⟨F,g1,a,r⟩
  . subst F
    exact .inl (l9 x y v .Vj hd D a B (⟨⟨.refl _,rfl⟩,.inr ⟨0,_,.inl rfl,rfl,rfl⟩⟩) (λe u=>by simp at u;rcases u with rfl|rfl<;>exact .inl (.inr ⟨0,.inl rfl,rfl,rfl⟩)) rfl id (nx r) sl)
  . exact .inl (l9 x y v (.Uf k F) hd D a m (aZ rfl) (cell false) rfl id (nx r) sl)
 case w3=>obtain⟨g1,a,r⟩:=T9 (Wd:=jZ A) (main:=A.dir) (w:=w) C X E O;exact .inl (l9 x y v .w3 hd D a m (aZ rfl) (λe u=>by simp at u;subst u;exact .inr ⟨1,.inr rfl,.inr rfl⟩) rfl id (nx r) sl)
 case w4=>
  by_cases N:s.gm=0
  . right
    have d:=m;rw[N]at d;have a:=RL (main:=A.dir) C X d E;refine⟨.inr ⟨rfl,v,N⟩,?_⟩;have h:=runT_crowd_go (P:=P) (sl:=sl) (i:=A.cl) D a
    have V:woken P g {g with status:=.blocked} w=id:=funext λo=>by unfold Go.Conc.woken;simp
    rw[V,Array.map_id]at h;exact h
  . left
    obtain⟨g1,w',a,rfl,B,r⟩:=Ua (Wd:=jZ A) (main:=A.dir) C X m N E O
    exact l9 x y v (.w4 N) hd D a B (⟨⟨.refl _,rfl⟩,.inr ⟨1,_,.inr rfl,rfl,rfl⟩⟩) (λe u=>by
     simp[semEvents]at u
     rcases u with rfl|rfl|rfl|rfl
     . exact .inl (.inl (.inl rfl))
     . exact .inl (.inr ⟨1,.inr rfl,rfl,rfl⟩)
     . exact .inl (.inr ⟨1,.inr rfl,rfl,rfl⟩)
     . exact .inl (.inl (.inr rfl))) rfl (λh=>absurd h N) (nx r) sl
 case w5=>
  obtain⟨W,L,m0,_⟩:=G.I.g8 (by rw[v];rfl)
  have d:=m;rw[W,L]at d;obtain⟨g1,a,r⟩:=Ub (Wd:=jZ A) (main:=A.dir) C X d E;exact .inl (l9 x y v .w5 hd D a m (aZ rfl) (cell false) rfl id (nx r) sl)
end
section
variable{Z:Base}{kk:Nat->ai}{OO:Nat->aj}{J M:Nat->Prop}{w:World}{t:Trace}
theorem bX.R5(h:bX Z kk OO J M w t){i:Nat}{ad:Addr}(E:J i)(r:ad.block<w.heap.size)(hd:Deaf t i=0)(F:∀p,M p->t.heard p/\Z.N0<=p/\t.act? p=some (.mark (.releaseMerge ad)))
 (G:∀m a,Z.N0<=m->t.act? m≠some (.mark (.release a))) (fn:FuncId) (pos:String):
 bX Z kk OO J (λ_=>False) w (t++MemOp.ofEvents i fn pos #[⟨.mark (.acquire ad),false,true⟩]):=by
 obtain⟨u,D⟩:∃u,u=MemOp.ofEvents i fn pos #[⟨.mark (.acquire ad),false,true⟩]:=⟨_,rfl⟩;have f:u=#[⟨i,fn,pos,.mark (.acquire ad)⟩]:=by rw[D,ofEvents_eq];simp[MemAct.ofEvent]
 rw[<-D];have H:∀op∈u,op.act.touch?=none:=λop c=>by rw[f]at c;simp at c;subst c;rfl
 have l:∀op∈u,op.g=i:=λop c=>by grind
 have z:u[0]?=some ⟨i,fn,pos,.mark (.acquire ad)⟩:=by grind
 have d:jK u:=λop c=>by grind
 have o:∀k,Z.N0<=k->∀a,(t++u).act? k≠some (.mark (.release a)):=λk A a e=>by
  rcases oU e with⟨q,_⟩|⟨op,c,q⟩
  . simp_all
  grind
 exact h.r9 (λa b=>a=b) rfl ⟨⟨.refl _,rfl⟩,λ_ _=>rfl⟩ (λb=>.inl rfl) (λop c=>by rw[f]at c;simp at c;subst c;simpa[MemAct.low]using r) (λa b e n y _ _ _ A=>by subst e;exact A.app u)
  (λj b n v h=>⟨j,rfl,h⟩) (λj b s h=>⟨j,rfl,h⟩) (λj b x h=>⟨j,rfl,h,λ_ h=>h⟩) h.iF
  (λsaid=>noRace_append (h.clean said) l λn a B op c b hb _=>by simp_all) (λop c a B=>by simp_all) (λm op a c B=>by grind)
  (λn a B L h=>h.elim (λ⟨j,q,C⟩=>.inr (.inl ⟨j,q,C.app _⟩)) (λ⟨p,q,C⟩=>by obtain⟨I,N,K⟩:=F p q;exact .inr (.inl ⟨i,E,lY (y:=⟨i,fn,pos,.mark (.acquire ad)⟩) d z rfl hd K I (λk A=>o k (by omega) ad) C⟩)))
end
section
variable{P:Program}{A:bt}{Fin:ai->aj->Goroutine->Prop}{Z:Base}{s:MS P}{f:Nat->Node P}{q:Nat->Nat}{kk:Nat->ai}{OO:Nat->aj}{J M:Nat->Prop}{gs:Array Goroutine}{w w':World}{t u:Trace}{c:iG}{p:uD}{gv gm:Nat}{g g1:Goroutine}
theorem sA(e:s.c=.iH\/s.c=.dL):c9 P A s A.cl:=.inr (.inr ⟨rfl,by grind⟩)
theorem Fi(hd:A.dir=false)(e:s.c=.iH\/s.c=.dL):¬fa P A s A.cl:=by
 have:=A.hb;have:=tx hd;rintro(⟨e,_⟩|⟨l,b,d,a⟩|⟨_,a⟩)
 . omega
 . omega
 grind
theorem Fj(hd:A.dir=false)(e:s.c≠.dL):bR P A Fin s A.cl=qg P A:=by
 have:=A.hb;have:=tx hd;unfold bR
 grind
theorem Fo(hd:A.dir=false)(e:s.c=.dL):bR P A Fin s A.cl=vG P A:=by
 have:=A.hb;have:=tx hd;unfold bR
 grind
theorem Oi{x:Node P}:MT P A s A.cl x:=λj h X a b _=>by have:=A.hb;omega
variable(C:fG P A.ng)(X:gF P A.ng)
include C X in
theorem Nd(v:A.b+A.n+1<=Z.lk)(F:bn (bL P A Fin Z v) Z s f q kk OO J M gs w t)(o:s.c=.wt .wa)(V:gs[A.cl]?=some g)(G:QA P A Fin (.wt .wa) (kk A.cl) (OO A.cl) g)(d:A.dir=false)(sl:Option (Nat × Nat)):
 Goes P A Fin Z v s gs w t sl A.cl:=by
 have j:cI P A Z s kk OO J M gs.size w t:=F.ex;have B:=aY (P:=P) (A:=A) (Fin:=Fin) (Z:=Z) v;obtain⟨c0,rest,hM,W⟩:=G;rw[if_neg (by rw[d];simp)]at W
 have a7:=tx d;have hb:=A.hb;have H:(A.cl==0)=false:=by simp;omega
 obtain⟨g1,K,hr,⟨k,x⟩⟩:=RJ (Wd:=λ_=>True) (main:=false) (w:=w) C X hM (by decide)
 obtain⟨tr⟩:=T.tree (P:=P) (m:=qg P A) rfl (W _ (ai.Le.refl _));obtain⟨T,_⟩:=TT.pre x tr;have z:=runT_crowd_go (P:=P) (sl:=sl) (i:=A.cl) V (by rw[H];exact K)
 have L:=sz (P:=P) (A:=A) o
 have hd:Deaf t A.cl=0:=by obtain⟨_,_,N,_⟩:=F.walk _ L;rw[N];show dq P A s A.cl=_;rw[q8 j.off o];rfl
 have hJ:J A.cl:=(j.hJ _).2 (.inr ⟨rfl,by rw[o];rfl⟩)
 have hG:A.gb<w.heap.size:=by obtain⟨c,e,Q⟩:=j.xC;exact(Array.getElem?_eq_some_iff.1 Q).1
 have hP:=F.cA.R5 (i:=A.cl) (ad:=⟨A.gb,0,none⟩) hJ hG hd (λp D=>by
  obtain⟨Q,h2,u⟩:=j.hM p D
  rcases u with⟨u,_⟩|⟨u,_⟩
  . exact⟨Q,h2,u⟩
  . rw[o]at u;cases u) j.norel g.frame.fn g.frame.place
 have E:∀op∈MemOp.ofEvents A.cl g.frame.fn g.frame.place #[⟨.mark (.acquire ⟨A.gb,0,none⟩),false,true⟩],op.g=A.cl:=λop r=>by obtain⟨e,_,rfl⟩:=Go.Conc.mem_ofEvents r;rfl
 have R:cI P A Z (s.kT .iH s.gv s.gm) kk OO J (λ_=>False) gs.size w (t++MemOp.ofEvents A.cl g.frame.fn g.frame.place #[⟨.mark (.acquire ⟨A.gb,0,none⟩),false,true⟩]):=
  j.R2 (Jn (s:=s) (c:=.iH)) (λ_ _=>rfl) (λ_ _=>rfl) (zO d (j.off.2.2 d)) (by rw[o];rfl) (by rw[o];rfl) (λp D=>D.elim) (λe=>by rw[o]at e;cases e) (λ⟨p,D⟩=>D.elim) (λi=>by unfold dF;rw[o];rfl) (j.I.Vk o .wa) rfl j.gr (aZ rfl) (λop r=>by obtain⟨e,Y,rfl⟩:=Go.Conc.mem_ofEvents r;simp at Y;subst Y;exact⟨λa ha=>by simp[MemAct.ofEvent,MemAct.touch?]at ha,λa h=>by simp[MemAct.ofEvent]at h⟩)
 have S:Beside (bL P A Fin Z v) s (s.kT .iH s.gv s.gm) f (bF f A.cl ⟨qg P A,kk A.cl,OO A.cl,g1,T⟩) q q kk kk OO OO J J w A.cl g g1:=kS v Jn (λi hi=>aA _ _ hi) (λ_ _=>rfl) (λ_ _ _=>rfl) (λ_ _ _=>rfl) (λ_ _ h=>h) (.inl ⟨id,id⟩) (λ{i k O y} U=>B.jS (s:=s) (i:=i) (k:=k) (O:=O) (g:=y) U)
 refine⟨_,_,z,s.kT .iH s.gv s.gm,bF f A.cl ⟨qg P A,kk A.cl,OO A.cl,g1,T⟩,q,kk,OO,J,(λ_=>False),_,_,_,rfl,BB o .wa,?_⟩
 refine bn.step B F V E hP R (λl y hl U=>B.qP j hl _ _ U) S ⟨λ_=>?_,λh=>absurd h (Fi d (.inl rfl)),λh=>absurd h (oW (zO d (j.off.2.2 d))),λh=>absurd (sA (.inl rfl)) h⟩
 rw[az];refine⟨by show A.cl<A.b+A.n+1;omega,rfl,?_,rfl,rfl,hr,?_,.inr hJ,Oi⟩
 . show qg P A=bR P A Fin (s.kT .iH s.gv s.gm) A.cl
   rw[Fj d (by simp[MS.kT])]
 . rw[Deaf_own,hd];rfl
end
theorem sB {P:Program} {y:Sy} {s:iX} {fr:Frame} {x:FuncId × List SV} {f:FuncId} {iT:Array Value} {kind:CallKind} (a:FR y s fr) (h:aU s=some x):fr≠Frame.enter P f iT kind:=fun e=>by
 obtain⟨ops,i,rest,kk,o,as,b,d,g,j,k,c,l⟩:=cT (f:=x.1) (svs:=x.2) a h;have:fr.todo = .inRegion ops (i :: rest) :: kk:=by rw[c];rfl
 rw[e] at this;simp[Frame.enter] at this
theorem zQ{fr a:Frame}{cs b:List Frame}(h:G fr cs=G a b):fr=a:=by have:=congrArg Goroutine.frame h;exact this
section
variable{P:Program}{A:bt}{Fin:ai->aj->Goroutine->Prop}{Z:Base}{s:MS P}{f:Nat->Node P}{q:Nat->Nat}{kk:Nat->ai}{OO:Nat->aj}{J M:Nat->Prop}{gs:Array Goroutine}{w w':World}{t u:Trace}{j:Nat}{c:iG}{p:uD}{gv gm:Nat}{g g1:Goroutine}
variable(C:fG P A.ng)(X:gF P A.ng)
include C in
theorem BC{b:Nat}{kind a:CallKind}{cs:List Frame}{f:FuncId}{iT:Array Value}{n:Nat}{Wd:World->Prop}{d:Goroutine}(h:iu P Wd n (G (Frame.enter P f iT a) cs) d)(g:pK P A.ng b kind .w0 cs d):n≠0:=λe=>by subst e;obtain⟨c,y,fr,i,rfl,l,j,k,rfl⟩:=g;exact sB j (C.w0 b kind).1 (zQ h).symm
include C in
theorem Jo{b:Nat}{kind a:CallKind}{cs:List Frame}{f:FuncId}{iT:Array Value}{n:Nat}{Wd:World->Prop}{d:Goroutine}(h:iu P Wd n (G (Frame.enter P f iT a) cs) d)(g:pK P A.ng b kind .a0 cs d):n≠0:=λe=>by subst e;obtain⟨c,y,fr,i,rfl,l,j,k,rfl⟩:=g;exact sB j (C.a0 b kind).1 (zQ h).symm
include C in
theorem Jp{b:Nat}{kind a:CallKind}{cs:List Frame}{f:FuncId}{iT:Array Value}{n:Nat}{Wd:World->Prop}{d:Goroutine}(h:iu P Wd n (G (Frame.enter P f iT a) cs) d)(g:pK P A.ng b kind .d1 cs d):n≠0:=λe=>by subst e;obtain⟨c,y,fr,i,rfl,l,j,k,rfl⟩:=g;exact sB j (C.d1 b).1 (zQ h).symm
include C X in
theorem Gn(h:A.b+A.n+1<=Z.lk)(i:bn (bL P A Fin Z h) Z s f q kk OO J M gs w t)(u:s.c=.dL){k:ai}{O:aj}{N:ai->aj->Goroutine->Prop}(j:k=kk A.cl)(l:O=OO A.cl)(z:gs[A.cl]?=some g)(B:(vG P A).cN k O g N)(a:A.dir=false)(sl:Option (Nat × Nat)):
 Goes P A Fin Z h s gs w t sl A.cl:=by
 have v:cI P A Z s kk OO J M gs.size w t:=i.ex;obtain⟨_,_,_,_,_,_,m,_⟩:=i.live _ (sA (.inr u));obtain⟨rfl,x,rest,rfl,D⟩:=B;subst j l;obtain⟨E,⟨n,d⟩,y⟩:=oa (P:=P) (n:=A.ng) (b:=A.gb) (kind:=.normal) (cs:=x::rest) (Wd:=jZ A) X C;cases n with
 |zero=>exact absurd rfl (BC C d y)
 |succ n=>obtain⟨g1,⟨F,o⟩,p⟩:=d;have r:jZ A w:=(aY (P:=P) (A:=A) (Fin:=Fin) (Z:=Z) h).wd v;exact l9 h i u .call m z (by rw[a];exact o false w r) v.gr (aZ rfl) (λe G=>by simp at G) rfl id ⟨n,E,p,x,rest,y,by rw[if_neg (by rw[a];simp)];exact D⟩ sl
theorem q9(a:j<A.n)(e:s.w j=.xi):c9 P A s (A.b+j):=.inr (.inl ⟨j,a,rfl,by simp_all⟩)
theorem sC(a:j<A.n)(e:s.w j=.xi):¬ep P A s (A.b+j):=by
 have:=A.hb;rintro(⟨e,_⟩|⟨l,c,d,f⟩)
 . omega
 simp_all
include C X in
theorem Gp(u:A.b+A.n+1<=Z.lk)(v:bn (bL P A Fin Z u) Z s f q kk OO J M gs w t)(a:j<A.n)(d:s.w j=.xi){k:ai}{O:aj}{N:ai->aj->Goroutine->Prop}(K:gs[A.b+j]?=some g)(L:(jY P A).cN k O g N)(sl:Option (Nat × Nat)):
 Goes P A Fin Z u s gs w t sl (A.b+j):=by
 have p:cI P A Z s kk OO J M gs.size w t:=v.ex;have hb:=A.hb;obtain⟨_,_,_,_,_,_,y,_⟩:=v.live _ (q9 a d);obtain⟨rfl,G,fn,tmps,todo,z,r,rfl⟩:=L;have B:(A.b+j==0)=false:=by simp;omega
 obtain⟨Q,⟨n,o⟩,H⟩:=vE (P:=P) (n:=A.ng) (b:=A.gb) (kind:=.deferred) (cs:=[jO P G tmps todo,cd P]) (Wd:=jZ A) X (λw h=>h.1) C
 cases n with
 |zero=>exact absurd rfl (Jp C o H)
 | succ n=>
   obtain⟨g1,⟨R,D⟩,E⟩:=o;have F:jZ A w:=(aY (P:=P) (A:=A) (Fin:=Fin) (Z:=Z) u).wd p;obtain⟨x,m⟩:∃x:ba P,x=.dn .d1:=⟨_,rfl⟩;have c:(s.aP j x s.sh).w j=.dn .d1:=by rw[aQ,m]
   have S:bD A.n (s.aP j x s.sh):=p.I.uG a (by rw[d];rfl) (by rw[m];rfl) (.inl (by rw[m,d];rfl)) (by rw[m];rfl) (by rw[m,d];rfl)
   have T:MS.eU A.n (s.aP j x s.sh) s:=qY a (by rw[m,d];simp[ba.bT])
   have hJ:J (A.b+j):=(p.hJ _).2 (.inl ⟨j,a,rfl,by rw[d];rfl⟩)
   refine zL (s':=s.aP j x s.sh) (f':=f) (q':=upd q (A.b+j) n) (es:=#[]) u v (gK p.I a (by rw[d];rfl)) (sC a d) K (by rw[B];exact D false w F) (vJ a (.inl (by rw[m,d];rfl))) (λl _=>?_) (λl _=>?_) p.off rfl rfl id (na a (by rw[m,d];rfl)) S rfl p.gr (aZ rfl) (.inl eF) T (.inl (.inr hJ)) (.inl id) (λ_ _=>rfl) (λi U=>upd_ne q n U) ?_ sl
   . by_cases e:l=j
     . subst e;rw[aQ,m,d];rfl
     . rw[bU e]
   . by_cases e:l=j
     . subst e;rw[aQ,m,d];rfl
     . rw[bU e]
   . refine⟨λV=>absurd V (jE a c),λ_=>⟨jE a c,?_,?_,Q,?_,?_⟩,λW=>absurd W (og a c),λ_ Y _=>absurd (lJ a c) Y⟩
     . show A.b+j<A.b+A.n+1;omega
     . rw[Deaf_own,y]
       show _=dq P A (s.aP j x s.sh) (A.b+j);rw[dS a,c];rfl
     . refine .inr (.inl ⟨j,a,rfl,?_⟩)
       rw[c];exact⟨G,fn,tmps,todo,z,r,H⟩
     . exact .inr (by rw[upd_same];exact E)
end
section
variable{P:Program}
def MS.ma(s:MS P)(ms:m8)(gc:Nat):MS P:={s with ms:=ms,gc:=gc}
inductive BD(s:MS P):m8->m8->Nat->Prop
 |call (j:Nat):1<=j->BD s (.add j) (.bh j .a0) s.gc
 |a0 (j:Nat):BD s (.bh j .a0) (.bh j .a2) s.gc
 |a2 (j:Nat) (p:uD):p=.a4\/p=.ae->BD s (.bh j .a2) (.bh j p) (s.gc+1)
 |a4 (j:Nat):BD s (.bh j .a4) (.bh j .ae) s.gc
 |ae (j:Nat):BD s (.bh j .ae) (.spawn (j-1)) s.gc
theorem bD.WV{n:Nat}{s:MS P}(I:bD n s){m0 m1:m8}{gc:Nat}(f:s.ms=m0)(h:BD s m0 m1 gc):bD n (s.ma m1 gc)/\s.c=.none:=by
 have a:=I.ms;rw[f]at a;have d:s.c=.none:=by cases h<;>first|exact a.2|exact a.2.1
 obtain⟨k,i,g⟩:=I.calm (by rw[d];rfl);refine⟨⟨?_,I.g2,I.Jd,λj b h=>?_,I.H6,λj b h=>?_,⟨I.g5.1,λh=>(by have h:s.gm=1:=h;omega)⟩,I.g6,λh=>(by have h:s.gv=1:=h;omega),λh=>?_,I.g9,I.ok,I.Qz,I.sp,I.idle,?_,I.early,I.mu⟩,d⟩
 . have:=I.g1
   rw[f]at this;show gc=sumTo n (λj=>(s.w j).cnt)+m1.pend;cases h with
   |a2 j p e=>rcases e with rfl|rfl<;>simp_all [m8.pend]
   |_=>simp_all [m8.pend]
 . have h:s.w j=.dn .d5\/s.w j=.dn .d6:=h
   have:=g j b;rcases h with h|h<;>rw[h]at this<;>cases this
 . have h:s.w j=.dn .d7:=h
   have:=g j b;rw[h]at this;cases this
 . have h:s.c.Jc=true:=h
   rw[d]at h;cases h
 . cases h with
   |call j b=>exact⟨a.1,a.2,b,.inl rfl⟩
   |a0 j=>exact⟨a.1,a.2.1,a.2.2.1,.inr (.inl rfl)⟩
   |a2 j p e=>exact⟨a.1,a.2.1,a.2.2.1,.inr (.inr e)⟩
   |a4 j=>exact⟨a.1,a.2.1,a.2.2.1,.inr (.inr (.inr rfl))⟩
   |ae j=>exact⟨by have l:=a.1;have m:=a.2.2.1;show s.sp+(j-1)+1=n;omega,a.2.1⟩
theorem Jq{n:Nat}{s:MS P}{m0 m1:m8}{gc:Nat}(a:s.c=.none)(b:∀j p,m0=.bh j p->1<=j)(d:s.ms=m0)(h:BD s m0 m1 gc):MS.eU n (s.ma m1 gc) s:=by
 refine .inl ?_;show m1.bT+sumTo n (λi=>(s.w i).bT)+s.c.bT gc<s.ms.bT+sumTo n (λi=>(s.w i).bT)+s.c.bT s.gc;rw[d,a];have e:∀x,iG.bT x .none=0:=λ_=>rfl
 rw[e,e]
 have:m1.bT<m0.bT:=by
  cases h with
  |a2 j p f=>rcases f with rfl|rfl<;>simp[m8.bT]
  |ae j=>have:=b j .ae rfl;simp only[m8.bT];omega
  |_=>simp[m8.bT]
 omega
end
section
variable{P:Program}{A:bt}{Fin:ai->aj->Goroutine->Prop}{Z:Base}{s:MS P}{f f':Nat->Node P}{q q':Nat->Nat}{kk:Nat->ai}{OO:Nat->aj}{J M:Nat->Prop}{gs:Array Goroutine}{w w':World}{t u:Trace}{j:Nat}{c:iG}{p:uD}{gc:Nat}{g g1:Goroutine}{m0 m1:m8}
theorem Dt(e:s.ms=.bh j p):fa P A s 0:=.inl ⟨rfl,by simp_all⟩
theorem Fp(b:s.c=.none)(e:s.ms=.bh j p):¬c9 P A s 0:=by
 have:=A.hb;rintro(⟨_,a⟩|⟨l,d,f,a⟩|⟨_,a⟩)
 . simp_all
 . omega
 simp_all
theorem lL(e:s.ms≠.parked):¬ep P A s 0:=by
 have:=A.hb;rintro(⟨_,a⟩|⟨l,b,c,a⟩)
 . exact e a
 . omega
theorem Fq(e:s.ms=.bh j p):dq P A s 0=qW p:=by
 unfold dq
 simp_all
theorem R6:dZ A s (s.ma m1 gc) 0:=⟨λ_ _ _=>rfl,λ_=>rfl,λh=>absurd rfl h,rfl,rfl,.inl λ_ _=>rfl⟩
theorem sD(r:A.b+A.n+1<=Z.lk)(Q:bn (bL P A Fin Z r) Z s f q kk OO J M gs w t)(z:s.ms=m0)(o:BD s m0 m1 gc){d:Nat}(hd:Deaf t 0=d)(T:gs[0]?=some g){es:Array Event}(B:stepG P true g w=.go g1 w' es)
 (C:pJ A.gb w' gc s.gv s.gm) (D:MW A.gb 0 w w') (E:Pg A.gb es)
 (U:(∃j p n y,m1=.bh j p/\deafBehind d es=qW p/\iu P (jZ A) n g1 y/\Tp P A Fin (.bh j p) (kk 0) (OO 0) y)\/
   (∃j,m1=.spawn j/\deafBehind d es=0/\g1.status=.running/\∃R:TT P (Dk P A Fin j) (kk 0) (OO 0) g1,True)) (sl:Option (Nat × Nat)):Goes P A Fin Z r s gs w t sl 0:=by
 have S:cI P A Z s kk OO J M gs.size w t:=Q.ex;have hb:=A.hb;have V:((0:Nat)==0)=true:=rfl;obtain⟨W,k⟩:=S.I.WV z o;have F:s.c.isNone=true:=by rw[k];rfl
 have Y:MS.eU A.n (s.ma m1 gc) s:=Jq k (λj p e=>by have:=S.I.ms;simp_all) z o
 have ho:uj P A (s.ma m1 gc):=⟨λ_ h=>absurd k h,λ_=>⟨by cases o<;>simp[MS.ma],by cases o<;>simp[MS.ma],by rw[show(s.ma m1 gc).c=.none from k];simp⟩,λ_=>by cases o<;>simp[MS.ma]⟩
 have G:s.ms≠.parked:=by rw[z];cases o<;>simp
 have H:∀fn pos,Deaf (t++MemOp.ofEvents 0 fn pos es) 0=deafBehind d es:=λfn pos=>by rw[Deaf_own,hd]
 have go:∀(f':Nat->Node P) (q':Nat->Nat),(∀i,i≠0->f' i=f i)->(∀i,i≠0->q' i=q i)->Self P (bL P A Fin Z r) (s.ma m1 gc) f' q' kk OO J (t++MemOp.ofEvents 0 g.frame.fn g.frame.place es) 0 g1->Goes P A Fin Z r s gs w t sl 0:=λf' q' hf hq m=>zL (s':=s.ma m1 gc) r Q (.inl rfl) (lL G) T B R6 (λ_ _=>rfl) (λ_ _=>rfl) ho rfl rfl id (λi=>Iff.rfl) W rfl C D (.inr ⟨E,by rw[F];rfl⟩) Y (.inl (.inl rfl)) (.inl id) hf hq m sl
 rcases U with⟨j,p,n,y,rfl,u,v,K⟩|⟨j,rfl,u,hr,R,_⟩
 . have a:(s.ma (.bh j p) gc).ms=.bh j p:=rfl
   refine go f (upd q 0 n) (λ_ _=>rfl) (λi L=>upd_ne q n L) ⟨λhl=>absurd hl (Fp (s:=s.ma (.bh j p) gc) k a),λ_=>⟨Fp (s:=s.ma (.bh j p) gc) k a,?_,?_,y,?_,?_⟩,λhh=>absurd hh (lL (by simp_all)),λ_ F _=>absurd (Dt a) F⟩
   . show 0<A.b+A.n+1;omega
   . rw[H,u]
     show _=dq P A (s.ma (.bh j p) gc) 0;rw[Fq a]
   . exact .inl ⟨rfl,K⟩
   . exact .inr (by rw[upd_same];exact v)
 . have N:c9 P A (s.ma (.spawn j) gc) 0:=.inl ⟨rfl,trivial⟩
   have O:¬fa P A (s.ma (.spawn j) gc) 0:=by
    rintro(⟨_,x⟩|⟨l,h1,h2,x⟩|⟨_,x⟩)
    . exact x
    . omega
    . rw[show(s.ma (.spawn j) gc).c=.none from k]at x;exact x
   refine go (bF f 0 ⟨Dk P A Fin j,kk 0,OO 0,g1,R⟩) q (λi L=>aA _ _ L) (λ_ _=>rfl) ⟨λ_=>?_,λh=>absurd h O,λh=>absurd h (lL (by simp[MS.ma])),λh=>absurd N h⟩
   rw[az];refine⟨by show 0<A.b+A.n+1;omega,rfl,?_,rfl,rfl,hr,by grind,.inl rfl,λl h X h1 h2 _=>by omega⟩
   show Dk P A Fin j=bR P A Fin (s.ma (.spawn j) gc) 0;unfold bR;rw[if_pos rfl];rfl
variable(C:fG P A.ng)(X:gF P A.ng)
include C X in
theorem BE(z:A.b+A.n+1<=Z.lk)(B:bn (bL P A Fin Z z) Z s f q kk OO J M gs w t)(o:s.ms=.bh j p)(D:gs[0]?=some g)(N:Tp P A Fin (.bh j p) (kk 0) (OO 0) g)(sl:Option (Nat × Nat)):Goes P A Fin Z z s gs w t sl 0:=by
 have K:cI P A Z s kk OO J M gs.size w t:=B.ex;have E:=K.I.ms;rw[o]at E;obtain⟨_,W,Y,hp⟩:=E;obtain⟨O,a7,hl⟩:=K.I.calm (by rw[W];rfl)
 obtain⟨S,rest,L,U⟩:=N;have i:=K.gr;have hn:=A.hn;have Q:CallKind.normal≠CallKind.early:=by decide
 have nx:∀{V g1},gI P A.ng A.gb .normal (jZ A) V (S::rest) g1->∃n c,iu P (jZ A) n g1 c/\Tp P A Fin (.bh j V) (kk 0) (OO 0) c:=λ⟨_,c,⟨n,hs⟩,hA⟩=>⟨n,c,hs,S,rest,hA,U⟩
 have hd:Deaf t 0=qW p:=by obtain⟨_,_,R,_⟩:=B.walk _ (Dt o);rw[R];show dq P A s 0=_;rw[Fq o]
 have F:∀l,l<A.n->(s.w l).cnt<=1:=λl _=>by
  cases e:s.w l with
  |dn p=>cases p<;>simp[ba.cnt]
  |_=>simp[ba.cnt]
 have a8:s.gc<=A.n+1:=by
  have r:=K.I.g1;have u:sumTo A.n (λj=>(s.w j).cnt)<=A.n:=nj A.n F
  have h3:s.ms.pend<=1:=by cases s.ms<;>simp[m8.pend];split<;>omega
  omega
 rcases hp with rfl|rfl|rfl|rfl
 . obtain⟨g1,a,hN⟩:=TS (Wd:=jZ A) (main:=true) (w:=w) C X L Q
   obtain⟨n,c,r,u⟩:=nx hN;exact sD z B o (.a0 j) hd D a i (aZ rfl) (λe d=>by simp at d;subst d;exact .inl (.inl (.inl rfl))) (.inl ⟨j,_,n,c,rfl,rfl,r,u⟩) sl
 . have x:=i
   rw[O]at x;obtain⟨g1,w',a,rfl,y,hN⟩:=TU (Wd:=jZ A) (main:=true) (v:=0) C X (λw h=>h.2.1) x (by omega) L
   have G:Pg A.gb #[⟨.cell ⟨A.gb,0,none⟩,false,true⟩,⟨.cell ⟨A.gb,0,none⟩,true,true⟩]:=λe d=>by simp at d;rcases d with rfl|rfl<;>exact .inl (.inr ⟨0,.inl rfl,rfl,rfl⟩)
   rcases hN with hN|hN
   . obtain⟨n,c,r,u⟩:=nx hN
     exact sD z B o (.a2 j _ (.inl rfl)) hd D a (by rw[O];exact y) (⟨⟨.refl _,rfl⟩,.inr ⟨0,_,.inl rfl,rfl,rfl⟩⟩) G (.inl ⟨j,_,n,c,rfl,rfl,r,u⟩) sl
   . obtain⟨n,c,r,u⟩:=nx hN
     exact sD z B o (.a2 j _ (.inr rfl)) hd D a (by rw[O];exact y) (⟨⟨.refl _,rfl⟩,.inr ⟨0,_,.inl rfl,rfl,rfl⟩⟩) G (.inl ⟨j,_,n,c,rfl,rfl,r,u⟩) sl
 . obtain⟨g1,a,hN⟩:=TV (Wd:=jZ A) (main:=true) (w:=w) C X L Q
   obtain⟨n,c,r,u⟩:=nx hN;exact sD z B o (.a4 j) hd D a i (aZ rfl) (λe d=>by simp at d;subst d;exact .inr ⟨1,.inr rfl,.inl rfl⟩) (.inl ⟨j,_,n,c,rfl,rfl,r,u⟩) sl
 . obtain⟨g1,a,hr,⟨k,H⟩⟩:=TW (Wd:=λ_=>True) (main:=true) (w:=w) C X L Q
   obtain⟨tr⟩:=T.tree (P:=P) (m:=Dk P A Fin (j-1)) rfl U;obtain⟨T,_⟩:=TT.pre H tr;exact sD z B o (.ae j) hd D a i (aZ rfl) (λe d=>by simp at d;subst d;exact .inl (.inl (.inr rfl))) (.inr ⟨j-1,rfl,rfl,hr,T,trivial⟩) sl
include C X in
theorem Jr(c:A.b+A.n+1<=Z.lk)(d:bn (bL P A Fin Z c) Z s f q kk OO J M gs w t)(r:s.ms=.add (j+1)){k:ai}{O:aj}{N:ai->aj->Goroutine->Prop}(h:k=kk 0)(i:O=OO 0)(y:gs[0]?=some g)(z:(nK P A Fin (j+1)).cN k O g N)(sl:Option (Nat × Nat)):
 Goes P A Fin Z c s gs w t sl 0:=by
 have u:cI P A Z s kk OO J M gs.size w t:=d.ex;obtain⟨_,_,_,_,_,_,l,_⟩:=d.live 0 (.inl ⟨rfl,by rw[r];trivial⟩);obtain⟨rfl,v,rest,rfl,B⟩:=z;subst h i;obtain⟨D,⟨n,a⟩,x⟩:=xA (P:=P) (n:=A.ng) (b:=A.gb) (kind:=.normal) (cs:=v::rest) (Wd:=jZ A) X;cases n with
 |zero=>exact absurd rfl (Jo C a x)
 |succ n=>obtain⟨g1,⟨E,m⟩,o⟩:=a;have p:jZ A w:=(aY (P:=P) (A:=A) (Fin:=Fin) (Z:=Z) c).wd u;exact sD c d r (.call (j+1) (by omega)) l y (m true w p) u.gr (aZ rfl) (λe F=>by simp at F) (.inl ⟨j+1,.a0,n,D,rfl,rfl,o,v,rest,x,B⟩) sl
end
end Go.bu
