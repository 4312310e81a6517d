import Derived.Test.YtkcceaplmgdnfaaGreatDoorC19
set_option linter.all false
namespace Go.bQ
section
open Go.Conc
open Go.ConcN (sumTo upd sumTo_upd upd_ne upd_same)
theorem xx{e:Event}(h:MemAct.ofEvent e=.mark .enable):e.loc=.mark .enable:=by
 obtain⟨loc,wr,a⟩:=e;cases loc with
 |mark m=>cases m<;>simp_all [MemAct.ofEvent]
 |cell b=>simp[MemAct.ofEvent]at h
 |obj r=>cases wr<;>cases a<;>simp[MemAct.ofEvent]at h
 |_=>simp[MemAct.ofEvent]at h
theorem mI{i:Nat}{fn:FuncId}{pos:String}{es:aca}(h:∀e∈es,e.loc≠.mark .enable):∀(m:Nat) (op:MemOp) (a:Touch),(MemOp.ofEvents i fn pos es)[m]?=some op->op.act.touch?=some a->∀(l:Nat) (b:MemOp),l<m->(MemOp.ofEvents i fn pos es)[l]?=some b->b.act≠.mark .enable:=λm op a _ _ l b _ c d=>by obtain⟨e,f,rfl⟩:=Go.Conc.mem_ofEvents (ZV c);exact h e f (xx d)
theorem H5{i:Nat}{fn:FuncId}{pos:String}{ad:Addr}:∀(m:Nat) (op:MemOp) (a:Touch),(MemOp.ofEvents i fn pos (semEvents ad))[m]?=some op->op.act.touch?=some a->∀(l:Nat) (c:MemOp),l<m->(MemOp.ofEvents i fn pos (semEvents ad))[l]?=some c->c.act≠.mark .enable:=λm op a d f l c e b=>by
 rw[ofEvents_eq]at d b;simp only[semEvents]at d b
 match m,l,e with
 |0,l,e=>omega
 |1,0,_=>simp at b;subst b;simp[MemAct.ofEvent]
 |2,0,_=>simp at b;subst b;simp[MemAct.ofEvent]
 |2,1,_=>simp at b;subst b;simp[MemAct.ofEvent]
 |3,l,_=>simp at d;subst d;simp[MemAct.ofEvent,MemAct.touch?]at f
 |m+4,l,_=>simp at d
theorem ow:∀(n:Nat){F:acs},(∀l,l<n->F l<=1)->sumTo n F<=n
 |0,_,_=>ZF _
 | n+1,F,h=>by
   have a:=ow n (F:=F) (λl b=>h l (by omega));have c:=h n (by omega);simp only[sumTo];omega
section
variable{P:acD}{A:bJ}{Fin:abz}{Z:Base}{s:MS P}{f:Nat->Node P}{q:acs}{kk:acy}{OO:acx}{J M:ack}{gs:abH}{w w':World}{t u:Trace}{j:Nat}{x:bn P}{gc gv gm:Nat}{g g1:aco}
theorem E7{p:vS}(h:Bx s p x gc gv gm):x.iF=true/\x.owns=false/\x.busy=false/\(bn.dn (P:=P) p).busy=false/\(bn.dn (P:=P) p).deaf=1/\(x=.gone\/∃a,x=.dn a/\x.deaf=1)/\x.iv=true:=by cases h<;>simp[bn.iF,bn.owns,bn.busy,bn.deaf,bn.iv]
theorem sM(r:A.b+A.n+1<=Z.lk)(E:bF (bY P A Fin Z r) Z s f q kk OO J M gs w t)(hj:j<A.n){p:vS}(d:s.w j=.dn p)(W:gs[A.b+j]?=some g){es:aca}(X:stepG P false g w=.go g1 w' es)(F:Bx s p x gc gv gm)
 (G:qY A.gb w' gc gv gm) (H:MW A.gb 0 w w') (u:EvM A.gb 0 es) (K:deafBehind 1 es=1)
 (Y:∀(m:Nat) (op:MemOp) (a:Touch),(MemOp.ofEvents (A.b+j) g.frame.fn g.frame.place es)[m]?=some op->op.act.touch?=some a->∀(l:Nat) (v:MemOp),l<m->(MemOp.ofEvents (A.b+j) g.frame.fn g.frame.place es)[l]?=some v->v.act≠.mark .enable)
 (y:(s.gm=0->gm=0)\/(mayWake P g=true/\(g1.status=.running\/g1.status=.finished)))
 (hs:(∃C,x=.dn C/\∃n D,jb P (kQ A) n g1 D/\GN P A j (.dn C) (kk (A.b+j)) (OO (A.b+j)) D)\/(x=.gone/\∃m,QuitsD P m 1 g1)) (sl:abC):Goes P A Fin Z r s gs w t sl (A.b+j):=by
 have L:c8 P A Z s kk OO J M gs.size w t:=E.ex;have hb:=A.hb;have a7:(A.b+j==0)=false:=by simp;omega
 obtain⟨f1,f2,f3,f4,f5,f6,f7⟩:=E7 F;have N:=mH (P:=P) (A:=A) (s:=s) hj d
 have O:Deaf t (A.b+j)=1:=by obtain⟨_,_,Q,_⟩:=E.walk _ N;rw[Q];show dL P A s (A.b+j)=1;rw[eF hj,d];exact f5
 have c:(s.iy j x gc gv gm).w j=x:=bL
 have k:∀l,((s.iy j x gc gv gm).w l).busy=(s.w l).busy:=λl=>by
  by_cases e:l=j
  . simp_all
  . rw[dv e]
 have hS:eZ A s (s.iy j x gc gv gm) (A.b+j):=⟨λl _ S=>dv (by omega),λ_=>rfl,λ_=>rfl,rfl,rfl,.inl λl _=>by
  by_cases e:l=j
  . subst e;rw[bL,d,f1];rfl
  . rw[dv e]⟩
 have hI:=L.I.done hj d F;have hL:=H4 hj d F;have z:∀fn pos,Deaf (t++MemOp.ofEvents (A.b+j) fn pos es) (A.b+j)=1:=λfn pos=>by rw[Deaf_own,O];exact K
 have go:∀(R:Nat),Self P (bY P A Fin Z r) (s.iy j x gc gv gm) f (upd q (A.b+j) R) kk OO J (t++MemOp.ofEvents (A.b+j) g.frame.fn g.frame.place es) (A.b+j) g1->Goes P A Fin Z r s gs w t sl (A.b+j):=λR o=>
  Bw r E (iG L.I hj (by rw[d];rfl)) (pN hj d) W (by grind) hS (λl _=>by
   by_cases e:l=j
   . subst e;rw[bL,d,f2];rfl
   . rw[dv e]) (λl _=>by
   by_cases e:l=j
   . subst e;rw[bL,d,f7];rfl
   . rw[dv e]) L.off rfl rfl id (λi=>by unfold dU;simp only[k];rfl) hI rfl G H (.inl u) hL (.inr ⟨u,E6 (by omega) Y⟩) y (λ_ _=>rfl) (λi hi=>upd_ne q R hi) o sl
 rcases hs with⟨C,rfl,n,D,B,a8⟩|⟨rfl,m,hq⟩
 . refine go n ⟨λS=>absurd S (kh hj c),λ_=>⟨kh hj c,?_,?_,D,?_,?_⟩,λhh=>absurd hh (pN hj c),λ_ hn _=>absurd (mH hj c) hn⟩
   . show A.b+j<A.b+A.n+1;omega
   . rw[z]
     show 1=dL P A (s.iy j (.dn C) gc gv gm) (A.b+j);rw[eF hj,c]
     simp_all
   . exact .inr (.inl ⟨j,hj,rfl,by simp_all⟩)
   . exact .inr (by rw[upd_same];exact B)
 . have nl:¬dA P A (s.iy j .gone gc gv gm) (A.b+j):=by
    rintro(⟨e,_⟩|⟨l,T,U,V⟩|⟨e,_⟩)
    . omega
    . simp_all
    . omega
   have nw:¬gu P A (s.iy j .gone gc gv gm) (A.b+j):=by
    rintro(⟨e,_⟩|⟨l,T,U,V⟩|⟨e,_⟩)
    . omega
    . simp_all
    . omega
   have nh:¬fq P A (s.iy j .gone gc gv gm) (A.b+j):=by
    rintro(⟨e,_⟩|⟨l,T,U,V⟩)
    . omega
    simp_all
   exact go m ⟨λh=>absurd h nl,λh=>absurd h nw,λh=>absurd h nh,λ_ _ _=>⟨by omega,by rw[upd_same,z];exact hq⟩⟩
variable(C:gM P A.ng)(X:iD P A.ng)
theorem OV{n:HV}{b:Nat}{kind:acv}{cs:acb}{g:aco}(C:gM P n)(X:iD P n)(h:qZ P n b kind .d7 cs g):mayWake P g=true:=by
 obtain⟨c,y,fr,f,⟨rfl,l⟩,m,i,j,rfl⟩:=h;have d:=EY (y:=y) (a:=true) (by simp_all);obtain⟨e,k⟩:=C.d9 b (Fl.of y);rw[d]at e k;exact Bu i e X.oh
include C X in
theorem OW(y:A.b+A.n+1<=Z.lk)(B:bF (bY P A Fin Z y) Z s f q kk OO J M gs w t)(hj:j<A.n){p:vS}(r:s.w j=.dn p)(E:gs[A.b+j]?=some g)(L:GN P A j (.dn p) (kk (A.b+j)) (OO (A.b+j)) g)(sl:abC):Goes P A Fin Z y s gs w t sl (A.b+j):=by
 have z:c8 P A Z s kk OO J M gs.size w t:=B.ex;have N:=z.I.ok j hj;rw[r]at N;have D:=L;obtain⟨fw,fn,tmps,todo,F,u,O⟩:=L;have v:=z.gr;have hn:=A.hn;have nx:∀{p' g1},iE P A.ng A.gb .deferred (kQ A) p' [kD P fw tmps todo,cI P] g1->∃n g2,jb P (kQ A) n g1 g2/\GN P A j (.dn p') (kk (A.b+j)) (OO (A.b+j)) g2:=λ⟨_,g2,⟨n,hs⟩,hA⟩=>⟨n,g2,hs,fw,fn,tmps,todo,F,u,hA⟩
 have cell:∀(i:Nat),(i=0\/i=1)->∀wr,EvM A.gb 0 #[⟨.cell ⟨A.gb,i,none⟩,wr,true⟩]:=λi hi wr e d=>by simp at d;subst d;exact .inr ⟨i,by simpa using hi,rfl,rfl⟩
 have x:EvM A.gb 0 #[⟨.cell ⟨A.gb,0,none⟩,false,true⟩,⟨.cell ⟨A.gb,0,none⟩,true,true⟩]:=λe d=>by simp at d;rcases d with rfl|rfl<;>exact .inr ⟨0,.inl rfl,rfl,rfl⟩
 have Q:EvM A.gb 0 (semEvents ⟨A.gb,1,none⟩):=λe d=>by
  simp[semEvents]at d
  rcases d with rfl|rfl|rfl|rfl
  . exact .inl (.inl rfl)
  . exact .inr ⟨1,.inr rfl,rfl,rfl⟩
  . exact .inr ⟨1,.inr rfl,rfl,rfl⟩
  . exact .inl (.inr rfl)
 have R:∀l,l<A.n->(s.w l).cnt<=1:=λl _=>by
  cases e:s.w l with
  |dn p=>cases p<;>simp[bn.cnt]
  |_=>simp[bn.cnt]
 cases p<;>simp only[bn.ok,zR]at N
 case d1=>exact OS C X y B hj r E D sl
 case d2=>exact OR C X y B hj r E D sl
 case d4=>
  have a7:1<=s.gc:=by
   have h1:=z.I.g1;have:(s.w j).cnt<=sumTo A.n (λj=>(s.w j).cnt):=Go.ConcN.le_sumTo (f:=λj=>(s.w j).cnt) hj
   rw[r]at this;have e:(bn.dn (P:=P) .d4).cnt=1:=rfl;omega
  have a8:s.gc<=A.n+1:=by
   have h1:=z.I.g1;have h2:sumTo A.n (λj=>(s.w j).cnt)<=A.n:=ow A.n R
   have h3:s.ms.pend<=1:=by cases s.ms<;>simp[om.pend];split<;>omega
   omega
  obtain⟨k,U⟩:∃k,s.gc=k+1:=⟨s.gc-1,by omega⟩
  have a:=v;rw[U]at a;obtain⟨g1,w',o,rfl,c,G⟩:=VR (Wd:=kQ A) (main:=false) C X F u a (by omega) z.I.g2 O
  have H:MW A.gb 0 w (w.setCell ⟨A.gb,0,none⟩ (.int .u64 (ew k s.gv))):=⟨⟨.refl _,rfl⟩,.inr ⟨0,_,.inl rfl,rfl,rfl⟩⟩
  rcases G with⟨V,hv,S⟩|⟨W,Y⟩
  . subst V
    rw[hv]at c o H;exact sM y B hj r E o (.V4 U hv) c H x rfl (mI (λe d=>by simp at d;rcases d with rfl|rfl<;>simp)) (.inl id) (.inl ⟨_,rfl,nx S⟩) sl
  . exact sM y B hj r E o (.d4 k U W) c H x rfl (mI (λe d=>by simp at d;rcases d with rfl|rfl<;>simp)) (.inl id) (.inr ⟨rfl,Y⟩) sl
 case d5=>obtain⟨v1,K⟩:=z.I.g3 j hj (.inl r);have a:=v;rw[v1,K]at a;obtain⟨g1,o,S⟩:=VS (Wd:=kQ A) (main:=false) C X a O;exact sM y B hj r E o .d5 v (bf rfl) (cell 0 (.inl rfl) false) rfl (mI (λe d=>by simp at d;subst d;simp)) (.inl id) (.inl ⟨_,rfl,nx S⟩) sl
 case d6=>obtain⟨v1,K⟩:=z.I.g3 j hj (.inr r);have a:=v;rw[v1,K]at a;obtain⟨g1,w',o,rfl,c,S⟩:=VT (Wd:=kQ A) (main:=false) C X a O;exact sM y B hj r E o .d6 (by rw[K];exact c) (⟨⟨.refl _,rfl⟩,.inr ⟨0,_,.inl rfl,rfl,rfl⟩⟩) (cell 0 (.inl rfl) true) rfl (mI (λe d=>by simp at d;subst d;simp)) (.inl id) (.inl ⟨_,rfl,nx S⟩) sl
 case d7=>
  obtain⟨v0,K,m0,a9⟩:=z.I.g4 j hj r;have a:=v;rw[v0,K]at a;have ad:=z.I.g5.1;obtain⟨g1,w',o,rfl,c,Y⟩:=VU (Wd:=kQ A) (main:=false) C X F u a (by omega) O
  obtain⟨m,hq⟩:=Y;have T:g1.status=.running\/g1.status=.finished:=by rcases hq.status with h|h<;>simp[h]
  exact sM y B hj r E o .d7 (by rw[K,v0];exact c) (⟨⟨.refl _,rfl⟩,.inr ⟨1,_,.inr rfl,rfl,rfl⟩⟩) Q rfl H5 (.inr ⟨OV C X O,T⟩) (.inr ⟨rfl,m,hq⟩) sl
end
end
section
open Go.Conc
open Go.ConcN (sumTo upd sumTo_upd upd_ne upd_same)
variable{P:acD}
def MS.lO(s:MS P)(c:jm)(gv gm:Nat):MS P:={s with c:=c,gv:=gv,gm:=gm}
section
variable{s:MS P}{n:Nat}{c:jm}{gv gm:Nat}
theorem K5{x:bn P}(h:x.last=true):x=.dn .d5\/x=.dn .d6\/x=.dn .d7:=by
 cases x with
 |dn p=>cases p<;>simp_all [bn.last]
 |_=>simp[bn.last]at h
theorem bO.calm(I:bO n s)(h:s.c.waits=false):s.gv=0/\s.gm=0/\∀j,j<n->(s.w j).last=false:=by
 have b:s.gv=0:=by
  have:=I.g2;by_cases e:s.gv=1
  . have:=(I.Ev e).1;simp_all
  . omega
 refine⟨b,?_,λj a=>?_⟩
 . have:=I.g5.1
   by_cases e:s.gm=1
   . have:=(I.g5.2 e).1;simp_all
   . omega
 . cases e:(s.w j).last with
   |false=>rfl
   | true=>
     rcases K5 e with e|e|e
     . have:=(I.g3 j a (.inl e)).1;omega
     . have:=(I.g3 j a (.inr e)).1;omega
     . have:=(I.g4 j a e).2.2.2;simp_all
theorem bO.T2(I:bO n s)(h:s.c≠.none):s.sp=n:=by
 have:=I.ms
 grind
theorem bO.C6(I:bO n s)(h:s.c≠.none)(l:s.gc=0)(g:∀j,j<n->(s.w j).last=false):∀j,j<n->s.w j=.gone:=λj a=>by
 have m:=I.g1;have o:(s.w j).cnt<=sumTo n (λj=>(s.w j).cnt):=Go.ConcN.le_sumTo (f:=λj=>(s.w j).cnt) a;have b:=I.idle j a;rw[I.T2 h]at b;have i:=g j a;have k:=I.ok j a;have d:(s.w j).cnt=0:=by omega
 cases e:s.w j with
 |idle=>rw[e]at b;have:=b.1 rfl;omega
 |dn p=>rw[e]at i k d;cases p<;>simp_all [bn.last,bn.ok,bn.cnt]
 |gone=>rfl
 |_=>rw[e]at d;simp[bn.cnt]at d
inductive rP(s:MS P):jm->jm->Nat->ack
 |call:rP s .er (.wt .w0) s.gv s.gm
 |w0:rP s (.wt .w0) (.wt .w1) s.gv s.gm
 |Xl:s.gc=0->rP s (.wt .w1) (.wt .we) s.gv s.gm
 |w1:s.gc≠0->rP s (.wt .w1) (.wt (.w2 s.gc)) s.gv s.gm
 |Xm:rP s (.wt (.w2 s.gc)) (.wt .w3) 1 s.gm
 |V5 (k:Nat):s.gc≠k->rP s (.wt (.w2 k)) (.wt .w1) s.gv s.gm
 |w3:rP s (.wt .w3) (.wt .w4) s.gv s.gm
 |w4:s.gm≠0->rP s (.wt .w4) (.wt .w5) s.gv (s.gm-1)
 |w5:rP s (.wt .w5) (.wt .we) s.gv s.gm
 |we:rP s (.wt .we) (.wt .wa) s.gv s.gm
 |wa:rP s (.wt .wa) .jo s.gv s.gm
theorem bO.OX(I:bO n s)(v:s.c≠.none)(a:c≠.none)(e:c≠.gone)(b:c.ok=true)(f:gv<=1)(d:gv=1->c.waits=true/\gm=0)
 (g:∀j,j<n->(s.w j=.dn .d5\/s.w j=.dn .d6)->gv=1/\s.gc=0) (m:∀j,j<n->s.w j=.dn .d7->gv=0/\s.gc=0/\gm=0/\c.waits=true)
 (o:gm<=1/\(gm=1->c.waits=true/\gv=0/\s.gc=0/\∀j,j<n->(s.w j).last=false)) (q:c.waits=true->gv=0->gm=0->∃j,j<n/\s.w j=.dn .d7)
 (r:gv=1->s.gc=0->∃j,j<n/\(s.w j=.dn .d5\/s.w j=.dn .d6)) (t:c.KW=true->s.gc=0/\gv=0/\gm=0/\∀j,j<n->s.w j=.gone) (u:∀k,c=.wt (.w2 k)->k≠0):bO n (s.lO c gv gm):=by
 refine⟨I.g1,f,d,g,I.GM,m,o,q,r,t,u,I.ok,b,I.sp,I.idle,?_,λ_ h=>absurd h a,I.mu⟩;have:=I.ms
 show match s.ms with
  |.add l=>s.sp+l=n/\c=.none
  |.bu l p=>s.sp+l=n/\c=.none/\1<=l/\(p=.a0\/p=.a2\/p=.a4\/p=.ae)
  |.spawn l=>s.sp+l+1=n/\c=.none
  |.recv=>s.sp=n/\c≠.none
  |.parked=>s.sp=n/\c≠.none/\c≠.gone/\∀i,i<n->s.w i≠.wait
  |.off=>s.sp=n/\c≠.none
 grind
theorem bO.Xn(I:bO n s){d:jm}(l:s.c=d)(h:rP s d c gv gm):bO n (s.lO c gv gm):=by
 have calm:d.waits=false->c.waits=false->d≠.none->c≠.none->c≠.gone->c.ok=true->gv=s.gv->gm=s.gm->(c.KW=true->s.gc=0)->(∀k,c=.wt (.w2 k)->k≠0)->bO n (s.lO c gv gm):=by
  intro z A B q r t u v p m;subst u v;obtain⟨g,m0,b⟩:=I.calm (by simp_all)
  have e:s.c≠.none:=by simp_all
  refine I.OX e q r t I.g2 (λh=>by omega) I.g3 (λj a h=>?_) ⟨by omega,λh=>by omega⟩ (λh=>by simp_all) I.g7 (λh=>⟨p h,g,m0,I.C6 e (p h) b⟩) m
  have:=b j a;rw[h]at this;cases this
 have g8:d.KW=true->s.gc=0:=λh=>(I.g8 (by simp_all)).1
 cases h with
 |call=>exact calm rfl rfl (by simp) (by simp) (by simp) rfl rfl rfl (λh=>by cases h) (λk h=>by cases h)
 |w0=>exact calm rfl rfl (by simp) (by simp) (by simp) rfl rfl rfl (λh=>by cases h) (λk h=>by cases h)
 |Xl i=>exact calm rfl rfl (by simp) (by simp) (by simp) rfl rfl rfl (λ_=>i) (λk h=>by cases h)
 |w1 i=>exact calm rfl rfl (by simp) (by simp) (by simp) rfl rfl rfl (λh=>by cases h) (λk h=>by simp_all)
 |V5 k i=>exact calm rfl rfl (by simp) (by simp) (by simp) rfl rfl rfl (λh=>by cases h) (λk h=>by cases h)
 |w5=>exact calm rfl rfl (by simp) (by simp) (by simp) rfl rfl rfl (λ_=>g8 rfl) (λk h=>by cases h)
 |we=>exact calm rfl rfl (by simp) (by simp) (by simp) rfl rfl rfl (λ_=>g8 rfl) (λk h=>by cases h)
 |wa=>exact calm rfl rfl (by simp) (by simp) (by simp) rfl rfl rfl (λ_=>g8 rfl) (λk h=>by cases h)
 | Xm=>
   obtain⟨g,m0,b⟩:=I.calm (by rw[l];rfl)
   have w:=I.g9 s.gc l;refine I.OX (by grind) (by simp) (by simp) rfl (by omega) (λ_=>⟨rfl,m0⟩) (λj a h=>?_) (λj a h=>?_) ⟨by omega,λh=>by omega⟩ (λ_ h=>by omega) (λ_ h=>absurd h w) (λh=>by cases h) (λk h=>by cases h)
   . have:=(I.g3 j a h).1;omega
   . have:=b j a;rw[h]at this;cases this
 | w3=>
   have x:s.c.waits=true:=by rw[l];rfl
   refine I.OX (by grind) (by simp) (by simp) rfl I.g2 (λh=>⟨rfl,(I.Ev h).2⟩) I.g3 (λj a h=>?_) ⟨I.g5.1,λh=>⟨rfl,(I.g5.2 h).2⟩⟩ (λ_=>I.g6 x) I.g7 (λh=>by cases h) (λk h=>by cases h)
   have:=I.g4 j a h;exact⟨this.1,this.2.1,this.2.2.1,rfl⟩
 | w4 i=>
   have o:s.gm=1:=by have:=I.g5.1;omega
   obtain⟨y,g,f,b⟩:=I.g5.2 o;have e:s.c≠.none:=by grind
   refine I.OX e (by simp) (by simp) rfl I.g2 (λh=>by omega) I.g3 (λj a h=>?_) ⟨by omega,λh=>by omega⟩ (λh=>by cases h) I.g7 (λ_=>⟨f,g,by omega,I.C6 e f b⟩) (λk h=>by cases h)
   have:=b j a;rw[h]at this;cases this
theorem C7{a:jm}(b:s.c=a)(h:rP s a c gv gm):MS.gg n (s.lO c gv gm) s:=by
 refine .inl ?_;show s.ms.cx+sumTo n (λi=>(s.w i).cx)+c.cx s.gc<s.ms.cx+sumTo n (λi=>(s.w i).cx)+s.c.cx s.gc;rw[b]
 have:c.cx s.gc<a.cx s.gc:=by
  cases h with
  |V5 k d=>simp only[jm.cx];simp_all
  |_=>simp[jm.cx]
 omega
end
end
open Go.Conc
open Go.ConcN (sumTo upd sumTo_upd upd_ne upd_same)
section
variable{P:acD}{A:bJ}{Fin:abz}{Z:Base}{s:MS P}{f:Nat->Node P}{q:acs}{kk:acy}{OO:acx}{J M:ack}{gs:abH}{w w':World}{t u:Trace}{c:jm}{p:vS}{gv gm:Nat}{g g1:aco}
theorem ui(e:s.c=.wt p):gu P A s A.cl:=.inr (.inr ⟨rfl,by simp_all⟩)
theorem By{A:bJ}(h:A.cl=0):A.dir=true:=by simp[bJ.dir,h]
theorem Bz(hd:A.dir=false)(h:s.ms≠.off):vH P A s:=⟨λe=>by simp_all,λe=>by simp_all,λ_=>h⟩
theorem BA(b:vH P A s)(e:s.c=.wt p):¬dA P A s A.cl:=by
 have:=A.hb;rintro(⟨h,a⟩|⟨l,d,f,a⟩|⟨_,a⟩)
 . rw[b.1 (By h) (by rw[e];simp)]at a;exact a
 . omega
 simp_all
theorem qy(b:vH P A s):¬fq P A s A.cl:=by
 have:=A.hb;rintro(⟨h,a⟩|⟨l,c,d,a⟩)
 . exact(b.2.1 (By h)).2.1 a
 . omega
theorem sN(a:vH P A s)(e:s.c=.wt p):dL P A s A.cl=sJ p:=by
 have:=A.hb;unfold dL;by_cases h:A.cl=0
 . rw[if_pos h,a.1 (By h) (by rw[e];simp),e]
 simp_all
theorem GR(h:s.c≠.none):bT P A s A.cl:=.inr (.inr ⟨rfl,h⟩)
theorem H6{a:jm}(h:rP s a c gv gm):a.ez=false/\c.ez=false/\a.isNone=false/\c.isNone=false/\a.busy=true/\c.busy=true:=by cases h<;>simp[jm.ez,jm.isNone,jm.busy]
theorem K6:eZ A s (s.lO c gv gm) A.cl:=⟨λ_ _ _=>rfl,λh=>absurd rfl h,λ_=>rfl,rfl,rfl,.inl λ_ _=>rfl⟩
theorem m8(u:A.b+A.n+1<=Z.lk)(F:bF (bY P A Fin Z u) Z s f q kk OO J M gs w t){G:jm}(v:s.c=G)(x:rP s G (.wt p) gv gm){d:Nat}(hd:Deaf t A.cl=d)(H:gs[A.cl]?=some g){es:aca}(y:stepG P A.dir g w=.go g1 w' es)
 (z:qY A.gb w' s.gc gv gm) (B:MW A.gb 0 w w') (C:Q4 A.gb es) (D:deafBehind d es=sJ p) (j:s.gm=0->gm=0)
 (K:∃n r,jb P (kQ A) n g1 r/\Ss P A Fin (.wt p) (kk A.cl) (OO A.cl) r) (sl:abC):Goes P A Fin Z u s gs w t sl A.cl:=by
 have h:c8 P A Z s kk OO J M gs.size w t:=F.ex;have hb:=A.hb;obtain⟨f1,R,S,T,L,U⟩:=H6 x;have k:s.c.isNone=false:=by simp_all
 have l:s.c≠.none:=λe=>by rw[e]at k;cases k
 obtain⟨n,r,m,E⟩:=K;have a:(s.lO (.wt p) gv gm).c=.wt p:=rfl;have o:vH P A (s.lO (.wt p) gv gm):=⟨λhd _=>h.off.1 hd l,λhd=>⟨(h.off.2.1 hd).1,(h.off.2.1 hd).2.1,by simp_all,by simp_all,by simp_all⟩,h.off.2.2⟩
 have hJ:J A.cl:=(h.hJ _).2 (.inr ⟨rfl,by simp_all⟩)
 refine Bw (s':=s.lO (.wt p) gv gm) (f':=f) (q':=upd q A.cl n) u F (GR l) (qy h.off) H y K6 (λ_ _=>rfl) (λ_ _=>rfl) o (by simp_all) (by simp_all) (λ_=>.inr (.inr ⟨p,rfl⟩)) (λi=>?_) (h.I.Xn v x) rfl z B (.inr ⟨C,by rw[k];rfl⟩) (C7 v x) (.inl (.inr hJ)) (.inl j) (λ_ _=>rfl) (λi N=>upd_ne q n N) ?_ sl
 . unfold dU
   rw[v,L];rfl
 . refine⟨λO=>absurd O (BA o a),λ_=>⟨BA o a,?_,?_,r,?_,?_⟩,λQ=>absurd Q (qy o),λ_ k _=>absurd (ui a) k⟩
   . show A.cl<A.b+A.n+1;omega
   . rw[Deaf_own,hd,D]
     show _=dL P A (s.lO (.wt p) gv gm) A.cl;rw[sN o a]
   . exact .inr (.inr ⟨rfl,E⟩)
   . exact .inr (by rw[upd_same];exact m)
variable(C:gM P A.ng)(X:iD P A.ng)
include C X in
theorem OY(x:A.b+A.n+1<=Z.lk)(y:bF (bY P A Fin Z x) Z s f q kk OO J M gs w t)(v:s.c=.wt p)(R:p≠.wa)(D:gs[A.cl]?=some g)(S:Ss P A Fin (.wt p) (kk A.cl) (OO A.cl) g)(sl:abC):
 Goes P A Fin Z x s gs w t sl A.cl\/E5 P A s gs w sl A.cl g:=by
 have G:c8 P A Z s kk OO J M gs.size w t:=y.ex;have H:=G.I.Sr;rw[v]at H;obtain⟨Y,rest,E,hT⟩:=S;have m:=G.gr;have hn:=A.hn;have hb:=A.hb;have O:CallKind.normal≠CallKind.early:=by decide
 have nx:∀{p' g1},iE P A.ng A.gb .normal (kQ A) p' (Y::rest) g1->∃n Q,jb P (kQ A) n g1 Q/\Ss P A Fin (.wt p') (kk A.cl) (OO A.cl) Q:=λ⟨_,Q,⟨n,hs⟩,hA⟩=>⟨n,Q,hs,Y,rest,hA,hT⟩
 have cell:∀wr,Q4 A.gb #[⟨.cell ⟨A.gb,0,none⟩,wr,true⟩]:=λwr e u=>by simp at u;subst u;exact .inl (.inr ⟨0,.inl rfl,rfl,rfl⟩)
 have hd:Deaf t A.cl=sJ p:=by obtain⟨_,_,T,_⟩:=y.walk _ (ui v);rw[T];show dL P A s A.cl=_;rw[sN G.off v]
 have z:s.c.waits=false->s.gv=0:=λh=>(G.I.calm h).1
 have K:∀l,l<A.n->(s.w l).cnt<=1:=λl _=>by
  cases e:s.w l with
  |dn p=>cases p<;>simp[bn.cnt]
  |_=>simp[bn.cnt]
 have a7:s.gc<=A.n+1:=by
  have h1:=G.I.g1;have h2:sumTo A.n (λj=>(s.w j).cnt)<=A.n:=ow A.n K
  have h3:s.ms.pend<=1:=by cases s.ms<;>simp[om.pend];split<;>omega
  omega
 cases p<;>simp only[jm.ok,zR]at H
 case w0=>obtain⟨g1,a,r⟩:=VV (Wd:=kQ A) (main:=A.dir) (w:=w) C X E O;exact .inl (m8 x y v .w0 hd D a m (bf rfl) (λe u=>by simp at u;subst u;exact .inl (.inl (.inl rfl))) rfl id (nx r) sl)
 case w1=>
  have L:=z (by rw[v];rfl)
  have d:=m;rw[L]at d;obtain⟨g1,a,r⟩:=VW (Wd:=kQ A) (main:=A.dir) C X d (by omega) E
  rcases r with⟨U,r⟩|⟨U,r⟩
  . exact .inl (m8 x y v (.Xl U) hd D a m (bf rfl) (cell false) rfl id (nx r) sl)
  . exact .inl (m8 x y v (.w1 U) hd D a m (bf rfl) (cell false) rfl id (nx r) sl)
 case we=>
  obtain⟨g1,a,r⟩:=VX (Wd:=kQ A) (main:=A.dir) (w:=w) C X (λw h=>h.1) E O
  exact .inl (m8 x y v .we hd D a m (bf rfl) (λe u=>by simp at u;subst u;exact .inl (.inl (.inr rfl))) rfl id (nx r) sl)
 case wa=>exact absurd rfl R
 case w2 k=>
  have L:=z (by rw[v];rfl)
  have d:=m;rw[L]at d
  rcases VY (Wd:=kQ A) (main:=A.dir) C X (λw h=>h.2.1) d E with⟨F,g1,w',a,rfl,B,r⟩|⟨F,g1,a,r⟩
  . subst F
    exact .inl (m8 x y v .Xm hd D a B (⟨⟨.refl _,rfl⟩,.inr ⟨0,_,.inl rfl,rfl,rfl⟩⟩) (λe u=>by simp at u;rcases u with rfl|rfl<;>exact .inl (.inr ⟨0,.inl rfl,rfl,rfl⟩)) rfl id (nx r) sl)
  . exact .inl (m8 x y v (.V5 k F) hd D a m (bf rfl) (cell false) rfl id (nx r) sl)
 case w3=>obtain⟨g1,a,r⟩:=VZ (Wd:=kQ A) (main:=A.dir) (w:=w) C X E O;exact .inl (m8 x y v .w3 hd D a m (bf rfl) (λe u=>by simp at u;subst u;exact .inr ⟨1,.inr rfl,.inr rfl⟩) rfl id (nx r) sl)
 case w4=>
  by_cases N:s.gm=0
  . right
    have d:=m;rw[N]at d;have a:=TJ (main:=A.dir) C X d E;refine⟨.inr ⟨rfl,v,N⟩,?_⟩;have h:=runT_crowd_go (P:=P) (sl:=sl) (i:=A.cl) D a
    have V:woken P g {g with status:=.blocked} w=id:=funext λo=>by unfold Go.Conc.woken;simp
    rw[V,Array.map_id]at h;exact h
  . left
    obtain⟨g1,w',a,rfl,B,r⟩:=V0 (Wd:=kQ A) (main:=A.dir) C X m N E O
    exact m8 x y v (.w4 N) hd D a B (⟨⟨.refl _,rfl⟩,.inr ⟨1,_,.inr rfl,rfl,rfl⟩⟩) (λe u=>by
     simp[semEvents]at u
     rcases u with rfl|rfl|rfl|rfl
     . exact .inl (.inl (.inl rfl))
     . exact .inl (.inr ⟨1,.inr rfl,rfl,rfl⟩)
     . exact .inl (.inr ⟨1,.inr rfl,rfl,rfl⟩)
     . exact .inl (.inl (.inr rfl))) rfl (λh=>absurd h N) (nx r) sl
 case w5=>
  obtain⟨W,L,m0,_⟩:=G.I.g8 (by rw[v];rfl)
  have d:=m;rw[W,L]at d;obtain⟨g1,a,r⟩:=V1 (Wd:=kQ A) (main:=A.dir) C X d E;exact .inl (m8 x y v .w5 hd D a m (bf rfl) (cell false) rfl id (nx r) sl)
end
section
variable{Z:Base}{kk:acy}{OO:acx}{J M:ack}{w:World}{t:Trace}
theorem cA.T3(h:cA Z kk OO J M w t){i:Nat}{ad:Addr}(E:J i)(r:ad.block<w.heap.size)(hd:Deaf t i=0)(F:∀p,M p->t.heard p/\Z.N0<=p/\t.act? p=some (.mark (.releaseMerge ad)))
 (G:∀m a,Z.N0<=m->t.act? m≠some (.mark (.release a))) (fn:FuncId) (pos:String):
 cA Z kk OO J (λ_=>False) w (t++MemOp.ofEvents i fn pos #[⟨.mark (.acquire ad),false,true⟩]):=by
 obtain⟨u,D⟩:∃u,u=MemOp.ofEvents i fn pos #[⟨.mark (.acquire ad),false,true⟩]:=⟨_,rfl⟩;have f:u=#[⟨i,fn,pos,.mark (.acquire ad)⟩]:=by rw[D,ofEvents_eq];simp[MemAct.ofEvent]
 rw[<-D];have H:∀op∈u,op.act.touch?=none:=λop c=>by rw[f]at c;simp at c;subst c;rfl
 have l:∀op∈u,op.g=i:=λop c=>by grind
 have z:u[0]?=some ⟨i,fn,pos,.mark (.acquire ad)⟩:=by grind
 have d:ku u:=λop c=>by grind
 have o:∀k,Z.N0<=k->∀a,(t++u).act? k≠some (.mark (.release a)):=λk A a e=>by
  rcases qw e with⟨q,_⟩|⟨op,c,q⟩
  . simp_all
  grind
 exact h.tR (λa b=>a=b) rfl ⟨⟨.refl _,rfl⟩,λ_ _=>rfl⟩ (λb=>.inl rfl) (λop c=>by rw[f]at c;simp at c;subst c;simpa[MemAct.low]using r) (λa b e n y _ _ _ A=>by subst e;exact A.app u)
  (λj b n v h=>⟨j,rfl,h⟩) (λj b s h=>⟨j,rfl,h⟩) (λj b x h=>⟨j,rfl,h,λ_ h=>h⟩) h.jl
  (λsaid=>noRace_append (h.clean said) l λn a B op c b hb _=>by simp_all) (λop c a B=>by simp_all) (λm op a c B=>by grind)
  (λn a B L h=>h.elim (λ⟨j,q,C⟩=>.inr (.inl ⟨j,q,C.app _⟩)) (λ⟨p,q,C⟩=>by obtain⟨I,N,K⟩:=F p q;exact .inr (.inl ⟨i,E,mZ (y:=⟨i,fn,pos,.mark (.acquire ad)⟩) d z rfl hd K I (λk A=>o k (by omega) ad) C⟩)))
end
section
variable{P:acD}{A:bJ}{Fin:abz}{Z:Base}{s:MS P}{f:Nat->Node P}{q:acs}{kk:acy}{OO:acx}{J M:ack}{gs:abH}{w w':World}{t u:Trace}{c:jm}{p:vS}{gv gm:Nat}{g g1:aco}
theorem uj(e:s.c=.jo\/s.c=.er):dA P A s A.cl:=.inr (.inr ⟨rfl,by grind⟩)
theorem GU(hd:A.dir=false)(e:s.c=.jo\/s.c=.er):¬gu P A s A.cl:=by
 have:=A.hb;have:=vb hd;rintro(⟨e,_⟩|⟨l,b,d,a⟩|⟨_,a⟩)
 . omega
 . omega
 grind
theorem GV(hd:A.dir=false)(e:s.c≠.er):ck P A Fin s A.cl=rN P A:=by
 have:=A.hb;have:=vb hd;unfold ck
 grind
theorem GW(hd:A.dir=false)(e:s.c=.er):ck P A Fin s A.cl=xp P A:=by
 have:=A.hb;have:=vb hd;unfold ck
 grind
theorem Qd{x:Node P}:OF P A s A.cl x:=λj h X a b _=>by have:=A.hb;omega
variable(C:gM P A.ng)(X:iD P A.ng)
include C X in
theorem OZ(v:A.b+A.n+1<=Z.lk)(F:bF (bY P A Fin Z v) Z s f q kk OO J M gs w t)(o:s.c=.wt .wa)(V:gs[A.cl]?=some g)(G:Ss P A Fin (.wt .wa) (kk A.cl) (OO A.cl) g)(d:A.dir=false)(sl:abC):
 Goes P A Fin Z v s gs w t sl A.cl:=by
 have j:c8 P A Z s kk OO J M gs.size w t:=F.ex;have B:=bd (P:=P) (A:=A) (Fin:=Fin) (Z:=Z) v;obtain⟨c0,rest,hM,W⟩:=G;rw[if_neg (by rw[d];simp)]at W
 have a7:=vb d;have hb:=A.hb;have H:(A.cl==0)=false:=by simp;omega
 obtain⟨g1,K,hr,⟨k,x⟩⟩:=TH (Wd:=λ_=>True) (main:=false) (w:=w) C X hM (by decide)
 obtain⟨tr⟩:=T.tree (P:=P) (m:=rN P A) rfl (W _ (ah.Le.refl _));obtain⟨T,_⟩:=TT.pre x tr;have z:=runT_crowd_go (P:=P) (sl:=sl) (i:=A.cl) V (by rw[H];exact K)
 have L:=ui (P:=P) (A:=A) o
 have hd:Deaf t A.cl=0:=by obtain⟨_,_,N,_⟩:=F.walk _ L;rw[N];show dL P A s A.cl=_;rw[sN j.off o];rfl
 have hJ:J A.cl:=(j.hJ _).2 (.inr ⟨rfl,by rw[o];rfl⟩)
 have hG:A.gb<w.heap.size:=by obtain⟨c,e,Q⟩:=j.yZ;exact(Array.getElem?_eq_some_iff.1 Q).1
 have hP:=F.cO.T3 (i:=A.cl) (ad:=⟨A.gb,0,none⟩) hJ hG hd (λp D=>by
  obtain⟨Q,h2,u⟩:=j.hM p D
  rcases u with⟨u,_⟩|⟨u,_⟩
  . exact⟨Q,h2,u⟩
  . rw[o]at u;cases u) j.norel g.frame.fn g.frame.place
 have E:∀op∈MemOp.ofEvents A.cl g.frame.fn g.frame.place #[⟨.mark (.acquire ⟨A.gb,0,none⟩),false,true⟩],op.g=A.cl:=λop r=>by obtain⟨e,_,rfl⟩:=Go.Conc.mem_ofEvents r;rfl
 have R:c8 P A Z (s.lO .jo s.gv s.gm) kk OO J (λ_=>False) gs.size w (t++MemOp.ofEvents A.cl g.frame.fn g.frame.place #[⟨.mark (.acquire ⟨A.gb,0,none⟩),false,true⟩]):=
  j.TY (K6 (s:=s) (c:=.jo)) (λ_ _=>rfl) (λ_ _=>rfl) (Bz d (j.off.2.2 d)) (by rw[o];rfl) (by rw[o];rfl) (λp D=>D.elim) (λe=>by rw[o]at e;cases e) (λ⟨p,D⟩=>D.elim) (λi=>by unfold dU;rw[o];rfl) (j.I.Xn o .wa) rfl j.gr (bf rfl) (λop r=>by obtain⟨e,Y,rfl⟩:=Go.Conc.mem_ofEvents r;simp at Y;subst Y;exact⟨λa ha=>by simp[MemAct.ofEvent,MemAct.touch?]at ha,λa h=>by simp[MemAct.ofEvent]at h⟩)
 have S:Beside (bY P A Fin Z v) s (s.lO .jo s.gv s.gm) f (bS f A.cl ⟨rN P A,kk A.cl,OO A.cl,g1,T⟩) q q kk kk OO OO J J w A.cl g g1:=lN v K6 (λi hi=>au _ _ hi) (λ_ _=>rfl) (λ_ _ _=>rfl) (λ_ _ _=>rfl) (λ_ _ h=>h) (.inl ⟨id,id⟩) (λ{i k O y} U=>B.kJ (s:=s) (i:=i) (k:=k) (O:=O) (g:=y) U)
 refine⟨_,_,z,s.lO .jo s.gv s.gm,bS f A.cl ⟨rN P A,kk A.cl,OO A.cl,g1,T⟩,q,kk,OO,J,(λ_=>False),_,_,_,rfl,C7 o .wa,?_⟩
 refine bF.step B F V E hP R (λl y hl U=>B.sC j hl _ _ U) S ⟨λ_=>?_,λh=>absurd h (GU d (.inl rfl)),λh=>absurd h (qy (Bz d (j.off.2.2 d))),λh=>absurd (uj (.inl rfl)) h⟩
 rw[ao];refine⟨by show A.cl<A.b+A.n+1;omega,rfl,?_,rfl,rfl,hr,?_,.inr hJ,Qd⟩
 . show rN P A=ck P A Fin (s.lO .jo s.gv s.gm) A.cl
   rw[GV d (by simp[MS.lO])]
 . rw[Deaf_own,hd];rfl
end
theorem uk {P:acD} {y:Sy} {s:jJ} {fr:Frame} {x:FuncId × List SV} {f:FuncId} {dJ:abY} {kind:acv} (a:FR y s fr) (h:bb s=some x):fr≠Frame.enter P f dJ kind:=fun e=>by
 obtain⟨ops,i,rest,kk,o,as,b,d,g,j,k,c,l⟩:=dq (f:=x.1) (svs:=x.2) a h;have:fr.todo = .inRegion ops (i :: rest) :: kk:=by rw[c];rfl
 rw[e] at this;simp[Frame.enter] at this
theorem BB{fr a:Frame}{cs b:acb}(h:G fr cs=G a b):fr=a:=by have:=congrArg Goroutine.frame h;exact this
section
variable{P:acD}{A:bJ}{Fin:abz}{Z:Base}{s:MS P}{f:Nat->Node P}{q:acs}{kk:acy}{OO:acx}{J M:ack}{gs:abH}{w w':World}{t u:Trace}{j:Nat}{c:jm}{p:vS}{gv gm:Nat}{g g1:aco}
variable(C:gM P A.ng)(X:iD P A.ng)
include C in
theorem C8{b:Nat}{kind a:acv}{cs:acb}{f:FuncId}{dJ:abY}{n:Nat}{Wd:abZ}{d:aco}(h:jb P Wd n (G (Frame.enter P f dJ a) cs) d)(g:qZ P A.ng b kind .w0 cs d):n≠0:=λe=>by subst e;obtain⟨c,y,fr,i,rfl,l,j,k,rfl⟩:=g;exact uk j (C.w0 b kind).1 (BB h).symm
include C in
theorem K7{b:Nat}{kind a:acv}{cs:acb}{f:FuncId}{dJ:abY}{n:Nat}{Wd:abZ}{d:aco}(h:jb P Wd n (G (Frame.enter P f dJ a) cs) d)(g:qZ P A.ng b kind .a0 cs d):n≠0:=λe=>by subst e;obtain⟨c,y,fr,i,rfl,l,j,k,rfl⟩:=g;exact uk j (C.a0 b kind).1 (BB h).symm
include C in
theorem K8{b:Nat}{kind a:acv}{cs:acb}{f:FuncId}{dJ:abY}{n:Nat}{Wd:abZ}{d:aco}(h:jb P Wd n (G (Frame.enter P f dJ a) cs) d)(g:qZ P A.ng b kind .d1 cs d):n≠0:=λe=>by subst e;obtain⟨c,y,fr,i,rfl,l,j,k,rfl⟩:=g;exact uk j (C.d1 b).1 (BB h).symm
include C X in
theorem H7(h:A.b+A.n+1<=Z.lk)(i:bF (bY P A Fin Z h) Z s f q kk OO J M gs w t)(u:s.c=.er){k:ah}{O:aj}{N:abz}(j:k=kk A.cl)(l:O=OO A.cl)(z:gs[A.cl]?=some g)(B:(xp P A).de k O g N)(a:A.dir=false)(sl:abC):
 Goes P A Fin Z h s gs w t sl A.cl:=by
 have v:c8 P A Z s kk OO J M gs.size w t:=i.ex;obtain⟨_,_,_,_,_,_,m,_⟩:=i.live _ (uj (.inr u));obtain⟨rfl,x,rest,rfl,D⟩:=B;subst j l;obtain⟨E,⟨n,d⟩,y⟩:=pJ (P:=P) (n:=A.ng) (b:=A.gb) (kind:=.normal) (cs:=x::rest) (Wd:=kQ A) X C;cases n with
 |zero=>exact absurd rfl (C8 C d y)
 |succ n=>obtain⟨g1,⟨F,o⟩,p⟩:=d;have r:kQ A w:=(bd (P:=P) (A:=A) (Fin:=Fin) (Z:=Z) h).wd v;exact m8 h i u .call m z (by rw[a];exact o false w r) v.gr (bf rfl) (λe G=>by simp at G) rfl id ⟨n,E,p,x,rest,y,by rw[if_neg (by rw[a];simp)];exact D⟩ sl
theorem sO(hj:j<A.n)(e:s.w j=.yJ):dA P A s (A.b+j):=.inr (.inl ⟨j,hj,rfl,by simp_all⟩)
theorem um(hj:j<A.n)(e:s.w j=.yJ):¬fq P A s (A.b+j):=by
 have:=A.hb;rintro(⟨e,_⟩|⟨l,a,c,d⟩)
 . omega
 simp_all
include C X in
theorem H8(r:A.b+A.n+1<=Z.lk)(u:bF (bY P A Fin Z r) Z s f q kk OO J M gs w t)(hj:j<A.n)(c:s.w j=.yJ){k:ah}{O:aj}{N:abz}(H:gs[A.b+j]?=some g)(K:(kP P A).de k O g N)(sl:abC):
 Goes P A Fin Z r s gs w t sl (A.b+j):=by
 have o:c8 P A Z s kk OO J M gs.size w t:=u.ex;have hb:=A.hb;obtain⟨_,_,_,_,_,_,v,_⟩:=u.live _ (sO hj c);obtain⟨rfl,F,fn,tmps,todo,y,p,rfl⟩:=K;have z:(A.b+j==0)=false:=by simp;omega
 obtain⟨L,⟨n,m⟩,G⟩:=xm (P:=P) (n:=A.ng) (b:=A.gb) (kind:=.deferred) (cs:=[kD P F tmps todo,cI P]) (Wd:=kQ A) X (λw h=>h.1) C
 cases n with
 |zero=>exact absurd rfl (K8 C m G)
 | succ n=>
   obtain⟨g1,⟨Q,B⟩,D⟩:=m;have E:kQ A w:=(bd (P:=P) (A:=A) (Fin:=Fin) (Z:=Z) r).wd o;obtain⟨x,d⟩:∃x:bn P,x=.dn .d1:=⟨_,rfl⟩;have a:(s.aT j x s.sh).w j=.dn .d1:=by rw[aU,d]
   have R:bO A.n (s.aT j x s.sh):=o.I.vV hj (by rw[c];rfl) (by rw[d];rfl) (.inl (by rw[d,c];rfl)) (by rw[d];rfl) (by rw[d,c];rfl)
   have S:MS.gg A.n (s.aT j x s.sh) s:=sL hj (by rw[d,c];simp[bn.cx])
   have hJ:J (A.b+j):=(o.hJ _).2 (.inl ⟨j,hj,rfl,by rw[c];rfl⟩)
   refine Bw (s':=s.aT j x s.sh) (f':=f) (q':=upd q (A.b+j) n) (es:=#[]) r u (iG o.I hj (by rw[c];rfl)) (um hj c) H (by rw[z];exact B false w E) (xu hj (.inl (by rw[d,c];rfl))) (λl _=>?_) (λl _=>?_) o.off rfl rfl id (oq hj (by rw[d,c];rfl)) R rfl o.gr (bf rfl) (.inl fJ) S (.inl (.inr hJ)) (.inl id) (λ_ _=>rfl) (λi T=>upd_ne q n T) ?_ sl
   . by_cases e:l=j
     . subst e;rw[aU,d,c];rfl
     . rw[cy e]
   . by_cases e:l=j
     . subst e;rw[aU,d,c];rfl
     . rw[cy e]
   . refine⟨λU=>absurd U (kh hj a),λ_=>⟨kh hj a,?_,?_,L,?_,?_⟩,λV=>absurd V (pN hj a),λ_ W _=>absurd (mH hj a) W⟩
     . show A.b+j<A.b+A.n+1;omega
     . rw[Deaf_own,v]
       show _=dL P A (s.aT j x s.sh) (A.b+j);rw[eF hj,a];rfl
     . refine .inr (.inl ⟨j,hj,rfl,?_⟩)
       rw[a];exact⟨F,fn,tmps,todo,y,p,G⟩
     . exact .inr (by rw[upd_same];exact D)
end
section
variable{P:acD}
def MS.m9(s:MS P)(ms:om)(gc:Nat):MS P:={s with ms:=ms,gc:=gc}
inductive C9(s:MS P):om->om->ack
 |call (j:Nat):1<=j->C9 s (.add j) (.bu j .a0) s.gc
 |a0 (j:Nat):C9 s (.bu j .a0) (.bu j .a2) s.gc
 |a2 (j:Nat) (p:vS):p=.a4\/p=.ae->C9 s (.bu j .a2) (.bu j p) (s.gc+1)
 |a4 (j:Nat):C9 s (.bu j .a4) (.bu j .ae) s.gc
 |ae (j:Nat):C9 s (.bu j .ae) (.spawn (j-1)) s.gc
theorem bO.YO{n:Nat}{s:MS P}(I:bO n s){m0 m1:om}{gc:Nat}(f:s.ms=m0)(h:C9 s m0 m1 gc):bO n (s.m9 m1 gc)/\s.c=.none:=by
 have a:=I.ms;rw[f]at a;have d:s.c=.none:=by cases h<;>first|exact a.2|exact a.2.1
 obtain⟨k,i,g⟩:=I.calm (by rw[d];rfl);refine⟨⟨?_,I.g2,I.Ev,λj b h=>?_,I.GM,λj b h=>?_,⟨I.g5.1,λh=>(by have h:s.gm=1:=h;omega)⟩,I.g6,λh=>(by have h:s.gv=1:=h;omega),λh=>?_,I.g9,I.ok,I.Sr,I.sp,I.idle,?_,I.early,I.mu⟩,d⟩
 . have:=I.g1
   rw[f]at this;show gc=sumTo n (λj=>(s.w j).cnt)+m1.pend;cases h with
   |a2 j p e=>rcases e with rfl|rfl<;>simp_all [om.pend]
   |_=>simp_all [om.pend]
 . have h:s.w j=.dn .d5\/s.w j=.dn .d6:=h
   have:=g j b;rcases h with h|h<;>rw[h]at this<;>cases this
 . have h:s.w j=.dn .d7:=h
   have:=g j b;rw[h]at this;cases this
 . have h:s.c.KW=true:=h
   rw[d]at h;cases h
 . cases h with
   |call j b=>exact⟨a.1,a.2,b,.inl rfl⟩
   |a0 j=>exact⟨a.1,a.2.1,a.2.2.1,.inr (.inl rfl)⟩
   |a2 j p e=>exact⟨a.1,a.2.1,a.2.2.1,.inr (.inr e)⟩
   |a4 j=>exact⟨a.1,a.2.1,a.2.2.1,.inr (.inr (.inr rfl))⟩
   |ae j=>exact⟨by have l:=a.1;have m:=a.2.2.1;show s.sp+(j-1)+1=n;omega,a.2.1⟩
theorem K9{n:Nat}{s:MS P}{m0 m1:om}{gc:Nat}(a:s.c=.none)(hj:∀j p,m0=.bu j p->1<=j)(b:s.ms=m0)(h:C9 s m0 m1 gc):MS.gg n (s.m9 m1 gc) s:=by
 refine .inl ?_;show m1.cx+sumTo n (λi=>(s.w i).cx)+s.c.cx gc<s.ms.cx+sumTo n (λi=>(s.w i).cx)+s.c.cx s.gc;rw[b,a];have e:∀x,jm.cx x .none=0:=λ_=>rfl
 rw[e,e]
 have:m1.cx<m0.cx:=by
  cases h with
  |a2 j p d=>rcases d with rfl|rfl<;>simp[om.cx]
  |ae j=>have:=hj j .ae rfl;simp only[om.cx];omega
  |_=>simp[om.cx]
 omega
end
section
variable{P:acD}{A:bJ}{Fin:abz}{Z:Base}{s:MS P}{f f':Nat->Node P}{q q':acs}{kk:acy}{OO:acx}{J M:ack}{gs:abH}{w w':World}{t u:Trace}{j:Nat}{c:jm}{p:vS}{gc:Nat}{g g1:aco}{m0 m1:om}
theorem E8(e:s.ms=.bu j p):gu P A s 0:=.inl ⟨rfl,by simp_all⟩
theorem GX(b:s.c=.none)(e:s.ms=.bu j p):¬dA P A s 0:=by
 have:=A.hb;rintro(⟨_,a⟩|⟨l,d,f,a⟩|⟨_,a⟩)
 . simp_all
 . omega
 simp_all
theorem mJ(e:s.ms≠.parked):¬fq P A s 0:=by
 have:=A.hb;rintro(⟨_,a⟩|⟨l,b,c,a⟩)
 . exact e a
 . omega
theorem GY(e:s.ms=.bu j p):dL P A s 0=sJ p:=by
 unfold dL
 simp_all
theorem T4:eZ A s (s.m9 m1 gc) 0:=⟨λ_ _ _=>rfl,λ_=>rfl,λh=>absurd rfl h,rfl,rfl,.inl λ_ _=>rfl⟩
theorem uo(r:A.b+A.n+1<=Z.lk)(Q:bF (bY P A Fin Z r) Z s f q kk OO J M gs w t)(z:s.ms=m0)(o:C9 s m0 m1 gc){d:Nat}(hd:Deaf t 0=d)(T:gs[0]?=some g){es:aca}(B:stepG P true g w=.go g1 w' es)
 (C:qY A.gb w' gc s.gv s.gm) (D:MW A.gb 0 w w') (E:Q4 A.gb es)
 (U:(∃j p n y,m1=.bu j p/\deafBehind d es=sJ p/\jb P (kQ A) n g1 y/\Vi P A Fin (.bu j p) (kk 0) (OO 0) y)\/
   (∃j,m1=.spawn j/\deafBehind d es=0/\g1.status=.running/\∃R:TT P (E0 P A Fin j) (kk 0) (OO 0) g1,True)) (sl:abC):Goes P A Fin Z r s gs w t sl 0:=by
 have S:c8 P A Z s kk OO J M gs.size w t:=Q.ex;have hb:=A.hb;have V:((0:Nat)==0)=true:=rfl;obtain⟨W,k⟩:=S.I.YO z o;have F:s.c.isNone=true:=by rw[k];rfl
 have Y:MS.gg A.n (s.m9 m1 gc) s:=K9 k (λj p e=>by have:=S.I.ms;simp_all) z o
 have ho:vH P A (s.m9 m1 gc):=⟨λ_ h=>absurd k h,λ_=>⟨by cases o<;>simp[MS.m9],by cases o<;>simp[MS.m9],by rw[show(s.m9 m1 gc).c=.none from k];simp⟩,λ_=>by cases o<;>simp[MS.m9]⟩
 have G:s.ms≠.parked:=by rw[z];cases o<;>simp
 have H:∀fn pos,Deaf (t++MemOp.ofEvents 0 fn pos es) 0=deafBehind d es:=λfn pos=>by rw[Deaf_own,hd]
 have go:∀(f':Nat->Node P) (q':acs),(∀i,i≠0->f' i=f i)->(∀i,i≠0->q' i=q i)->Self P (bY P A Fin Z r) (s.m9 m1 gc) f' q' kk OO J (t++MemOp.ofEvents 0 g.frame.fn g.frame.place es) 0 g1->Goes P A Fin Z r s gs w t sl 0:=λf' q' hf hq m=>Bw (s':=s.m9 m1 gc) r Q (.inl rfl) (mJ G) T B T4 (λ_ _=>rfl) (λ_ _=>rfl) ho rfl rfl id (λi=>ZL) W rfl C D (.inr ⟨E,by rw[F];rfl⟩) Y (.inl (.inl rfl)) (.inl id) hf hq m sl
 rcases U with⟨j,p,n,y,rfl,u,v,K⟩|⟨j,rfl,u,hr,R,_⟩
 . have a:(s.m9 (.bu j p) gc).ms=.bu j p:=rfl
   refine go f (upd q 0 n) (λ_ _=>rfl) (λi L=>upd_ne q n L) ⟨λhl=>absurd hl (GX (s:=s.m9 (.bu j p) gc) k a),λ_=>⟨GX (s:=s.m9 (.bu j p) gc) k a,?_,?_,y,?_,?_⟩,λhh=>absurd hh (mJ (by simp_all)),λ_ F _=>absurd (E8 a) F⟩
   . show 0<A.b+A.n+1;omega
   . rw[H,u]
     show _=dL P A (s.m9 (.bu j p) gc) 0;rw[GY a]
   . exact .inl ⟨rfl,K⟩
   . exact .inr (by rw[upd_same];exact v)
 . have N:dA P A (s.m9 (.spawn j) gc) 0:=.inl ⟨rfl,trivial⟩
   have O:¬gu P A (s.m9 (.spawn j) gc) 0:=by
    rintro(⟨_,x⟩|⟨l,h1,h2,x⟩|⟨_,x⟩)
    . exact x
    . omega
    . rw[show(s.m9 (.spawn j) gc).c=.none from k]at x;exact x
   refine go (bS f 0 ⟨E0 P A Fin j,kk 0,OO 0,g1,R⟩) q (λi L=>au _ _ L) (λ_ _=>rfl) ⟨λ_=>?_,λh=>absurd h O,λh=>absurd h (mJ (by simp[MS.m9])),λh=>absurd N h⟩
   rw[ao];refine⟨by show 0<A.b+A.n+1;omega,rfl,?_,rfl,rfl,hr,by grind,.inl rfl,λl h X h1 h2 _=>by omega⟩
   show E0 P A Fin j=ck P A Fin (s.m9 (.spawn j) gc) 0;unfold ck;rw[if_pos rfl];rfl
variable(C:gM P A.ng)(X:iD P A.ng)
include C X in
theorem C'(z:A.b+A.n+1<=Z.lk)(B:bF (bY P A Fin Z z) Z s f q kk OO J M gs w t)(o:s.ms=.bu j p)(D:gs[0]?=some g)(N:Vi P A Fin (.bu j p) (kk 0) (OO 0) g)(sl:abC):Goes P A Fin Z z s gs w t sl 0:=by
 have K:c8 P A Z s kk OO J M gs.size w t:=B.ex;have E:=K.I.ms;rw[o]at E;obtain⟨_,W,Y,hp⟩:=E;obtain⟨O,a7,hl⟩:=K.I.calm (by rw[W];rfl)
 obtain⟨S,rest,L,U⟩:=N;have i:=K.gr;have hn:=A.hn;have Q:CallKind.normal≠CallKind.early:=by decide
 have nx:∀{V g1},iE P A.ng A.gb .normal (kQ A) V (S::rest) g1->∃n c,jb P (kQ A) n g1 c/\Vi P A Fin (.bu j V) (kk 0) (OO 0) c:=λ⟨_,c,⟨n,hs⟩,hA⟩=>⟨n,c,hs,S,rest,hA,U⟩
 have hd:Deaf t 0=sJ p:=by obtain⟨_,_,R,_⟩:=B.walk _ (E8 o);rw[R];show dL P A s 0=_;rw[GY o]
 have F:∀l,l<A.n->(s.w l).cnt<=1:=λl _=>by
  cases e:s.w l with
  |dn p=>cases p<;>simp[bn.cnt]
  |_=>simp[bn.cnt]
 have a8:s.gc<=A.n+1:=by
  have r:=K.I.g1;have u:sumTo A.n (λj=>(s.w j).cnt)<=A.n:=ow A.n F
  have h3:s.ms.pend<=1:=by cases s.ms<;>simp[om.pend];split<;>omega
  omega
 rcases hp with rfl|rfl|rfl|rfl
 . obtain⟨g1,a,hN⟩:=VL (Wd:=kQ A) (main:=true) (w:=w) C X L Q
   obtain⟨n,c,r,u⟩:=nx hN;exact uo z B o (.a0 j) hd D a i (bf rfl) (λe d=>by simp at d;subst d;exact .inl (.inl (.inl rfl))) (.inl ⟨j,_,n,c,rfl,rfl,r,u⟩) sl
 . have x:=i
   rw[O]at x;obtain⟨g1,w',a,rfl,y,hN⟩:=VM (Wd:=kQ A) (main:=true) (v:=0) C X (λw h=>h.2.1) x (by omega) L
   have G:Q4 A.gb #[⟨.cell ⟨A.gb,0,none⟩,false,true⟩,⟨.cell ⟨A.gb,0,none⟩,true,true⟩]:=λe d=>by simp at d;rcases d with rfl|rfl<;>exact .inl (.inr ⟨0,.inl rfl,rfl,rfl⟩)
   rcases hN with hN|hN
   . obtain⟨n,c,r,u⟩:=nx hN
     exact uo z B o (.a2 j _ (.inl rfl)) hd D a (by rw[O];exact y) (⟨⟨.refl _,rfl⟩,.inr ⟨0,_,.inl rfl,rfl,rfl⟩⟩) G (.inl ⟨j,_,n,c,rfl,rfl,r,u⟩) sl
   . obtain⟨n,c,r,u⟩:=nx hN
     exact uo z B o (.a2 j _ (.inr rfl)) hd D a (by rw[O];exact y) (⟨⟨.refl _,rfl⟩,.inr ⟨0,_,.inl rfl,rfl,rfl⟩⟩) G (.inl ⟨j,_,n,c,rfl,rfl,r,u⟩) sl
 . obtain⟨g1,a,hN⟩:=VN (Wd:=kQ A) (main:=true) (w:=w) C X L Q
   obtain⟨n,c,r,u⟩:=nx hN;exact uo z B o (.a4 j) hd D a i (bf rfl) (λe d=>by simp at d;subst d;exact .inr ⟨1,.inr rfl,.inl rfl⟩) (.inl ⟨j,_,n,c,rfl,rfl,r,u⟩) sl
 . obtain⟨g1,a,hr,⟨k,H⟩⟩:=VO (Wd:=λ_=>True) (main:=true) (w:=w) C X L Q
   obtain⟨tr⟩:=T.tree (P:=P) (m:=E0 P A Fin (j-1)) rfl U;obtain⟨T,_⟩:=TT.pre H tr;exact uo z B o (.ae j) hd D a i (bf rfl) (λe d=>by simp at d;subst d;exact .inl (.inl (.inr rfl))) (.inr ⟨j-1,rfl,rfl,hr,T,trivial⟩) sl
include C X in
theorem La(c:A.b+A.n+1<=Z.lk)(d:bF (bY P A Fin Z c) Z s f q kk OO J M gs w t)(r:s.ms=.add (j+1)){k:ah}{O:aj}{N:abz}(h:k=kk 0)(i:O=OO 0)(y:gs[0]?=some g)(z:(oZ P A Fin (j+1)).de k O g N)(sl:abC):
 Goes P A Fin Z c s gs w t sl 0:=by
 have u:c8 P A Z s kk OO J M gs.size w t:=d.ex;obtain⟨_,_,_,_,_,_,l,_⟩:=d.live 0 (.inl ⟨rfl,by rw[r];trivial⟩);obtain⟨rfl,v,rest,rfl,B⟩:=z;subst h i;obtain⟨D,⟨n,a⟩,x⟩:=yX (P:=P) (n:=A.ng) (b:=A.gb) (kind:=.normal) (cs:=v::rest) (Wd:=kQ A) X;cases n with
 |zero=>exact absurd rfl (K7 C a x)
 |succ n=>obtain⟨g1,⟨E,m⟩,o⟩:=a;have p:kQ A w:=(bd (P:=P) (A:=A) (Fin:=Fin) (Z:=Z) c).wd u;exact uo c d r (.call (j+1) (by omega)) l y (m true w p) u.gr (bf rfl) (λe F=>by simp at F) (.inl ⟨j+1,.a0,n,D,rfl,rfl,o,v,rest,x,B⟩) sl
end
