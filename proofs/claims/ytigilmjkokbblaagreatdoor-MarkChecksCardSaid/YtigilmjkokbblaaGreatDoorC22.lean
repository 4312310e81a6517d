/- Part 22 of the proof. -/
import Derived.Test.YtigilmjkokbblaaGreatDoorC21
set_option linter.all false
namespace Go.bd
open Go.Conc
open Go.ConcN (sumTo upd sumTo_upd upd_ne upd_same)
variable{P:Program}
def MS.im(s:MS P)(j:Nat)(x:bt P)(gc gv gm:Nat):MS P:={s with w:=λi=>if i=j then x else s.w i,gc:=gc,gv:=gv,gm:=gm}
section
variable{s:MS P}{j n:Nat}{x:bt P}{gc gv gm:Nat}
theorem bM:(s.im j x gc gv gm).w j=x:=by simp[MS.im]
theorem dI{i:Nat}(h:i≠j):(s.im j x gc gv gm).w i=s.w i:=by simp[MS.im,h]
theorem OK:(λi=>((s.im j x gc gv gm).w i).pc)=Mu.set (λi=>(s.w i).pc) j x.pc:=by
 funext i;by_cases h:i=j
 . subst h;rw[bM,Mu.ak]
 . rw[dI h,Mu.ag _ _ h]
theorem Dx(F:bt P->Nat)(a:j<n):sumTo n (λi=>F ((s.im j x gc gv gm).w i))+F (s.w j)=sumTo n (λi=>F (s.w i))+F x:=by
 have e:(λi=>F ((s.im j x gc gv gm).w i))=upd (λi=>F (s.w i)) j (F x):=by
  funext i;by_cases h:i=j
  . subst h;rw[bM,upd_same]
  . rw[dI h,upd_ne _ _ h]
 rw[e];have:=sumTo_upd (λi=>F (s.w i)) (F x) id a;simpa using this
theorem bT.TD(I:bT n s)(f:j<n){p:vN}(d:s.w j=.dn p)(b:x.ok=true)(g:x.jv=false)(k:x≠.wait)(m:x.pc=.out)
 (F:gc+(s.w j).cnt=s.gc+x.cnt) (t:gv<=1) (o:gv=1->s.c.waits=true/\gm=0)
 (u:∀i,i<n->((s.im j x gc gv gm).w i=.dn .d5\/(s.im j x gc gv gm).w i=.dn .d6)->gv=1/\gc=0)
 (q:∀i l,i<n->l<n->((s.im j x gc gv gm).w i).last=true->((s.im j x gc gv gm).w l).last=true->i=l)
 (v:∀i,i<n->(s.im j x gc gv gm).w i=.dn .d7->gv=0/\gc=0/\gm=0/\s.c.waits=true)
 (y:gm<=1/\(gm=1->s.c.waits=true/\gv=0/\gc=0/\∀i,i<n->((s.im j x gc gv gm).w i).last=false))
 (z:s.c.waits=true->gv=0->gm=0->∃i,i<n/\(s.im j x gc gv gm).w i=.dn .d7)
 (A:gv=1->gc=0->∃i,i<n/\((s.im j x gc gv gm).w i=.dn .d5\/(s.im j x gc gv gm).w i=.dn .d6)):bT n (s.im j x gc gv gm):=by
 refine⟨?_,t,o,u,q,v,y,z,A,λh=>?_,I.g9,λi a=>?_,I.Qy,I.sp,λi a=>?_,?_,λh i a=>?_,?_⟩
 . have r:=Dx (s:=s) (x:=x) (gc:=gc) (gv:=gv) (gm:=gm) bt.cnt f
   have:=I.g1;show gc=sumTo n (λi=>((s.im j x gc gv gm).w i).cnt)+s.ms.pend;omega
 . have:=(I.g8 h).2.2.2 j f
   rw[d]at this;cases this
 . by_cases e:i=j
   . subst e;rw[bM];exact b
   . rw[dI e];exact I.ok i a
 . by_cases e:i=j
   . subst e
     rw[bM,g];have:=I.idle i a;rw[d]at this;exact this
   . rw[dI e];exact I.idle i a
 . have:=I.ms
   show match s.ms with
   |.add l=>s.sp+l=n/\s.c=.none
   |.bD l p=>s.sp+l=n/\s.c=.none/\1<=l/\(p=.a0\/p=.a2\/p=.a4\/p=.ae)
   |.spawn l=>s.sp+l+1=n/\s.c=.none
   |.recv=>s.sp=n/\s.c≠.none
   |.parked=>s.sp=n/\s.c≠.none/\s.c≠.gone/\∀i,i<n->(s.im j x gc gv gm).w i≠.wait
   cases e:s.ms with
   | parked=>
     rw[e]at this;obtain⟨B,C,D,E⟩:=this;refine⟨B,C,D,λi a=>?_⟩;by_cases e:i=j
     . subst e;rw[bM];exact k
     . rw[dI e];exact E i a
   |_=>rw[e]at this;exact this
 . have:=I.early h j f
   rw[d]at this;cases this
 . rw[OK,m]
   have e:=mg (λi=>(s.w i).pc) j;rw[show(s.w j).pc=.out by rw[d];rfl]at e;rw[e];exact I.mu
inductive BM(s:MS P):vN->bt P->Nat->Nat->Nat->Prop
 |VH:s.gc=1->s.gv=1->BM s .d4 (.dn .d5) 0 1 s.gm
 |d4 (k:Nat):s.gc=k+1 -> ¬(k=0/\s.gv=1)->BM s .d4 .gone k s.gv s.gm
 |d5:BM s .d5 (.dn .d6) s.gc s.gv s.gm
 |d6:BM s .d6 (.dn .d7) s.gc 0 s.gm
 |d7:BM s .d7 .gone s.gc s.gv (s.gm+1)
theorem bT.done(I:bT n s)(m:j<n){p:vN}(c:s.w j=.dn p)(h:BM s p x gc gv gm):bT n (s.im j x gc gv gm):=by
 have Lp:∀{i:Nat},(s.w i).last=true->s.w i=.dn .d5\/s.w i=.dn .d6\/s.w i=.dn .d7:=λ{i} h=>by
  cases e:s.w i with
  |dn p=>cases p<;>simp_all [bt.last]
  |_=>rw[e]at h;simp[bt.last]at h
 have d:∀{i:Nat},i<n->(s.w i).last=true->s.gc=0:=λ{i} a h=>by
  rcases Lp h with h|h|h
  . exact(I.g3 i a (.inl h)).2
  . exact(I.g3 i a (.inr h)).2
  . exact(I.g4 i a h).2.1
 cases h with
 | VH v y=>
   refine I.TD m c rfl rfl (by simp) rfl (by rw[c,v];rfl) (by omega) (λ_=>I.tE y) (λi a h=>⟨rfl,rfl⟩) (λi l a o h f=>?_) (λi a h=>?_) ⟨I.g5.1,λh=>?_⟩ (λ_ h=>by omega) (λ_ _=>⟨j,m,.inl bM⟩)
   . by_cases e:i=j
     . by_cases t:l=j
       . rw[e,t]
       . rw[dI t]at f;have:=d o f;omega
     . rw[dI e]at h;have:=d a h;omega
   . by_cases e:i=j
     . subst e;rw[bM]at h;cases h
     . rw[dI e]at h;have:=(I.g4 i a h).2.1;omega
   . have:=(I.g5.2 h).2.1;omega
 | d4 k v y=>
   refine I.TD m c rfl rfl (by simp) rfl (by rw[c,v];rfl) I.g2 I.tE (λi a h=>?_) (λi l a o h f=>?_) (λi a h=>?_) ⟨I.g5.1,λh=>?_⟩ (λh f z=>?_) (λh f=>absurd ⟨f,h⟩ y)
   . by_cases e:i=j
     . subst e;rw[bM]at h;rcases h with h|h<;>cases h
     . rw[dI e]at h;have:=(I.g3 i a h).2;omega
   . by_cases e:i=j
     . subst e;rw[bM]at h;cases h
     . rw[dI e]at h;have:=d a h;omega
   . by_cases e:i=j
     . subst e;rw[bM]at h;cases h
     . rw[dI e]at h;have:=(I.g4 i a h).2.1;omega
   . have:=(I.g5.2 h).2.2.1;omega
   . obtain⟨i,a,B⟩:=I.g6 h f z
     have:=(I.g4 i a B).2.1;omega
 | d5=>
   obtain⟨u,r⟩:=I.g3 j m (.inl c);obtain⟨q,m0⟩:=I.tE u
   have g:∀{i:Nat},((s.im j (.dn .d6) s.gc s.gv s.gm).w i).last=(s.w i).last:=λ{i}=>by
    by_cases e:i=j
    . subst e;rw[bM,c];rfl
    . rw[dI e]
   refine I.TD m c rfl rfl (by simp) rfl (by rw[c];rfl) I.g2 I.tE (λi a h=>⟨u,r⟩) (λi l a o h f=>?_) (λi a h=>?_) ⟨I.g5.1,λh=>?_⟩ (λh f=>by omega) (λ_ _=>⟨j,m,.inr bM⟩)
   . rw[g]at h f;exact I.zw i l a o h f
   . by_cases e:i=j
     . subst e;rw[bM]at h;cases h
     . rw[dI e]at h;exact I.g4 i a h
   . omega
 | d6=>
   obtain⟨u,r⟩:=I.g3 j m (.inr c);obtain⟨q,m0⟩:=I.tE u;have o:(s.w j).last=true:=by rw[c];rfl
   have g:∀{i:Nat},((s.im j (.dn .d7) s.gc 0 s.gm).w i).last=(s.w i).last:=λ{i}=>by
    by_cases e:i=j
    . subst e;rw[bM,c];rfl
    . rw[dI e]
   refine I.TD m c rfl rfl (by simp) rfl (by rw[c];rfl) (by omega) (λh=>by omega) (λi a h=>?_) (λi l a o h f=>?_) (λi a h=>⟨rfl,r,m0,q⟩) ⟨I.g5.1,λh=>by omega⟩ (λ_ _ _=>⟨j,m,bM⟩) (λh=>by omega)
   . by_cases e:i=j
     . subst e;rw[bM]at h;rcases h with h|h<;>cases h
     . rw[dI e]at h
       have A:(s.w i).last=true:=by rcases h with h|h<;>rw[h]<;>rfl
       exact absurd (I.zw i j a m A o) e
   . rw[g]at h f;exact I.zw i l a o h f
 | d7=>
   obtain⟨C,r,m0,q⟩:=I.g4 j m c;have o:(s.w j).last=true:=by rw[c];rfl
   have b:∀{i:Nat},i<n->((s.im j .gone s.gc s.gv (s.gm+1)).w i).last=false:=λ{i} a=>by
    by_cases e:i=j
    . subst e;rw[bM];rfl
    . rw[dI e]
      cases t:(s.w i).last with
      |false=>rfl
      |true=>exact absurd (I.zw i j a m t o) e
   refine I.TD m c rfl rfl (by simp) rfl (by rw[c];rfl) I.g2 (λh=>by omega) (λi a h=>?_) (λi l a o h f=>?_) (λi a h=>?_) ⟨by omega,λh=>⟨q,C,r,λi a=>b a⟩⟩ (λ_ _ h=>by omega) (λh=>by omega)
   . have:=b a
     rcases h with h|h<;>rw[h]at this<;>cases this
   . rw[b a]at h;cases h
   . have:=b a
     rw[h]at this;cases this
theorem jI.QH(c:jI)(a b:Nat):c.cS a<=c.cS b+2:=by
 cases c with
 | wt p=>
   cases p with
   |w2 k=>simp only[jI.cS];split<;>split<;>omega
   |_=>simp[jI.cS]
 |_=>simp[jI.cS]
theorem Im(d:j<n){p:vN}(e:s.w j=.dn p)(h:BM s p x gc gv gm):MS.gM n (s.im j x gc gv gm) s:=by
 have f:=Dx (s:=s) (x:=x) (gc:=gc) (gv:=gv) (gm:=gm) bt.cS d;refine .inl ?_;show s.ms.cS+sumTo n (λi=>((s.im j x gc gv gm).w i).cS)+s.c.cS gc<s.ms.cS+sumTo n (λi=>(s.w i).cS)+s.c.cS s.gc;rw[e]at f;have:=jI.QH s.c gc s.gc;cases h with
 |VH g l=>have a:(bt.dn (P:=P) .d4).cS=10:=rfl;have b:(bt.dn (P:=P) .d5).cS=4:=rfl;omega
 |d4 k g l=>have a:(bt.dn (P:=P) .d4).cS=10:=rfl;have b:(bt.gone (P:=P)).cS=0:=rfl;omega
 |d5=>have a:(bt.dn (P:=P) .d5).cS=4:=rfl;have b:(bt.dn (P:=P) .d6).cS=3:=rfl;omega
 |d6=>have a:(bt.dn (P:=P) .d6).cS=3:=rfl;have b:(bt.dn (P:=P) .d7).cS=2:=rfl;omega
 |d7=>have a:(bt.dn (P:=P) .d7).cS=2:=rfl;have b:(bt.gone (P:=P)).cS=0:=rfl;omega
end
end Go.bd
namespace Go.bd
open Go.Conc
open Go.ConcN (sumTo upd sumTo_upd upd_ne upd_same)
theorem xR{e:Event}(h:MemAct.ofEvent e=.mark .enable):e.loc=.mark .enable:=by
 obtain⟨loc,wr,a⟩:=e;cases loc with
 |mark m=>cases m<;>simp_all [MemAct.ofEvent]
 |cell b=>simp[MemAct.ofEvent]at h
 |obj r=>cases wr<;>cases a<;>simp[MemAct.ofEvent]at h
 |_=>simp[MemAct.ofEvent]at h
theorem mU{i:Nat}{fn:FuncId}{pos:String}{es:Array Event}(h:∀e∈es,e.loc≠.mark .enable):∀(m:Nat) (op:MemOp) (a:Touch),(MemOp.ofEvents i fn pos es)[m]?=some op->op.act.touch?=some a->∀(l:Nat) (b:MemOp),l<m->(MemOp.ofEvents i fn pos es)[l]?=some b->b.act≠.mark .enable:=λm op a _ _ l b _ c d=>by obtain⟨e,f,rfl⟩:=Go.Conc.mem_ofEvents (Array.mem_of_getElem? c);exact h e f (xR d)
theorem Io{i:Nat}{fn:FuncId}{pos:String}{ad:Addr}:∀(m:Nat) (op:MemOp) (a:Touch),(MemOp.ofEvents i fn pos (semEvents ad))[m]?=some op->op.act.touch?=some a->∀(l:Nat) (c:MemOp),l<m->(MemOp.ofEvents i fn pos (semEvents ad))[l]?=some c->c.act≠.mark .enable:=λm op a d f l c e b=>by
 rw[ofEvents_eq]at d b;simp only[semEvents]at d b
 match m,l,e with
 |0,l,e=>omega
 |1,0,_=>simp at b;subst b;simp[MemAct.ofEvent]
 |2,0,_=>simp at b;subst b;simp[MemAct.ofEvent]
 |2,1,_=>simp at b;subst b;simp[MemAct.ofEvent]
 |3,l,_=>simp at d;subst d;simp[MemAct.ofEvent,MemAct.touch?]at f
 |m+4,l,_=>simp at d
theorem oQ:∀(n:Nat){F:Nat->Nat},(∀l,l<n->F l<=1)->sumTo n F<=n
 |0,_,_=>Nat.le_refl _
 | n+1,F,h=>by
   have a:=oQ n (F:=F) (λl b=>h l (by omega));have c:=h n (by omega);simp only[sumTo];omega
section
variable{P:Program}{A:eu}{Fin:ah->ai->Goroutine->Prop}{Z:Base}{s:MS P}{f:Nat->Node P}{q:Nat->Nat}{kk:Nat->ah}{OO:Nat->ai}{J M:Nat->Prop}{gs:Array Goroutine}{w w':World}{t u:Trace}{j:Nat}{x:bt P}{gc gv gm:Nat}{g g1:Goroutine}
theorem FD{p:vN}(h:BM s p x gc gv gm):x.ik=true/\x.owns=false/\x.busy=false/\(bt.dn (P:=P) p).busy=false/\(bt.dn (P:=P) p).deaf=1/\(x=.gone\/∃a,x=.dn a/\x.deaf=1):=by cases h<;>simp[bt.ik,bt.owns,bt.busy,bt.deaf]
theorem sZ(v:A.b+A.n+1<=Z.lk)(H:bJ (cB P A Fin Z v) Z s f q kk OO J M gs w t)(d:j<A.n){p:vN}(k:s.w j=.dn p)(hg:gs[A.b+j]?=some g){es:Array Event}(K:stepG P false g w=.go g1 w' es)(L:BM s p x gc gv gm)
 (N:qS A.gb w' gc gv gm) (O:MW A.gb 0 w w') (y:EvM A.gb 0 es) (Q:deafBehind 1 es=1)
 (ha:∀(m:Nat) (op:MemOp) (a:Touch),(MemOp.ofEvents (A.b+j) g.frame.fn g.frame.place es)[m]?=some op->op.act.touch?=some a->∀(l:Nat) (z:MemOp),l<m->(MemOp.ofEvents (A.b+j) g.frame.fn g.frame.place es)[l]?=some z->z.act≠.mark .enable)
 (B:(s.gm=0->gm=0)\/(mayWake P g=true/\(g1.status=.running\/g1.status=.finished)))
 (hs:(∃F,x=.dn F/\∃n G,kD P (lN A) n g1 G/\Ih P A j (.dn F) (kk (A.b+j)) (OO (A.b+j)) G)\/(x=.gone/\∃m,QuitsD P m 1 g1)) (sl:Option (Nat × Nat)):Goes P A Fin Z v s gs w t sl (A.b+j):=by
 have X:dt P A Z s kk OO J M gs.size w t:=H.ex;have hb:=A.hb;have R:(A.b+j==0)=false:=by simp;omega
 obtain⟨f1,f2,f3,f4,f5,C⟩:=FD L;have S:=mT (P:=P) (A:=A) (s:=s) d k
 have T:Deaf t (A.b+j)=1:=by obtain⟨_,_,U,_⟩:=H.walk _ S;rw[U];show dc P A s (A.b+j)=1;rw[eP d,k];exact f5
 have c:(s.im j x gc gv gm).w j=x:=bM
 have r:∀l,((s.im j x gc gv gm).w l).busy=(s.w l).busy:=λl=>by
  by_cases e:l=j
  . subst e;rw[bM,k,f3,f4]
  . rw[dI e]
 have hS:eX A s (s.im j x gc gv gm) (A.b+j):=⟨λl _ Y=>dI (by omega),λ_=>rfl,λ_=>rfl,rfl,λl _=>by
  by_cases e:l=j
  . subst e;rw[bM,k,f1];rfl
  . rw[dI e]⟩
 have hI:=X.I.done d k L;have hL:=Im d k L;have D:∀fn pos,Deaf (t++MemOp.ofEvents (A.b+j) fn pos es) (A.b+j)=1:=λfn pos=>by rw[Deaf_own,T];exact Q
 have go:∀(V:Nat),Self P (cB P A Fin Z v) (s.im j x gc gv gm) f (upd q (A.b+j) V) kk OO J (t++MemOp.ofEvents (A.b+j) g.frame.fn g.frame.place es) (A.b+j) g1->Goes P A Fin Z v s gs w t sl (A.b+j):=λV u=>
  BL v H (iz X.I d (by rw[k];rfl)) (pX d k) hg (by rw[R];exact K) hS (λl _=>by
   by_cases e:l=j
   . subst e;rw[bM,k,f2];rfl
   . rw[dI e]) rfl rfl id (λi=>by unfold fF;simp only[r];rfl) hI rfl N O (.inl y) hL (.inr ⟨y,FC (by omega) ha⟩) B (λ_ _=>rfl) (λi hi=>upd_ne q V hi) u sl
 rcases hs with⟨F,rfl,n,G,E,W⟩|⟨rfl,m,hq⟩
 . refine go n ⟨λY=>absurd Y (kI d c),λ_=>⟨kI d c,?_,?_,G,?_,?_⟩,λhh=>absurd hh (pX d c),λ_ hn _=>absurd (mT d c) hn⟩
   . show A.b+j<A.b+A.n+1;omega
   . rw[D]
     show 1=dc P A (s.im j (.dn F) gc gv gm) (A.b+j);rw[eP d,c]
     rcases C with C|⟨p2,e,C⟩
     . cases C
     . exact C.symm
   . exact .inr (.inl ⟨j,d,rfl,by rw[c];exact W⟩)
   . exact .inr (by rw[upd_same];exact E)
 . have nl:¬dH P A (s.im j .gone gc gv gm) (A.b+j):=by
    rintro(⟨e,_⟩|⟨l,h1,h2,o⟩|⟨e,_⟩)
    . omega
    . obtain rfl:l=j:=by omega
      rw[c]at o;exact o
    . omega
   have nw:¬fE P A (s.im j .gone gc gv gm) (A.b+j):=by
    rintro(⟨e,_⟩|⟨l,h1,h2,o⟩|⟨e,_⟩)
    . omega
    . obtain rfl:l=j:=by omega
      rw[c]at o;exact o
    . omega
   have nh:¬eM P A (s.im j .gone gc gv gm) (A.b+j):=by
    rintro(⟨e,_⟩|⟨l,h1,h2,o⟩)
    . omega
    . obtain rfl:l=j:=by omega
      rw[c]at o;cases o
   exact go m ⟨λh=>absurd h nl,λh=>absurd h nw,λh=>absurd h nh,λ_ _ _=>⟨by omega,by rw[upd_same,D];exact hq⟩⟩
variable(C:jH P A.ng)(X:ll P A.ng)
theorem OL{n:JE}{b:Nat}{kind:CallKind}{cs:List Frame}{g:Goroutine}(C:jH P n)(X:ll P n)(h:qT P n b kind .d7 cs g):mayWake P g=true:=by
 obtain⟨c,y,fr,f,⟨rfl,i⟩,m,j,k,rfl⟩:=h;have d:=Fu (y:=y) (a:=true) (by simpa using i);obtain⟨e,l⟩:=C.d9 b (Fl.of y);rw[d]at e l;exact BH j e X.oH
include C X in
theorem OM(z:A.b+A.n+1<=Z.lk)(D:bJ (cB P A Fin Z z) Z s f q kk OO J M gs w t)(r:j<A.n){p:vN}(u:s.w j=.dn p)(F:gs[A.b+j]?=some g)(N:Ih P A j (.dn p) (kk (A.b+j)) (OO (A.b+j)) g)(sl:Option (Nat × Nat)):Goes P A Fin Z z s gs w t sl (A.b+j):=by
 have B:dt P A Z s kk OO J M gs.size w t:=D.ex;have O:=B.I.ok j r;rw[u]at O;have E:=N;obtain⟨fw,fn,tmps,todo,G,v,Q⟩:=N;have x:=B.gr;have hn:=A.hn;have nx:∀{p' g1},iw P A.ng A.gb .deferred (lN A) p' [kX P fw tmps todo,di P] g1->∃n g2,kD P (lN A) n g1 g2/\Ih P A j (.dn p') (kk (A.b+j)) (OO (A.b+j)) g2:=λ⟨_,g2,⟨n,hs⟩,hA⟩=>⟨n,g2,hs,fw,fn,tmps,todo,G,v,hA⟩
 have cell:∀(i:Nat),(i=0\/i=1)->∀wr,EvM A.gb 0 #[⟨.cell ⟨A.gb,i,none⟩,wr,true⟩]:=λi hi wr e d=>by simp at d;subst d;exact .inr ⟨i,by simpa using hi,rfl,rfl⟩
 have y:EvM A.gb 0 #[⟨.cell ⟨A.gb,0,none⟩,false,true⟩,⟨.cell ⟨A.gb,0,none⟩,true,true⟩]:=λe d=>by simp at d;rcases d with rfl|rfl<;>exact .inr ⟨0,.inl rfl,rfl,rfl⟩
 have R:EvM A.gb 0 (semEvents ⟨A.gb,1,none⟩):=λe d=>by
  simp[semEvents]at d
  rcases d with rfl|rfl|rfl|rfl
  . exact .inl (.inl rfl)
  . exact .inr ⟨1,.inr rfl,rfl,rfl⟩
  . exact .inr ⟨1,.inr rfl,rfl,rfl⟩
  . exact .inl (.inr rfl)
 have S:∀l,l<A.n->(s.w l).cnt<=1:=λl _=>by
  cases e:s.w l with
  |dn p=>cases p<;>simp[bt.cnt]
  |_=>simp[bt.cnt]
 cases p<;>simp only[bt.ok,Bool.false_eq_true]at O
 case d1=>exact OJ C X z D r u F E sl
 case d2=>exact OI C X z D r u F E sl
 case d4=>
  have a7:1<=s.gc:=by
   have h1:=B.I.g1;have:(s.w j).cnt<=sumTo A.n (λj=>(s.w j).cnt):=Go.ConcN.le_sumTo (f:=λj=>(s.w j).cnt) r
   rw[u]at this;have e:(bt.dn (P:=P) .d4).cnt=1:=rfl;omega
  have a8:s.gc<=A.n+1:=by
   have h1:=B.I.g1;have h2:sumTo A.n (λj=>(s.w j).cnt)<=A.n:=oQ A.n S
   have h3:s.ms.pend<=1:=by cases s.ms<;>simp[pq.pend];split<;>omega
   omega
  obtain⟨k,V⟩:∃k,s.gc=k+1:=⟨s.gc-1,by omega⟩
  have a:=x;rw[V]at a;obtain⟨g1,w',o,rfl,c,H⟩:=Vt (Wd:=lN A) (main:=false) C X G v a (by omega) B.I.g2 Q
  have K:MW A.gb 0 w (w.setCell ⟨A.gb,0,none⟩ (.int .u64 (eC k s.gv))):=⟨⟨.refl _,rfl⟩,.inr ⟨0,_,.inl rfl,rfl,rfl⟩⟩
  rcases H with⟨W,hv,T⟩|⟨Y,hG⟩
  . subst W
    rw[hv]at c o K;exact sZ z D r u F o (.VH V hv) c K y rfl (mU (λe d=>by simp at d;rcases d with rfl|rfl<;>simp)) (.inl id) (.inl ⟨_,rfl,nx T⟩) sl
  . exact sZ z D r u F o (.d4 k V Y) c K y rfl (mU (λe d=>by simp at d;rcases d with rfl|rfl<;>simp)) (.inl id) (.inr ⟨rfl,hG⟩) sl
 case d5=>obtain⟨v1,L⟩:=B.I.g3 j r (.inl u);have a:=x;rw[v1,L]at a;obtain⟨g1,o,T⟩:=Vu (Wd:=lN A) (main:=false) C X a Q;exact sZ z D r u F o .d5 x (bh rfl) (cell 0 (.inl rfl) false) rfl (mU (λe d=>by simp at d;subst d;simp)) (.inl id) (.inl ⟨_,rfl,nx T⟩) sl
 case d6=>obtain⟨v1,L⟩:=B.I.g3 j r (.inr u);have a:=x;rw[v1,L]at a;obtain⟨g1,w',o,rfl,c,T⟩:=Vv (Wd:=lN A) (main:=false) C X a Q;exact sZ z D r u F o .d6 (by rw[L];exact c) (⟨⟨.refl _,rfl⟩,.inr ⟨0,_,.inl rfl,rfl,rfl⟩⟩) (cell 0 (.inl rfl) true) rfl (mU (λe d=>by simp at d;subst d;simp)) (.inl id) (.inl ⟨_,rfl,nx T⟩) sl
 case d7=>
  obtain⟨v0,L,m0,a9⟩:=B.I.g4 j r u;have a:=x;rw[v0,L]at a;have ad:=B.I.g5.1;obtain⟨g1,w',o,rfl,c,hG⟩:=Vw (Wd:=lN A) (main:=false) C X G v a (by omega) Q
  obtain⟨m,hq⟩:=hG;have U:g1.status=.running\/g1.status=.finished:=by rcases hq.status with h|h<;>simp[h]
  exact sZ z D r u F o .d7 (by rw[L,v0];exact c) (⟨⟨.refl _,rfl⟩,.inr ⟨1,_,.inr rfl,rfl,rfl⟩⟩) R rfl Io (.inr ⟨OL C X Q,U⟩) (.inr ⟨rfl,m,hq⟩) sl
end
end Go.bd
namespace Go.bd
open Go.Conc
open Go.ConcN (sumTo upd sumTo_upd upd_ne upd_same)
variable{P:Program}
def MS.uv(s:MS P)(c:jI)(gv gm:Nat):MS P:={s with c:=c,gv:=gv,gm:=gm}
section
variable{s:MS P}{n:Nat}{c:jI}{gv gm:Nat}
theorem Lp{x:bt P}(h:x.last=true):x=.dn .d5\/x=.dn .d6\/x=.dn .d7:=by
 cases x with
 |dn p=>cases p<;>simp_all [bt.last]
 |_=>simp[bt.last]at h
theorem bT.calm(I:bT n s)(h:s.c.waits=false):s.gv=0/\s.gm=0/\∀j,j<n->(s.w j).last=false:=by
 have b:s.gv=0:=by
  have:=I.g2;by_cases e:s.gv=1
  . have:=(I.tE e).1;rw[h]at this;cases this
  . omega
 refine⟨b,?_,λj a=>?_⟩
 . have:=I.g5.1
   by_cases e:s.gm=1
   . have:=(I.g5.2 e).1;rw[h]at this;cases this
   . omega
 . cases e:(s.w j).last with
   |false=>rfl
   | true=>
     rcases Lp e with e|e|e
     . have:=(I.g3 j a (.inl e)).1;omega
     . have:=(I.g3 j a (.inr e)).1;omega
     . have:=(I.g4 j a e).2.2.2;rw[h]at this;cases this
theorem bT.TE(I:bT n s)(h:s.c≠.none):s.sp=n:=by have:=I.ms;cases e:s.ms<;>rw[e]at this<;>first|exact this.1|exact absurd this.2 h|exact absurd this.2.1 h
theorem bT.Dy(I:bT n s)(h:s.c≠.none)(l:s.gc=0)(g:∀j,j<n->(s.w j).last=false):∀j,j<n->s.w j=.gone:=λj a=>by
 have m:=I.g1;have o:(s.w j).cnt<=sumTo n (λj=>(s.w j).cnt):=Go.ConcN.le_sumTo (f:=λj=>(s.w j).cnt) a;have b:=I.idle j a;rw[I.TE h]at b;have i:=g j a;have k:=I.ok j a;have d:(s.w j).cnt=0:=by omega
 cases e:s.w j with
 |idle=>rw[e]at b;have:=b.1 rfl;omega
 |dn p=>rw[e]at i k d;cases p<;>simp_all [bt.last,bt.ok,bt.cnt]
 |gone=>rfl
 |_=>rw[e]at d;simp[bt.cnt]at d
inductive rO(s:MS P):jI->jI->Nat->Nat->Prop
 |call:rO s .eU (.wt .w0) s.gv s.gm
 |w0:rO s (.wt .w0) (.wt .w1) s.gv s.gm
 |Wy:s.gc=0->rO s (.wt .w1) (.wt .we) s.gv s.gm
 |w1:s.gc≠0->rO s (.wt .w1) (.wt (.w2 s.gc)) s.gv s.gm
 |Wz:rO s (.wt (.w2 s.gc)) (.wt .w3) 1 s.gm
 |VI (k:Nat):s.gc≠k->rO s (.wt (.w2 k)) (.wt .w1) s.gv s.gm
 |w3:rO s (.wt .w3) (.wt .w4) s.gv s.gm
 |w4:s.gm≠0->rO s (.wt .w4) (.wt .w5) s.gv (s.gm-1)
 |w5:rO s (.wt .w5) (.wt .we) s.gv s.gm
 |we:rO s (.wt .we) (.wt .wa) s.gv s.gm
 |wa:rO s (.wt .wa) .kF s.gv s.gm
theorem bT.ON(I:bT n s)(b:s.c≠.none)(a:c≠.none)(d:c≠.gone)(f:c.ok=true)(m:gv<=1)(g:gv=1->c.waits=true/\gm=0)
 (o:∀j,j<n->(s.w j=.dn .d5\/s.w j=.dn .d6)->gv=1/\s.gc=0) (q:∀j,j<n->s.w j=.dn .d7->gv=0/\s.gc=0/\gm=0/\c.waits=true)
 (r:gm<=1/\(gm=1->c.waits=true/\gv=0/\s.gc=0/\∀j,j<n->(s.w j).last=false)) (t:c.waits=true->gv=0->gm=0->∃j,j<n/\s.w j=.dn .d7)
 (u:gv=1->s.gc=0->∃j,j<n/\(s.w j=.dn .d5\/s.w j=.dn .d6)) (v:c.Lb=true->s.gc=0/\gv=0/\gm=0/\∀j,j<n->s.w j=.gone) (x:∀k,c=.wt (.w2 k)->k≠0):bT n (s.uv c gv gm):=by
 refine⟨I.g1,m,g,o,I.zw,q,r,t,u,v,x,I.ok,f,I.sp,I.idle,?_,λh=>absurd h a,I.mu⟩;have:=I.ms
 show match s.ms with
  |.add l=>s.sp+l=n/\c=.none
  |.bD l p=>s.sp+l=n/\c=.none/\1<=l/\(p=.a0\/p=.a2\/p=.a4\/p=.ae)
  |.spawn l=>s.sp+l+1=n/\c=.none
  |.recv=>s.sp=n/\c≠.none
  |.parked=>s.sp=n/\c≠.none/\c≠.gone/\∀i,i<n->s.w i≠.wait
 cases e:s.ms with
 |add l=>rw[e]at this;exact absurd this.2 b
 |bD l p=>rw[e]at this;exact absurd this.2.1 b
 |spawn l=>rw[e]at this;exact absurd this.2 b
 |recv=>rw[e]at this;exact⟨this.1,a⟩
 |parked=>rw[e]at this;exact⟨this.1,a,d,this.2.2.2⟩
theorem bT.WG(I:bT n s){e:jI}(a:s.c=e)(h:rO s e c gv gm):bT n (s.uv c gv gm):=by
 have calm:e.waits=false->c.waits=false->e≠.none->c≠.none->c≠.gone->c.ok=true->gv=s.gv->gm=s.gm->(c.Lb=true->s.gc=0)->(∀k,c=.wt (.w2 k)->k≠0)->bT n (s.uv c gv gm):=by
  intro q r t u v w x y p m;subst x y;obtain⟨l,m0,d⟩:=I.calm (by rw[a];exact q)
  have f:s.c≠.none:=by rw[a];exact t
  refine I.ON f u v w I.g2 (λh=>by omega) I.g3 (λj b h=>?_) ⟨by omega,λh=>by omega⟩ (λh=>by rw[r]at h;cases h) I.g7 (λh=>⟨p h,l,m0,I.Dy f (p h) d⟩) m
  have:=d j b;rw[h]at this;cases this
 have g8:e.Lb=true->s.gc=0:=λh=>(I.g8 (by rw[a];exact h)).1
 cases h with
 |call=>exact calm rfl rfl (by simp) (by simp) (by simp) rfl rfl rfl (λh=>by cases h) (λk h=>by cases h)
 |w0=>exact calm rfl rfl (by simp) (by simp) (by simp) rfl rfl rfl (λh=>by cases h) (λk h=>by cases h)
 |Wy g=>exact calm rfl rfl (by simp) (by simp) (by simp) rfl rfl rfl (λ_=>g) (λk h=>by cases h)
 |w1 g=>exact calm rfl rfl (by simp) (by simp) (by simp) rfl rfl rfl (λh=>by cases h) (λk h=>by cases h;exact g)
 |VI k g=>exact calm rfl rfl (by simp) (by simp) (by simp) rfl rfl rfl (λh=>by cases h) (λk h=>by cases h)
 |w5=>exact calm rfl rfl (by simp) (by simp) (by simp) rfl rfl rfl (λ_=>g8 rfl) (λk h=>by cases h)
 |we=>exact calm rfl rfl (by simp) (by simp) (by simp) rfl rfl rfl (λ_=>g8 rfl) (λk h=>by cases h)
 |wa=>exact calm rfl rfl (by simp) (by simp) (by simp) rfl rfl rfl (λ_=>g8 rfl) (λk h=>by cases h)
 | Wz=>
   obtain⟨l,m0,d⟩:=I.calm (by rw[a];rfl)
   have z:=I.g9 s.gc a;refine I.ON (by rw[a];simp) (by simp) (by simp) rfl (by omega) (λ_=>⟨rfl,m0⟩) (λj b h=>?_) (λj b h=>?_) ⟨by omega,λh=>by omega⟩ (λ_ h=>by omega) (λ_ h=>absurd h z) (λh=>by cases h) (λk h=>by cases h)
   . have:=(I.g3 j b h).1;omega
   . have:=d j b;rw[h]at this;cases this
 | w3=>
   have A:s.c.waits=true:=by rw[a];rfl
   refine I.ON (by rw[a];simp) (by simp) (by simp) rfl I.g2 (λh=>⟨rfl,(I.tE h).2⟩) I.g3 (λj b h=>?_) ⟨I.g5.1,λh=>⟨rfl,(I.g5.2 h).2⟩⟩ (λ_=>I.g6 A) I.g7 (λh=>by cases h) (λk h=>by cases h)
   have:=I.g4 j b h;exact⟨this.1,this.2.1,this.2.2.1,rfl⟩
 | w4 g=>
   have o:s.gm=1:=by have:=I.g5.1;omega
   obtain⟨B,l,i,d⟩:=I.g5.2 o;have f:s.c≠.none:=by rw[a];simp
   refine I.ON f (by simp) (by simp) rfl I.g2 (λh=>by omega) I.g3 (λj b h=>?_) ⟨by omega,λh=>by omega⟩ (λh=>by cases h) I.g7 (λ_=>⟨i,l,by omega,I.Dy f i d⟩) (λk h=>by cases h)
   have:=d j b;rw[h]at this;cases this
theorem Dz{a:jI}(b:s.c=a)(h:rO s a c gv gm):MS.gM n (s.uv c gv gm) s:=by
 refine .inl ?_;show s.ms.cS+sumTo n (λi=>(s.w i).cS)+c.cS s.gc<s.ms.cS+sumTo n (λi=>(s.w i).cS)+s.c.cS s.gc;rw[b]
 have:c.cS s.gc<a.cS s.gc:=by
  cases h with
  |VI k d=>simp only[jI.cS];rw[if_neg d];omega
  |_=>simp[jI.cS]
 omega
end
end Go.bd
namespace Go.bd
open Go.Conc
open Go.ConcN (sumTo upd sumTo_upd upd_ne upd_same)
section
variable{P:Program}{A:eu}{Fin:ah->ai->Goroutine->Prop}{Z:Base}{s:MS P}{f:Nat->Node P}{q:Nat->Nat}{kk:Nat->ah}{OO:Nat->ai}{J M:Nat->Prop}{gs:Array Goroutine}{w w':World}{t u:Trace}{c:jI}{p:vN}{gv gm:Nat}{g g1:Goroutine}
theorem BN(e:s.c=.wt p):fE P A s (A.b+A.n):=.inr (.inr ⟨rfl,by rw[e];trivial⟩)
theorem G8(e:s.c=.wt p):¬dH P A s (A.b+A.n):=by
 have:=A.hb;rintro(⟨e,_⟩|⟨l,d,f,a⟩|⟨_,a⟩)
 . omega
 . omega
 . rw[e]at a;exact a
theorem s8:¬eM P A s (A.b+A.n):=by
 have:=A.hb;rintro(⟨e,_⟩|⟨l,a,c,d⟩)<;>omega
theorem BO(e:s.c=.wt p):dc P A s (A.b+A.n)=vf p:=by have:=A.hb;unfold dc;rw[if_neg (by omega),if_neg (by omega),e]
theorem Ha(h:s.c≠.none):bU P A s (A.b+A.n):=.inr (.inr ⟨rfl,h⟩)
theorem Ip{a:jI}(h:rO s a c gv gm):a.eD=false/\c.eD=false/\a.isNone=false/\c.isNone=false/\a.busy=true/\c.busy=true:=by cases h<;>simp[jI.eD,jI.isNone,jI.busy]
theorem Lq:eX A s (s.uv c gv gm) (A.b+A.n):=⟨λ_ _ _=>rfl,λh=>absurd rfl h,λ_=>rfl,rfl,λ_ _=>rfl⟩
theorem nf(o:A.b+A.n+1<=Z.lk)(E:bJ (cB P A Fin Z o) Z s f q kk OO J M gs w t){F:jI}(h:s.c=F)(r:rO s F (.wt p) gv gm){d:Nat}(hd:Deaf t (A.b+A.n)=d)(L:gs[A.b+A.n]?=some g){es:Array Event}(u:stepG P false g w=.go g1 w' es)
 (v:qS A.gb w' s.gc gv gm) (x:MW A.gb 0 w w') (y:QF A.gb es) (z:deafBehind d es=vf p) (j:s.gm=0->gm=0)
 (N:∃n m,kD P (lN A) n g1 m/\Tq P A (.wt p) (kk (A.b+A.n)) (OO (A.b+A.n)) m) (sl:Option (Nat × Nat)):Goes P A Fin Z o s gs w t sl (A.b+A.n):=by
 have G:dt P A Z s kk OO J M gs.size w t:=E.ex;have hb:=A.hb;have B:(A.b+A.n==0)=false:=by simp;omega
 obtain⟨f1,S,H,T,K,U⟩:=Ip r;have k:s.c.isNone=false:=by rw[h];exact H
 have C:s.c≠.none:=λe=>by rw[e]at k;cases k
 obtain⟨n,m,l,D⟩:=N;have a:(s.uv (.wt p) gv gm).c=.wt p:=rfl;have hJ:J (A.b+A.n):=(G.hJ _).2 (.inr ⟨rfl,by rw[h];exact K⟩)
 refine BL (s':=s.uv (.wt p) gv gm) (f':=f) (q':=upd q (A.b+A.n) n) o E (Ha C) s8 L (by rw[B];exact u) Lq (λ_ _=>rfl) (by rw[h,f1];rfl) (by rw[h,H];rfl) (λ_=>.inr (.inr ⟨p,rfl⟩)) (λi=>?_) (G.I.WG h r) rfl v x (.inr ⟨y,by rw[k];rfl⟩) (Dz h r) (.inl (.inr hJ)) (.inl j) (λ_ _=>rfl) (λi O=>upd_ne q n O) ?_ sl
 . unfold fF
   rw[h,K];rfl
 . refine⟨λQ=>absurd Q (G8 a),λ_=>⟨G8 a,?_,?_,m,?_,?_⟩,λR=>absurd R s8,λ_ k _=>absurd (BN a) k⟩
   . show A.b+A.n<A.b+A.n+1;omega
   . rw[Deaf_own,hd,z]
     show _=dc P A (s.uv (.wt p) gv gm) (A.b+A.n);rw[BO a]
   . exact .inr (.inr ⟨rfl,D⟩)
   . exact .inr (by rw[upd_same];exact l)
variable(C:jH P A.ng)(X:ll P A.ng)
include C X in
theorem OP(x:A.b+A.n+1<=Z.lk)(y:bJ (cB P A Fin Z x) Z s f q kk OO J M gs w t)(v:s.c=.wt p)(R:p≠.wa)(D:gs[A.b+A.n]?=some g)(S:Tq P A (.wt p) (kk (A.b+A.n)) (OO (A.b+A.n)) g)(sl:Option (Nat × Nat)):
 Goes P A Fin Z x s gs w t sl (A.b+A.n)\/FA P A s gs w sl (A.b+A.n) g:=by
 have G:dt P A Z s kk OO J M gs.size w t:=y.ex;have H:=G.I.Qy;rw[v]at H;obtain⟨c0,rest,E,hT⟩:=S;have m:=G.gr;have hn:=A.hn;have hb:=A.hb;have T:(A.b+A.n==0)=false:=by simp;omega
 have O:CallKind.normal≠CallKind.early:=by decide
 have nx:∀{p' g1},iw P A.ng A.gb .normal (lN A) p' (c0::rest) g1->∃n Q,kD P (lN A) n g1 Q/\Tq P A (.wt p') (kk (A.b+A.n)) (OO (A.b+A.n)) Q:=λ⟨_,Q,⟨n,hs⟩,hA⟩=>⟨n,Q,hs,c0,rest,hA,hT⟩
 have cell:∀wr,QF A.gb #[⟨.cell ⟨A.gb,0,none⟩,wr,true⟩]:=λwr e u=>by simp at u;subst u;exact .inl (.inr ⟨0,.inl rfl,rfl,rfl⟩)
 have hd:Deaf t (A.b+A.n)=vf p:=by obtain⟨_,_,U,_⟩:=y.walk _ (BN v);rw[U];show dc P A s (A.b+A.n)=_;rw[BO v]
 have z:s.c.waits=false->s.gv=0:=λh=>(G.I.calm h).1
 have K:∀l,l<A.n->(s.w l).cnt<=1:=λl _=>by
  cases e:s.w l with
  |dn p=>cases p<;>simp[bt.cnt]
  |_=>simp[bt.cnt]
 have a7:s.gc<=A.n+1:=by
  have h1:=G.I.g1;have h2:sumTo A.n (λj=>(s.w j).cnt)<=A.n:=oQ A.n K
  have h3:s.ms.pend<=1:=by cases s.ms<;>simp[pq.pend];split<;>omega
  omega
 cases p<;>simp only[jI.ok,Bool.false_eq_true]at H
 case w0=>obtain⟨g1,a,r⟩:=Vx (Wd:=lN A) (main:=false) (w:=w) C X E O;exact .inl (nf x y v .w0 hd D a m (bh rfl) (λe u=>by simp at u;subst u;exact .inl (.inl (.inl rfl))) rfl id (nx r) sl)
 case w1=>
  have L:=z (by rw[v];rfl)
  have d:=m;rw[L]at d;obtain⟨g1,a,r⟩:=Vy (Wd:=lN A) (main:=false) C X d (by omega) E
  rcases r with⟨V,r⟩|⟨V,r⟩
  . exact .inl (nf x y v (.Wy V) hd D a m (bh rfl) (cell false) rfl id (nx r) sl)
  . exact .inl (nf x y v (.w1 V) hd D a m (bh rfl) (cell false) rfl id (nx r) sl)
 case we=>
  obtain⟨g1,a,r⟩:=Vz (Wd:=lN A) (main:=false) (w:=w) C X (λw h=>h.1) E O
  exact .inl (nf x y v .we hd D a m (bh rfl) (λe u=>by simp at u;subst u;exact .inl (.inl (.inr rfl))) rfl id (nx r) sl)
 case wa=>exact absurd rfl R
 case w2 k=>
  have L:=z (by rw[v];rfl)
  have d:=m;rw[L]at d
  rcases VB (Wd:=lN A) (main:=false) C X (λw h=>h.2.1) d E with⟨F,g1,w',a,rfl,B,r⟩|⟨F,g1,a,r⟩
  . subst F
    exact .inl (nf x y v .Wz hd D a B (⟨⟨.refl _,rfl⟩,.inr ⟨0,_,.inl rfl,rfl,rfl⟩⟩) (λe u=>by simp at u;rcases u with rfl|rfl<;>exact .inl (.inr ⟨0,.inl rfl,rfl,rfl⟩)) rfl id (nx r) sl)
  . exact .inl (nf x y v (.VI k F) hd D a m (bh rfl) (cell false) rfl id (nx r) sl)
 case w3=>obtain⟨g1,a,r⟩:=VC (Wd:=lN A) (main:=false) (w:=w) C X E O;exact .inl (nf x y v .w3 hd D a m (bh rfl) (λe u=>by simp at u;subst u;exact .inr ⟨1,.inr rfl,.inr rfl⟩) rfl id (nx r) sl)
 case w4=>
  by_cases N:s.gm=0
  . right
    have d:=m;rw[N]at d;have a:=Tp (main:=false) C X d E;refine⟨.inr ⟨rfl,v,N⟩,?_⟩;have h:=runT_crowd_go (P:=P) (sl:=sl) (i:=A.b+A.n) D (by rw[T];exact a)
    have W:woken P g {g with status:=.blocked} w=id:=funext λo=>by unfold Go.Conc.woken;simp
    rw[W,Array.map_id]at h;exact h
  . left
    obtain⟨g1,w',a,rfl,B,r⟩:=VD (Wd:=lN A) (main:=false) C X m N E O
    exact nf x y v (.w4 N) hd D a B (⟨⟨.refl _,rfl⟩,.inr ⟨1,_,.inr rfl,rfl,rfl⟩⟩) (λe u=>by
     simp[semEvents]at u
     rcases u with rfl|rfl|rfl|rfl
     . exact .inl (.inl (.inl rfl))
     . exact .inl (.inr ⟨1,.inr rfl,rfl,rfl⟩)
     . exact .inl (.inr ⟨1,.inr rfl,rfl,rfl⟩)
     . exact .inl (.inl (.inr rfl))) rfl (λh=>absurd h N) (nx r) sl
 case w5=>
  obtain⟨Y,L,m0,_⟩:=G.I.g8 (by rw[v];rfl)
  have d:=m;rw[Y,L]at d;obtain⟨g1,a,r⟩:=VE (Wd:=lN A) (main:=false) C X d E;exact .inl (nf x y v .w5 hd D a m (bh rfl) (cell false) rfl id (nx r) sl)
end
section
variable{Z:Base}{kk:Nat->ah}{OO:Nat->ai}{J M:Nat->Prop}{w:World}{t:Trace}
theorem cA.TF(h:cA Z kk OO J M w t){i:Nat}{ad:Addr}(G:J i)(B:ad.block<w.heap.size)(hd:Deaf t i=0)(H:∀p,M p->t.heard p/\Z.N0<=p/\t.act? p=some (.mark (.releaseMerge ad)))
 (C:∀m a,Z.N0<=m->t.act? m≠some (.mark (.release a))) (fn:FuncId) (pos:String):
 cA Z kk OO J (λ_=>False) w (t++MemOp.ofEvents i fn pos #[⟨.mark (.acquire ad),false,true⟩]):=by
 obtain⟨u,F⟩:∃u,u=MemOp.ofEvents i fn pos #[⟨.mark (.acquire ad),false,true⟩]:=⟨_,rfl⟩;have d:u=#[⟨i,fn,pos,.mark (.acquire ad)⟩]:=by rw[F,ofEvents_eq];simp[MemAct.ofEvent]
 rw[<-F];have f:∀op∈u,op.act.touch?=none:=λop c=>by rw[d]at c;simp at c;subst c;rfl
 have r:∀op∈u,op.g=i:=λop c=>by rw[d]at c;simp at c;subst c;rfl
 have D:u[0]?=some ⟨i,fn,pos,.mark (.acquire ad)⟩:=by rw[d];rfl
 have l:lZ u:=λop c=>by rw[d]at c;simp at c;subst c;simp
 have z:∀k,Z.N0<=k->∀a,(t++u).act? k≠some (.mark (.release a)):=λk A a e=>by
  rcases uo e with⟨o,_⟩|⟨op,c,o⟩
  . exact C k a A o
  . rw[d]at c;simp at c;subst c;cases o
 exact h.tY (λa b=>a=b) rfl ⟨⟨.refl _,rfl⟩,λ_ _=>rfl⟩ (λb=>.inl rfl) (λop c=>by rw[d]at c;simp at c;subst c;simpa[MemAct.low]using B) (λa b e n y _ _ _ A=>by subst e;exact A.app u)
  (λj b n v h=>⟨j,rfl,h⟩) (λj b s h=>⟨j,rfl,h⟩) (λj b x h=>⟨j,rfl,h,λ_ h=>h⟩) h.ju
  (λsaid=>noRace_append (h.clean said) r λn a q op c b hb _=>by rw[f op c]at hb;cases hb) (λop c a q=>by rw[f op c]at q;cases q) (λm op a c q=>by rw[f op (Array.mem_of_getElem? c)]at q;cases q)
  (λn a q L h=>h.elim (λ⟨j,o,E⟩=>.inr (.inl ⟨j,o,E.app _⟩)) (λ⟨p,o,E⟩=>by obtain⟨I,N,K⟩:=H p o;exact .inr (.inl ⟨i,G,qP (y:=⟨i,fn,pos,.mark (.acquire ad)⟩) l D rfl hd K I (λk A=>z k (by omega) ad) E⟩)))
end
section
variable{P:Program}{A:eu}{Fin:ah->ai->Goroutine->Prop}{Z:Base}{s:MS P}{f:Nat->Node P}{q:Nat->Nat}{kk:Nat->ah}{OO:Nat->ai}{J M:Nat->Prop}{gs:Array Goroutine}{w w':World}{t u:Trace}{c:jI}{p:vN}{gv gm:Nat}{g g1:Goroutine}
theorem uw(e:s.c=.kF\/s.c=.eU):dH P A s (A.b+A.n):=.inr (.inr ⟨rfl,by rcases e with e|e<;>rw[e]<;>trivial⟩)
theorem Hb(e:s.c=.kF\/s.c=.eU):¬fE P A s (A.b+A.n):=by
 have:=A.hb;rintro(⟨e,_⟩|⟨l,d,f,a⟩|⟨_,a⟩)
 . omega
 . omega
 . rcases e with e|e<;>rw[e]at a<;>exact a
theorem Hc(e:s.c≠.eU):bP P A Fin s (A.b+A.n)=rL P A:=by
 have:=A.hb;unfold bP;rw[if_neg (by omega),if_neg (by omega)];cases h:s.c<;>first|rfl|exact absurd h e
theorem Hd(e:s.c=.eU):bP P A Fin s (A.b+A.n)=xH P A:=by have:=A.hb;unfold bP;rw[if_neg (by omega),if_neg (by omega),e]
theorem PJ{x:Node P}:Oz P A s (A.b+A.n) x:=λj h X a c _=>by omega
variable(C:jH P A.ng)(X:ll P A.ng)
include C X in
theorem OQ(u:A.b+A.n+1<=Z.lk)(E:bJ (cB P A Fin Z u) Z s f q kk OO J M gs w t)(d:s.c=.wt .wa)(U:gs[A.b+A.n]?=some g)(F:Tq P A (.wt .wa) (kk (A.b+A.n)) (OO (A.b+A.n)) g)(sl:Option (Nat × Nat)):
 Goes P A Fin Z u s gs w t sl (A.b+A.n):=by
 have j:dt P A Z s kk OO J M gs.size w t:=E.ex;have B:=bm (P:=P) (A:=A) (Fin:=Fin) (Z:=Z) u;obtain⟨c0,rest,hM,W⟩:=F;have hb:=A.hb;have G:(A.b+A.n==0)=false:=by simp;omega
 obtain⟨g1,H,Y,⟨k,v⟩⟩:=VA (Wd:=λ_=>True) (main:=false) (w:=w) C X hM (by decide)
 obtain⟨tr⟩:=T.tree (P:=P) (m:=rL P A) rfl (W _ (ah.Le.refl _));obtain⟨T,_⟩:=TT.pre v tr;have x:=runT_crowd_go (P:=P) (sl:=sl) (i:=A.b+A.n) U (by rw[G];exact H)
 have K:=BN (P:=P) (A:=A) d
 have hd:Deaf t (A.b+A.n)=0:=by obtain⟨_,_,L,_⟩:=E.walk _ K;rw[L];show dc P A s (A.b+A.n)=_;rw[BO d];rfl
 have hJ:J (A.b+A.n):=(j.hJ _).2 (.inr ⟨rfl,by rw[d];rfl⟩)
 have hG:A.gb<w.heap.size:=by obtain⟨c,e,N⟩:=j.yX;exact(Array.getElem?_eq_some_iff.1 N).1
 have hP:=E.cE.TF (i:=A.b+A.n) (ad:=⟨A.gb,0,none⟩) hJ hG hd (λp z=>by
  obtain⟨N,h2,r⟩:=j.hM p z
  rcases r with⟨r,_⟩|⟨r,_⟩
  . exact⟨N,h2,r⟩
  . rw[d]at r;cases r) j.norel g.frame.fn g.frame.place
 have D:∀op∈MemOp.ofEvents (A.b+A.n) g.frame.fn g.frame.place #[⟨.mark (.acquire ⟨A.gb,0,none⟩),false,true⟩],op.g=A.b+A.n:=λop o=>by obtain⟨e,_,rfl⟩:=Go.Conc.mem_ofEvents o;rfl
 have Q:dt P A Z (s.uv .kF s.gv s.gm) kk OO J (λ_=>False) gs.size w (t++MemOp.ofEvents (A.b+A.n) g.frame.fn g.frame.place #[⟨.mark (.acquire ⟨A.gb,0,none⟩),false,true⟩]):=
  j.TC (Lq (s:=s) (c:=.kF)) (λ_ _=>rfl) (by rw[d];rfl) (by rw[d];rfl) (λp z=>z.elim) (λe=>by rw[d]at e;cases e) (λ⟨p,z⟩=>z.elim) (λi=>by unfold fF;rw[d];rfl) (j.I.WG d .wa) rfl j.gr (bh rfl) (λop o=>by obtain⟨e,V,rfl⟩:=Go.Conc.mem_ofEvents o;simp at V;subst V;exact⟨λa ha=>by simp[MemAct.ofEvent,MemAct.touch?]at ha,λa h=>by simp[MemAct.ofEvent]at h⟩)
 have R:Beside (cB P A Fin Z u) s (s.uv .kF s.gv s.gm) f (bR f (A.b+A.n) ⟨rL P A,kk (A.b+A.n),OO (A.b+A.n),g1,T⟩) q q kk kk OO OO J J w (A.b+A.n) g g1:=xQ u Lq (λi hi=>az _ _ hi) (λ_ _=>rfl) (λ_ _ _=>rfl) (λ_ _ _=>rfl) (λ_ _ h=>h) (.inl ⟨id,id⟩) (λ{i k O y} S=>B.me (s:=s) (i:=i) (k:=k) (O:=O) (g:=y) S)
 refine⟨_,_,x,s.uv .kF s.gv s.gm,bR f (A.b+A.n) ⟨rL P A,kk (A.b+A.n),OO (A.b+A.n),g1,T⟩,q,kk,OO,J,(λ_=>False),_,_,_,rfl,Dz d .wa,?_⟩
 refine bJ.step B E U D hP Q (λl y hl S=>B.ub j hl _ _ S) R ⟨λ_=>?_,λh=>absurd h (Hb (.inl rfl)),λh=>absurd h s8,λh=>absurd (uw (.inl rfl)) h⟩
 rw[au];refine⟨by show A.b+A.n<A.b+A.n+1;omega,rfl,?_,rfl,rfl,Y,?_,.inr hJ,PJ⟩
 . show rL P A=bP P A Fin (s.uv .kF s.gv s.gm) (A.b+A.n)
   rw[Hc (by simp[MS.uv])]
 . rw[Deaf_own,hd];rfl
end
theorem uy {P:Program} {y:Sy} {s:jG} {fr:Frame} {x:FuncId × List SV} {f:FuncId} {cj:Array Value} {kind:CallKind} (a:FR y s fr) (h:bb s=some x):fr≠Frame.enter P f cj kind:=fun e=>by
 obtain⟨ops,i,rest,kk,o,as,b,d,g,j,k,c,l⟩:=dq (f:=x.1) (svs:=x.2) a h;have:fr.todo = .inRegion ops (i :: rest) :: kk:=by rw[c];rfl
 rw[e] at this;simp[Frame.enter] at this
theorem BP{fr a:Frame}{cs b:List Frame}(h:G fr cs=G a b):fr=a:=by have:=congrArg Goroutine.frame h;exact this
section
variable{P:Program}{A:eu}{Fin:ah->ai->Goroutine->Prop}{Z:Base}{s:MS P}{f:Nat->Node P}{q:Nat->Nat}{kk:Nat->ah}{OO:Nat->ai}{J M:Nat->Prop}{gs:Array Goroutine}{w w':World}{t u:Trace}{j:Nat}{c:jI}{p:vN}{gv gm:Nat}{g g1:Goroutine}
variable(C:jH P A.ng)(X:ll P A.ng)
include C in
theorem Lr{b:Nat}{kind a:CallKind}{cs:List Frame}{f:FuncId}{cj:Array Value}{n:Nat}{Wd:World->Prop}{d:Goroutine}(h:kD P Wd n (G (Frame.enter P f cj a) cs) d)(g:qT P A.ng b kind .w0 cs d):n≠0:=λe=>by subst e;obtain⟨c,y,fr,i,rfl,l,j,k,rfl⟩:=g;exact uy j (C.w0 b kind).1 (BP h).symm
include C in
theorem Ls{b:Nat}{kind a:CallKind}{cs:List Frame}{f:FuncId}{cj:Array Value}{n:Nat}{Wd:World->Prop}{d:Goroutine}(h:kD P Wd n (G (Frame.enter P f cj a) cs) d)(g:qT P A.ng b kind .a0 cs d):n≠0:=λe=>by subst e;obtain⟨c,y,fr,i,rfl,l,j,k,rfl⟩:=g;exact uy j (C.a0 b kind).1 (BP h).symm
include C in
theorem Lt{b:Nat}{kind a:CallKind}{cs:List Frame}{f:FuncId}{cj:Array Value}{n:Nat}{Wd:World->Prop}{d:Goroutine}(h:kD P Wd n (G (Frame.enter P f cj a) cs) d)(g:qT P A.ng b kind .d1 cs d):n≠0:=λe=>by subst e;obtain⟨c,y,fr,i,rfl,l,j,k,rfl⟩:=g;exact uy j (C.d1 b).1 (BP h).symm
include C X in
theorem Iq(d:A.b+A.n+1<=Z.lk)(h:bJ (cB P A Fin Z d) Z s f q kk OO J M gs w t)(r:s.c=.eU){k:ah}{O:ai}{N:ah->ai->Goroutine->Prop}(i:k=kk (A.b+A.n))(j:O=OO (A.b+A.n))(y:gs[A.b+A.n]?=some g)(z:(xH P A).dC k O g N)(sl:Option (Nat × Nat)):
 Goes P A Fin Z d s gs w t sl (A.b+A.n):=by
 have u:dt P A Z s kk OO J M gs.size w t:=h.ex;obtain⟨_,_,_,_,_,_,l,_⟩:=h.live _ (uw (.inr r));obtain⟨rfl,v,rest,rfl,B⟩:=z;subst i j;obtain⟨D,⟨n,a⟩,x⟩:=xC (P:=P) (n:=A.ng) (b:=A.gb) (kind:=.normal) (cs:=v::rest) (Wd:=lN A) X C;cases n with
 |zero=>exact absurd rfl (Lr C a x)
 |succ n=>obtain⟨g1,⟨E,m⟩,o⟩:=a;have p:lN A w:=(bm (P:=P) (A:=A) (Fin:=Fin) (Z:=Z) d).wd u;exact nf d h r .call l y (m false w p) u.gr (bh rfl) (λe F=>by simp at F) rfl id ⟨n,D,o,v,rest,x,B⟩ sl
theorem xS(a:j<A.n)(e:s.w j=.Ah):dH P A s (A.b+j):=.inr (.inl ⟨j,a,rfl,by rw[e];trivial⟩)
theorem Ai(c:j<A.n)(e:s.w j=.Ah):¬eM P A s (A.b+j):=by
 have:=A.hb;rintro(⟨e,_⟩|⟨l,d,f,a⟩)
 . omega
 . obtain rfl:l=j:=by omega
   rw[e]at a;cases a
theorem Lm(a:j<A.n){x:bt P}{sh:Mu.Sh}(h:x.ik=(s.w j).ik):eX A s (s.aO j x sh) (A.b+j):=⟨λl _ c=>bu (by omega),λ_=>rfl,λ_=>rfl,rfl,λl _=>by
 by_cases e:l=j
 . subst e;rw[aN,h]
 . rw[bu e]⟩
include C X in
theorem Ir(u:A.b+A.n+1<=Z.lk)(v:bJ (cB P A Fin Z u) Z s f q kk OO J M gs w t)(a:j<A.n)(d:s.w j=.Ah){k:ah}{O:ai}{N:ah->ai->Goroutine->Prop}(K:gs[A.b+j]?=some g)(L:(qH P A).dC k O g N)(sl:Option (Nat × Nat)):
 Goes P A Fin Z u s gs w t sl (A.b+j):=by
 have p:dt P A Z s kk OO J M gs.size w t:=v.ex;have hb:=A.hb;obtain⟨_,_,_,_,_,_,y,_⟩:=v.live _ (xS a d);obtain⟨rfl,G,fn,tmps,todo,z,r,rfl⟩:=L;have B:(A.b+j==0)=false:=by simp;omega
 obtain⟨Q,⟨n,o⟩,H⟩:=xD (P:=P) (n:=A.ng) (b:=A.gb) (kind:=.deferred) (cs:=[kX P G tmps todo,di P]) (Wd:=lN A) X (λw h=>h.1) C
 cases n with
 |zero=>exact absurd rfl (Lt C o H)
 | succ n=>
   obtain⟨g1,⟨R,D⟩,E⟩:=o;have F:lN A w:=(bm (P:=P) (A:=A) (Fin:=Fin) (Z:=Z) u).wd p;obtain⟨x,m⟩:∃x:bt P,x=.dn .d1:=⟨_,rfl⟩;have c:(s.aO j x s.sh).w j=.dn .d1:=by rw[aN,m]
   have S:bT A.n (s.aO j x s.sh):=p.I.BJ a (by rw[d];rfl) (by rw[m];rfl) (by rw[m,d];rfl) (by rw[m];rfl) (by rw[m,d];rfl)
   have T:MS.gM A.n (s.aO j x s.sh) s:=xP a (by rw[m,d];simp[bt.cS])
   have hJ:J (A.b+j):=(p.hJ _).2 (.inl ⟨j,a,rfl,by rw[d];rfl⟩)
   refine BL (s':=s.aO j x s.sh) (f':=f) (q':=upd q (A.b+j) n) (es:=#[]) u v (iz p.I a (by rw[d];rfl)) (Ai a d) K (by rw[B];exact D false w F) (Lm a (by rw[m,d];rfl)) (λl _=>?_) rfl rfl id (mi a (by rw[m,d];rfl)) S rfl p.gr (bh rfl) (.inl fL) T (.inl (.inr hJ)) (.inl id) (λ_ _=>rfl) (λi U=>upd_ne q n U) ?_ sl
   . by_cases e:l=j
     . subst e;rw[aN,m,d];rfl
     . rw[bu e]
   . refine⟨λV=>absurd V (kI a c),λ_=>⟨kI a c,?_,?_,Q,?_,?_⟩,λW=>absurd W (pX a c),λ_ Y _=>absurd (mT a c) Y⟩
     . show A.b+j<A.b+A.n+1;omega
     . rw[Deaf_own,y]
       show _=dc P A (s.aO j x s.sh) (A.b+j);rw[eP a,c];rfl
     . refine .inr (.inl ⟨j,a,rfl,?_⟩)
       rw[c];exact⟨G,fn,tmps,todo,z,r,H⟩
     . exact .inr (by rw[upd_same];exact E)
end
section
variable{P:Program}
def MS.s9(s:MS P)(ms:pq)(gc:Nat):MS P:={s with ms:=ms,gc:=gc}
inductive DC(s:MS P):pq->pq->Nat->Prop
 |call (j:Nat):1<=j->DC s (.add j) (.bD j .a0) s.gc
 |a0 (j:Nat):DC s (.bD j .a0) (.bD j .a2) s.gc
 |a2 (j:Nat) (p:vN):p=.a4\/p=.ae->DC s (.bD j .a2) (.bD j p) (s.gc+1)
 |a4 (j:Nat):DC s (.bD j .a4) (.bD j .ae) s.gc
 |ae (j:Nat):DC s (.bD j .ae) (.spawn (j-1)) s.gc
theorem bT.X1{n:Nat}{s:MS P}(I:bT n s){m0 m1:pq}{gc:Nat}(f:s.ms=m0)(h:DC s m0 m1 gc):bT n (s.s9 m1 gc)/\s.c=.none:=by
 have a:=I.ms;rw[f]at a;have d:s.c=.none:=by cases h<;>first|exact a.2|exact a.2.1
 obtain⟨k,i,g⟩:=I.calm (by rw[d];rfl);refine⟨⟨?_,I.g2,I.tE,λj b h=>?_,I.zw,λj b h=>?_,⟨I.g5.1,λh=>(by have h:s.gm=1:=h;omega)⟩,I.g6,λh=>(by have h:s.gv=1:=h;omega),λh=>?_,I.g9,I.ok,I.Qy,I.sp,I.idle,?_,I.early,I.mu⟩,d⟩
 . have:=I.g1
   rw[f]at this;show gc=sumTo n (λj=>(s.w j).cnt)+m1.pend;cases h with
   |a2 j p e=>rcases e with rfl|rfl<;>simp_all [pq.pend]
   |_=>simp_all [pq.pend]
 . have h:s.w j=.dn .d5\/s.w j=.dn .d6:=h
   have:=g j b;rcases h with h|h<;>rw[h]at this<;>cases this
 . have h:s.w j=.dn .d7:=h
   have:=g j b;rw[h]at this;cases this
 . have h:s.c.Lb=true:=h
   rw[d]at h;cases h
 . cases h with
   |call j b=>exact⟨a.1,a.2,b,.inl rfl⟩
   |a0 j=>exact⟨a.1,a.2.1,a.2.2.1,.inr (.inl rfl)⟩
   |a2 j p e=>exact⟨a.1,a.2.1,a.2.2.1,.inr (.inr e)⟩
   |a4 j=>exact⟨a.1,a.2.1,a.2.2.1,.inr (.inr (.inr rfl))⟩
   |ae j=>exact⟨by have l:=a.1;have m:=a.2.2.1;show s.sp+(j-1)+1=n;omega,a.2.1⟩
theorem Lu{n:Nat}{s:MS P}{m0 m1:pq}{gc:Nat}(a:s.c=.none)(b:∀j p,m0=.bD j p->1<=j)(d:s.ms=m0)(h:DC s m0 m1 gc):MS.gM n (s.s9 m1 gc) s:=by
 refine .inl ?_;show m1.cS+sumTo n (λi=>(s.w i).cS)+s.c.cS gc<s.ms.cS+sumTo n (λi=>(s.w i).cS)+s.c.cS s.gc;rw[d,a];have e:∀x,jI.cS x .none=0:=λ_=>rfl
 rw[e,e]
 have:m1.cS<m0.cS:=by
  cases h with
  |a2 j p f=>rcases f with rfl|rfl<;>simp[pq.cS]
  |ae j=>have:=b j .ae rfl;simp only[pq.cS];omega
  |_=>simp[pq.cS]
 omega
end
section
variable{P:Program}{A:eu}{Fin:ah->ai->Goroutine->Prop}{Z:Base}{s:MS P}{f f':Nat->Node P}{q q':Nat->Nat}{kk:Nat->ah}{OO:Nat->ai}{J M:Nat->Prop}{gs:Array Goroutine}{w w':World}{t u:Trace}{j:Nat}{c:jI}{p:vN}{gc:Nat}{g g1:Goroutine}{m0 m1:pq}
theorem FE(e:s.ms=.bD j p):fE P A s 0:=.inl ⟨rfl,by rw[e];trivial⟩
theorem He(e:s.ms=.bD j p):¬dH P A s 0:=by
 have:=A.hb;rintro(⟨_,a⟩|⟨l,b,c,a⟩|⟨a,_⟩)
 . rw[e]at a;exact a
 . omega
 . omega
theorem mV(e:s.ms≠.parked):¬eM P A s 0:=by
 have:=A.hb;rintro(⟨_,a⟩|⟨l,b,c,a⟩)
 . exact e a
 . omega
theorem Hf(e:s.ms=.bD j p):dc P A s 0=vf p:=by unfold dc;rw[if_pos rfl,e]
theorem TG:eX A s (s.s9 m1 gc) 0:=⟨λ_ _ _=>rfl,λ_=>rfl,λh=>absurd rfl h,rfl,λ_ _=>rfl⟩
theorem uz(o:A.b+A.n+1<=Z.lk)(O:bJ (cB P A Fin Z o) Z s f q kk OO J M gs w t)(v:s.ms=m0)(y:DC s m0 m1 gc){d:Nat}(hd:Deaf t 0=d)(T:gs[0]?=some g){es:Array Event}(z:stepG P true g w=.go g1 w' es)
 (B:qS A.gb w' gc s.gv s.gm) (C:MW A.gb 0 w w') (D:QF A.gb es)
 (U:(∃j p n x,m1=.bD j p/\deafBehind d es=vf p/\kD P (lN A) n g1 x/\Uu P A Fin (.bD j p) (kk 0) (OO 0) x)\/
   (∃j,m1=.spawn j/\deafBehind d es=0/\g1.status=.running/\∃Q:TT P (G3 P A Fin j) (kk 0) (OO 0) g1,True)) (sl:Option (Nat × Nat)):Goes P A Fin Z o s gs w t sl 0:=by
 have R:dt P A Z s kk OO J M gs.size w t:=O.ex;have hb:=A.hb;have V:((0:Nat)==0)=true:=rfl;obtain⟨W,S⟩:=R.I.X1 v y;have E:s.c.isNone=true:=by rw[S];rfl
 have Y:MS.gM A.n (s.s9 m1 gc) s:=Lu S (λj p e=>by have:=R.I.ms;rw[v,e]at this;exact this.2.2.1) v y
 have F:s.ms≠.parked:=by rw[v];cases y<;>simp
 have r:∀fn pos,Deaf (t++MemOp.ofEvents 0 fn pos es) 0=deafBehind d es:=λfn pos=>by rw[Deaf_own,hd]
 have go:∀(f':Nat->Node P) (q':Nat->Nat),(∀i,i≠0->f' i=f i)->(∀i,i≠0->q' i=q i)->Self P (cB P A Fin Z o) (s.s9 m1 gc) f' q' kk OO J (t++MemOp.ofEvents 0 g.frame.fn g.frame.place es) 0 g1->Goes P A Fin Z o s gs w t sl 0:=λf' q' hf hq k=>BL (s':=s.s9 m1 gc) o O (.inl rfl) (mV F) T z TG (λ_ _=>rfl) rfl rfl id (λi=>Iff.rfl) W rfl B C (.inr ⟨D,by rw[E];rfl⟩) Y (.inl (.inl rfl)) (.inl id) hf hq k sl
 rcases U with⟨j,p,n,x,rfl,m,u,G⟩|⟨j,rfl,m,hr,Q,_⟩
 . have a:(s.s9 (.bD j p) gc).ms=.bD j p:=rfl
   refine go f (upd q 0 n) (λ_ _=>rfl) (λi H=>upd_ne q n H) ⟨λhl=>absurd hl (He a),λ_=>⟨He a,?_,?_,x,?_,?_⟩,λhh=>absurd hh (mV (by simp[MS.s9])),λ_ E _=>absurd (FE a) E⟩
   . show 0<A.b+A.n+1;omega
   . rw[r,m]
     show _=dc P A (s.s9 (.bD j p) gc) 0;rw[Hf a]
   . exact .inl ⟨rfl,G⟩
   . exact .inr (by rw[upd_same];exact u)
 . have K:dH P A (s.s9 (.spawn j) gc) 0:=.inl ⟨rfl,trivial⟩
   have L:¬fE P A (s.s9 (.spawn j) gc) 0:=by
    rintro(⟨_,N⟩|⟨l,h1,h2,N⟩|⟨N,_⟩)
    . exact N
    . omega
    . omega
   refine go (bR f 0 ⟨G3 P A Fin j,kk 0,OO 0,g1,Q⟩) q (λi H=>az _ _ H) (λ_ _=>rfl) ⟨λ_=>?_,λh=>absurd h L,λh=>absurd h (mV (by simp[MS.s9])),λh=>absurd K h⟩
   rw[au];refine⟨by show 0<A.b+A.n+1;omega,rfl,?_,rfl,rfl,hr,by rw[r,m],.inl rfl,λl h X h1 h2 _=>by omega⟩
   show G3 P A Fin j=bP P A Fin (s.s9 (.spawn j) gc) 0;unfold bP;rw[if_pos rfl];rfl
variable(C:jH P A.ng)(X:ll P A.ng)
include C X in
theorem DD(z:A.b+A.n+1<=Z.lk)(B:bJ (cB P A Fin Z z) Z s f q kk OO J M gs w t)(o:s.ms=.bD j p)(D:gs[0]?=some g)(N:Uu P A Fin (.bD j p) (kk 0) (OO 0) g)(sl:Option (Nat × Nat)):Goes P A Fin Z z s gs w t sl 0:=by
 have K:dt P A Z s kk OO J M gs.size w t:=B.ex;have E:=K.I.ms;rw[o]at E;obtain⟨_,W,Y,hp⟩:=E;obtain⟨O,a7,hl⟩:=K.I.calm (by rw[W];rfl)
 obtain⟨S,rest,L,U⟩:=N;have i:=K.gr;have hn:=A.hn;have Q:CallKind.normal≠CallKind.early:=by decide
 have nx:∀{V g1},iw P A.ng A.gb .normal (lN A) V (S::rest) g1->∃n c,kD P (lN A) n g1 c/\Uu P A Fin (.bD j V) (kk 0) (OO 0) c:=λ⟨_,c,⟨n,hs⟩,hA⟩=>⟨n,c,hs,S,rest,hA,U⟩
 have hd:Deaf t 0=vf p:=by obtain⟨_,_,R,_⟩:=B.walk _ (FE o);rw[R];show dc P A s 0=_;rw[Hf o]
 have F:∀l,l<A.n->(s.w l).cnt<=1:=λl _=>by
  cases e:s.w l with
  |dn p=>cases p<;>simp[bt.cnt]
  |_=>simp[bt.cnt]
 have a8:s.gc<=A.n+1:=by
  have r:=K.I.g1;have u:sumTo A.n (λj=>(s.w j).cnt)<=A.n:=oQ A.n F
  have h3:s.ms.pend<=1:=by cases s.ms<;>simp[pq.pend];split<;>omega
  omega
 rcases hp with rfl|rfl|rfl|rfl
 . obtain⟨g1,a,hN⟩:=Vm (Wd:=lN A) (main:=true) (w:=w) C X L Q
   obtain⟨n,c,r,u⟩:=nx hN;exact uz z B o (.a0 j) hd D a i (bh rfl) (λe d=>by simp at d;subst d;exact .inl (.inl (.inl rfl))) (.inl ⟨j,_,n,c,rfl,rfl,r,u⟩) sl
 . have x:=i
   rw[O]at x;obtain⟨g1,w',a,rfl,y,hN⟩:=Vn (Wd:=lN A) (main:=true) (v:=0) C X (λw h=>h.2.1) x (by omega) L
   have G:QF A.gb #[⟨.cell ⟨A.gb,0,none⟩,false,true⟩,⟨.cell ⟨A.gb,0,none⟩,true,true⟩]:=λe d=>by simp at d;rcases d with rfl|rfl<;>exact .inl (.inr ⟨0,.inl rfl,rfl,rfl⟩)
   rcases hN with hN|hN
   . obtain⟨n,c,r,u⟩:=nx hN
     exact uz z B o (.a2 j _ (.inl rfl)) hd D a (by rw[O];exact y) (⟨⟨.refl _,rfl⟩,.inr ⟨0,_,.inl rfl,rfl,rfl⟩⟩) G (.inl ⟨j,_,n,c,rfl,rfl,r,u⟩) sl
   . obtain⟨n,c,r,u⟩:=nx hN
     exact uz z B o (.a2 j _ (.inr rfl)) hd D a (by rw[O];exact y) (⟨⟨.refl _,rfl⟩,.inr ⟨0,_,.inl rfl,rfl,rfl⟩⟩) G (.inl ⟨j,_,n,c,rfl,rfl,r,u⟩) sl
 . obtain⟨g1,a,hN⟩:=Vo (Wd:=lN A) (main:=true) (w:=w) C X L Q
   obtain⟨n,c,r,u⟩:=nx hN;exact uz z B o (.a4 j) hd D a i (bh rfl) (λe d=>by simp at d;subst d;exact .inr ⟨1,.inr rfl,.inl rfl⟩) (.inl ⟨j,_,n,c,rfl,rfl,r,u⟩) sl
 . obtain⟨g1,a,hr,⟨k,H⟩⟩:=Vp (Wd:=λ_=>True) (main:=true) (w:=w) C X L Q
   obtain⟨tr⟩:=T.tree (P:=P) (m:=G3 P A Fin (j-1)) rfl U;obtain⟨T,_⟩:=TT.pre H tr;exact uz z B o (.ae j) hd D a i (bh rfl) (λe d=>by simp at d;subst d;exact .inl (.inl (.inr rfl))) (.inr ⟨j-1,rfl,rfl,hr,T,trivial⟩) sl
include C X in
theorem Lv(c:A.b+A.n+1<=Z.lk)(d:bJ (cB P A Fin Z c) Z s f q kk OO J M gs w t)(r:s.ms=.add (j+1)){k:ah}{O:ai}{N:ah->ai->Goroutine->Prop}(h:k=kk 0)(i:O=OO 0)(y:gs[0]?=some g)(z:(Ag P A Fin (j+1)).dC k O g N)(sl:Option (Nat × Nat)):
 Goes P A Fin Z c s gs w t sl 0:=by
 have u:dt P A Z s kk OO J M gs.size w t:=d.ex;obtain⟨_,_,_,_,_,_,l,_⟩:=d.live 0 (.inl ⟨rfl,by rw[r];trivial⟩);obtain⟨rfl,v,rest,rfl,B⟩:=z;subst h i;obtain⟨D,⟨n,a⟩,x⟩:=yV (P:=P) (n:=A.ng) (b:=A.gb) (kind:=.normal) (cs:=v::rest) (Wd:=lN A) X;cases n with
 |zero=>exact absurd rfl (Ls C a x)
 |succ n=>obtain⟨g1,⟨E,m⟩,o⟩:=a;have p:lN A w:=(bm (P:=P) (A:=A) (Fin:=Fin) (Z:=Z) c).wd u;exact uz c d r (.call (j+1) (by omega)) l y (m true w p) u.gr (bh rfl) (λe F=>by simp at F) (.inl ⟨j+1,.a0,n,D,rfl,rfl,o,v,rest,x,B⟩) sl
end
end Go.bd
