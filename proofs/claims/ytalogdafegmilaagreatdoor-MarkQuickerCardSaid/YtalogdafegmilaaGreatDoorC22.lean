/- Part 22 of the proof. -/
import Derived.Test.YtalogdafegmilaaGreatDoorC21
set_option linter.all false
namespace Go.aN
open Go.Conc
open Go.ConcN (sumTo upd sumTo_upd upd_ne upd_same)
variable{P:Program}
def MS.gF(s:MS P)(j:Nat)(x:be P)(gc gv gm:Nat):MS P:={s with w:=λi=>if i=j then x else s.w i,gc:=gc,gv:=gv,gm:=gm}
section
variable{s:MS P}{j n:Nat}{x:be P}{gc gv gm:Nat}
theorem bt:(s.gF j x gc gv gm).w j=x:=by simp[MS.gF]
theorem dh{i:Nat}(h:i≠j):(s.gF j x gc gv gm).w i=s.w i:=by simp[MS.gF,h]
theorem Kn:(λi=>((s.gF j x gc gv gm).w i).pc)=Mu.set (λi=>(s.w i).pc) j x.pc:=by
 funext i;by_cases h:i=j
 . subst h;rw[bt,Mu.ao]
 . rw[dh h,Mu.ai _ _ h]
theorem AQ(F:be P->Nat)(hj:j<n):sumTo n (λi=>F ((s.gF j x gc gv gm).w i))+F (s.w j)=sumTo n (λi=>F (s.w i))+F x:=by
 have e:(λi=>F ((s.gF j x gc gv gm).w i))=upd (λi=>F (s.w i)) j (F x):=by
  funext i;by_cases h:i=j
  . subst h;rw[bt,upd_same]
  . rw[dh h,upd_ne _ _ h]
 rw[e];have:=sumTo_upd (λi=>F (s.w i)) (F x) id hj;simpa using this
theorem bD.Oq(I:bD n s)(hj:j<n){p:t9}(hw:s.w j=.dn p)(hxok:x.ok=true)(hxi:x.iW=false)(hxw:x≠.wait)(hxp:x.pc=.out)
 (h1:gc+(s.w j).cnt=s.gc+x.cnt) (h2:gv<=1) (h2':gv=1->s.c.waits=true/\gm=0)
 (h3:∀i,i<n->((s.gF j x gc gv gm).w i=.dn .d5\/(s.gF j x gc gv gm).w i=.dn .d6)->gv=1/\gc=0)
 (h3':∀i l,i<n->l<n->((s.gF j x gc gv gm).w i).last=true->((s.gF j x gc gv gm).w l).last=true->i=l)
 (h4:∀i,i<n->(s.gF j x gc gv gm).w i=.dn .d7->gv=0/\gc=0/\gm=0/\s.c.waits=true)
 (h5:gm<=1/\(gm=1->s.c.waits=true/\gv=0/\gc=0/\∀i,i<n->((s.gF j x gc gv gm).w i).last=false))
 (h6:s.c.waits=true->gv=0->gm=0->∃i,i<n/\(s.gF j x gc gv gm).w i=.dn .d7)
 (h7:gv=1->gc=0->∃i,i<n/\((s.gF j x gc gv gm).w i=.dn .d5\/(s.gF j x gc gv gm).w i=.dn .d6)):bD n (s.gF j x gc gv gm):=by
 refine⟨?_,h2,h2',h3,h3',h4,h5,h6,h7,λh=>?_,I.g9,λi hi=>?_,I.L3,I.sp,λi hi=>?_,?_,λh i hi=>?_,?_⟩
 . have hcnt:=AQ (s:=s) (x:=x) (gc:=gc) (gv:=gv) (gm:=gm) be.cnt hj
   have:=I.g1;show gc=sumTo n (λi=>((s.gF j x gc gv gm).w i).cnt)+s.ms.pend;omega
 . have:=(I.g8 h).2.2.2 j hj
   rw[hw]at this;cases this
 . by_cases e:i=j
   . subst e;rw[bt];exact hxok
   . rw[dh e];exact I.ok i hi
 . by_cases e:i=j
   . subst e
     rw[bt,hxi];have:=I.idle i hi;rw[hw]at this;exact this
   . rw[dh e];exact I.idle i hi
 . have:=I.ms
   show match s.ms with
   |.add l=>s.sp+l=n/\s.c=.none
   |.bj l p=>s.sp+l=n/\s.c=.none/\1<=l/\(p=.a0\/p=.a2\/p=.a4\/p=.ae)
   |.spawn l=>s.sp+l+1=n/\s.c=.none
   |.recv=>s.sp=n/\s.c≠.none
   |.parked=>s.sp=n/\s.c≠.none/\s.c≠.gone/\∀i,i<n->(s.gF j x gc gv gm).w i≠.wait
   cases e:s.ms with
   | parked=>
     rw[e]at this;obtain⟨c1,c2,c3,c4⟩:=this;refine⟨c1,c2,c3,λi hi=>?_⟩;by_cases e:i=j
     . subst e;rw[bt];exact hxw
     . rw[dh e];exact c4 i hi
   |_=>rw[e]at this;exact this
 . have:=I.early h j hj
   rw[hw]at this;cases this
 . rw[Kn,hxp]
   have e:=kW (λi=>(s.w i).pc) j;rw[show(s.w j).pc=.out by rw[hw];rfl]at e;rw[e];exact I.mu
inductive yU(s:MS P):t9->be P->Nat->Nat->Nat->Prop
 |P4:s.gc=1->s.gv=1->yU s .d4 (.dn .d5) 0 1 s.gm
 |d4 (k:Nat):s.gc=k+1 -> ¬(k=0/\s.gv=1)->yU s .d4 .gone k s.gv s.gm
 |d5:yU s .d5 (.dn .d6) s.gc s.gv s.gm
 |d6:yU s .d6 (.dn .d7) s.gc 0 s.gm
 |d7:yU s .d7 .gone s.gc s.gv (s.gm+1)
theorem bD.done(I:bD n s)(hj:j<n){p:t9}(hw:s.w j=.dn p)(h:yU s p x gc gv gm):bD n (s.gF j x gc gv gm):=by
 have Hz:∀{i:Nat},(s.w i).last=true->s.w i=.dn .d5\/s.w i=.dn .d6\/s.w i=.dn .d7:=λ{i} h=>by
  cases e:s.w i with
  |dn p=>cases p<;>simp_all [be.last]
  |_=>rw[e]at h;simp[be.last]at h
 have lastC:∀{i:Nat},i<n->(s.w i).last=true->s.gc=0:=λ{i} hi h=>by
  rcases Hz h with h|h|h
  . exact(I.g3 i hi (.inl h)).2
  . exact(I.g3 i hi (.inr h)).2
  . exact(I.g4 i hi h).2.1
 cases h with
 | P4 h1 h2=>
   refine I.Oq hj hw rfl rfl (by simp) rfl (by rw[hw,h1];rfl) (by omega) (λ_=>I.ns h2) (λi hi h=>⟨rfl,rfl⟩) (λi l hi hl h h'=>?_) (λi hi h=>?_) ⟨I.g5.1,λh=>?_⟩ (λ_ h=>by omega) (λ_ _=>⟨j,hj,.inl bt⟩)
   . by_cases e:i=j
     . by_cases e':l=j
       . rw[e,e']
       . rw[dh e']at h';have:=lastC hl h';omega
     . rw[dh e]at h;have:=lastC hi h;omega
   . by_cases e:i=j
     . subst e;rw[bt]at h;cases h
     . rw[dh e]at h;have:=(I.g4 i hi h).2.1;omega
   . have:=(I.g5.2 h).2.1;omega
 | d4 k h1 h2=>
   refine I.Oq hj hw rfl rfl (by simp) rfl (by rw[hw,h1];rfl) I.g2 I.ns (λi hi h=>?_) (λi l hi hl h h'=>?_) (λi hi h=>?_) ⟨I.g5.1,λh=>?_⟩ (λh h' h''=>?_) (λh h'=>absurd ⟨h',h⟩ h2)
   . by_cases e:i=j
     . subst e;rw[bt]at h;rcases h with h|h<;>cases h
     . rw[dh e]at h;have:=(I.g3 i hi h).2;omega
   . by_cases e:i=j
     . subst e;rw[bt]at h;cases h
     . rw[dh e]at h;have:=lastC hi h;omega
   . by_cases e:i=j
     . subst e;rw[bt]at h;cases h
     . rw[dh e]at h;have:=(I.g4 i hi h).2.1;omega
   . have:=(I.g5.2 h).2.2.1;omega
   . obtain⟨i,hi,h3⟩:=I.g6 h h' h''
     have:=(I.g4 i hi h3).2.1;omega
 | d5=>
   obtain⟨v1,c0⟩:=I.g3 j hj (.inl hw);obtain⟨hwt,m0⟩:=I.ns v1
   have lastI:∀{i:Nat},((s.gF j (.dn .d6) s.gc s.gv s.gm).w i).last=(s.w i).last:=λ{i}=>by
    by_cases e:i=j
    . subst e;rw[bt,hw];rfl
    . rw[dh e]
   refine I.Oq hj hw rfl rfl (by simp) rfl (by rw[hw];rfl) I.g2 I.ns (λi hi h=>⟨v1,c0⟩) (λi l hi hl h h'=>?_) (λi hi h=>?_) ⟨I.g5.1,λh=>?_⟩ (λh h'=>by omega) (λ_ _=>⟨j,hj,.inr bt⟩)
   . rw[lastI]at h h';exact I.tE i l hi hl h h'
   . by_cases e:i=j
     . subst e;rw[bt]at h;cases h
     . rw[dh e]at h;exact I.g4 i hi h
   . omega
 | d6=>
   obtain⟨v1,c0⟩:=I.g3 j hj (.inr hw);obtain⟨hwt,m0⟩:=I.ns v1;have hl:(s.w j).last=true:=by rw[hw];rfl
   have lastI:∀{i:Nat},((s.gF j (.dn .d7) s.gc 0 s.gm).w i).last=(s.w i).last:=λ{i}=>by
    by_cases e:i=j
    . subst e;rw[bt,hw];rfl
    . rw[dh e]
   refine I.Oq hj hw rfl rfl (by simp) rfl (by rw[hw];rfl) (by omega) (λh=>by omega) (λi hi h=>?_) (λi l hi hl h h'=>?_) (λi hi h=>⟨rfl,c0,m0,hwt⟩) ⟨I.g5.1,λh=>by omega⟩ (λ_ _ _=>⟨j,hj,bt⟩) (λh=>by omega)
   . by_cases e:i=j
     . subst e;rw[bt]at h;rcases h with h|h<;>cases h
     . rw[dh e]at h
       have hli:(s.w i).last=true:=by rcases h with h|h<;>rw[h]<;>rfl
       exact absurd (I.tE i j hi hj hli hl) e
   . rw[lastI]at h h';exact I.tE i l hi hl h h'
 | d7=>
   obtain⟨v0,c0,m0,hwt⟩:=I.g4 j hj hw;have hl:(s.w j).last=true:=by rw[hw];rfl
   have lastN:∀{i:Nat},i<n->((s.gF j .gone s.gc s.gv (s.gm+1)).w i).last=false:=λ{i} hi=>by
    by_cases e:i=j
    . subst e;rw[bt];rfl
    . rw[dh e]
      cases e':(s.w i).last with
      |false=>rfl
      |true=>exact absurd (I.tE i j hi hj e' hl) e
   refine I.Oq hj hw rfl rfl (by simp) rfl (by rw[hw];rfl) I.g2 (λh=>by omega) (λi hi h=>?_) (λi l hi hl h h'=>?_) (λi hi h=>?_) ⟨by omega,λh=>⟨hwt,v0,c0,λi hi=>lastN hi⟩⟩ (λ_ _ h=>by omega) (λh=>by omega)
   . have:=lastN hi
     rcases h with h|h<;>rw[h]at this<;>cases this
   . rw[lastN hi]at h;cases h
   . have:=lastN hi
     rw[h]at this;cases this
theorem jh.Mc(c:jh)(a b:Nat):c.cz a<=c.cz b+2:=by
 cases c with
 | wt p=>
   cases p with
   |w2 k=>simp only[jh.cz];split<;>split<;>omega
   |_=>simp[jh.cz]
 |_=>simp[jh.cz]
theorem EW(hj:j<n){p:t9}(hw:s.w j=.dn p)(h:yU s p x gc gv gm):MS.fX n (s.gF j x gc gv gm) s:=by
 have hs:=AQ (s:=s) (x:=x) (gc:=gc) (gv:=gv) (gm:=gm) be.cz hj;refine .inl ?_;show s.ms.cz+sumTo n (λi=>((s.gF j x gc gv gm).w i).cz)+s.c.cz gc<s.ms.cz+sumTo n (λi=>(s.w i).cz)+s.c.cz s.gc;rw[hw]at hs;have:=jh.Mc s.c gc s.gc;cases h with
 |P4 h1 h2=>have e1:(be.dn (P:=P) .d4).cz=10:=rfl;have e2:(be.dn (P:=P) .d5).cz=4:=rfl;omega
 |d4 k h1 h2=>have e1:(be.dn (P:=P) .d4).cz=10:=rfl;have e2:(be.gone (P:=P)).cz=0:=rfl;omega
 |d5=>have e1:(be.dn (P:=P) .d5).cz=4:=rfl;have e2:(be.dn (P:=P) .d6).cz=3:=rfl;omega
 |d6=>have e1:(be.dn (P:=P) .d6).cz=3:=rfl;have e2:(be.dn (P:=P) .d7).cz=2:=rfl;omega
 |d7=>have e1:(be.dn (P:=P) .d7).cz=2:=rfl;have e2:(be.gone (P:=P)).cz=0:=rfl;omega
end
end Go.aN
namespace Go.aN
open Go.Conc
open Go.ConcN (sumTo upd sumTo_upd upd_ne upd_same)
theorem vu{e:Event}(h:MemAct.ofEvent e=.mark .enable):e.loc=.mark .enable:=by
 obtain⟨loc,wr,sy⟩:=e;cases loc with
 |mark m=>cases m<;>simp_all [MemAct.ofEvent]
 |cell ad=>simp[MemAct.ofEvent]at h
 |obj r=>cases wr<;>cases sy<;>simp[MemAct.ofEvent]at h
 |_=>simp[MemAct.ofEvent]at h
theorem lI{i:Nat}{fn:FuncId}{pos:String}{es:Array Event}(h:∀e∈es,e.loc≠.mark .enable):∀(m:Nat) (op:MemOp) (a:Touch),(MemOp.ofEvents i fn pos es)[m]?=some op->op.act.touch?=some a->∀(l:Nat) (op':MemOp),l<m->(MemOp.ofEvents i fn pos es)[l]?=some op'->op'.act≠.mark .enable:=λm op a _ _ l op' _ h2 hh=>by obtain⟨e,he,rfl⟩:=Go.Conc.mem_ofEvents (Array.mem_of_getElem? h2);exact h e he (vu hh)
theorem EX{i:Nat}{fn:FuncId}{pos:String}{ad:Addr}:∀(m:Nat) (op:MemOp) (a:Touch),(MemOp.ofEvents i fn pos (semEvents ad))[m]?=some op->op.act.touch?=some a->∀(l:Nat) (op':MemOp),l<m->(MemOp.ofEvents i fn pos (semEvents ad))[l]?=some op'->op'.act≠.mark .enable:=λm op a h1 h2 l op' hl h3=>by
 rw[ofEvents_eq]at h1 h3;simp only[semEvents]at h1 h3
 match m,l,hl with
 |0,l,hl=>omega
 |1,0,_=>simp at h3;subst h3;simp[MemAct.ofEvent]
 |2,0,_=>simp at h3;subst h3;simp[MemAct.ofEvent]
 |2,1,_=>simp at h3;subst h3;simp[MemAct.ofEvent]
 |3,l,_=>simp at h1;subst h1;simp[MemAct.ofEvent,MemAct.touch?]at h2
 |m+4,l,_=>simp at h1
theorem mZ:∀(n:Nat){F:Nat->Nat},(∀l,l<n->F l<=1)->sumTo n F<=n
 |0,_,_=>Nat.le_refl _
 | n+1,F,h=>by
   have h1:=mZ n (F:=F) (λl hl=>h l (by omega));have h2:=h n (by omega);simp only[sumTo];omega
section
variable{P:Program}{A:dM}{Fin:ag->ah->Goroutine->Prop}{Z:Base}{s:MS P}{f:Nat->Node P}{q:Nat->Nat}{kk:Nat->ag}{OO:Nat->ah}{J M:Nat->Prop}{gs:Array Goroutine}{w w':World}{t u:Trace}{j:Nat}{x:be P}{gc gv gm:Nat}{g g1:Goroutine}
theorem CE{p:t9}(h:yU s p x gc gv gm):x.gz=true/\x.owns=false/\x.busy=false/\(be.dn (P:=P) p).busy=false/\(be.dn (P:=P) p).deaf=1/\(x=.gone\/∃p',x=.dn p'/\x.deaf=1):=by cases h<;>simp[be.gz,be.owns,be.busy,be.deaf]
theorem rf(hZ:A.b+A.n+1<=Z.lk)(hC:br (bW P A Fin Z hZ) Z s f q kk OO J M gs w t)(hj:j<A.n){p:t9}(hw:s.w j=.dn p)(hg:gs[A.b+j]?=some g){es:Array Event}(hst:stepG P false g w=.go g1 w' es)(hD:yU s p x gc gv gm)
 (hgr:px A.gb w' gc gv gm) (hmw:MW A.gb 0 w w') (hev:EvM A.gb 0 es) (hes:deafBehind 1 es=1)
 (ha:∀(m:Nat) (op:MemOp) (a:Touch),(MemOp.ofEvents (A.b+j) g.frame.fn g.frame.place es)[m]?=some op->op.act.touch?=some a->∀(l:Nat) (op':MemOp),l<m->(MemOp.ofEvents (A.b+j) g.frame.fn g.frame.place es)[l]?=some op'->op'.act≠.mark .enable)
 (hdry:(s.gm=0->gm=0)\/(mayWake P g=true/\(g1.status=.running\/g1.status=.finished)))
 (hs:(∃p',x=.dn p'/\∃n g2,jG P (kF A) n g1 g2/\ER P A j (.dn p') (kk (A.b+j)) (OO (A.b+j)) g2)\/(x=.gone/\∃m,QuitsD P m 1 g1)) (sl:Option (Nat × Nat)):Goes P A Fin Z hZ s gs w t sl (A.b+j):=by
 have hE:cW P A Z s kk OO J M gs.size w t:=hC.ex;have hb:=A.hb;have hi0:(A.b+j==0)=false:=by simp;omega
 obtain⟨f1,f2,f3,f4,f5,f6⟩:=CE hD;have hwk:=lH (P:=P) (A:=A) (s:=s) hj hw
 have hd1:Deaf t (A.b+j)=1:=by obtain⟨_,_,hd0,_⟩:=hC.walk _ hwk;rw[hd0];show cN P A s (A.b+j)=1;rw[dY hj,hw];exact f5
 have hsx:(s.gF j x gc gv gm).w j=x:=bt
 have hbusy:∀l,((s.gF j x gc gv gm).w l).busy=(s.w l).busy:=λl=>by
  by_cases e:l=j
  . subst e;rw[bt,hw,f3,f4]
  . rw[dh e]
 have hS:eC A s (s.gF j x gc gv gm) (A.b+j):=⟨λl _ hl=>dh (by omega),λ_=>rfl,λ_=>rfl,rfl,λl _=>by
  by_cases e:l=j
  . subst e;rw[bt,hw,f1];rfl
  . rw[dh e]⟩
 have hI:=hE.I.done hj hw hD;have hL:=EW hj hw hD;have hde:∀fn pos,Deaf (t++MemOp.ofEvents (A.b+j) fn pos es) (A.b+j)=1:=λfn pos=>by rw[Deaf_own,hd1];exact hes
 have go:∀(qn:Nat),Self P (bW P A Fin Z hZ) (s.gF j x gc gv gm) f (upd q (A.b+j) qn) kk OO J (t++MemOp.ofEvents (A.b+j) g.frame.fn g.frame.place es) (A.b+j) g1->Goes P A Fin Z hZ s gs w t sl (A.b+j):=λqn hself=>
  yT hZ hC (gW hE.I hj (by rw[hw];rfl)) (og hj hw) hg (by rw[hi0];exact hst) hS (λl _=>by
   by_cases e:l=j
   . subst e;rw[bt,hw,f2];rfl
   . rw[dh e]) rfl rfl id (λi=>by unfold eX;simp only[hbusy];rfl) hI rfl hgr hmw (.inl hev) hL (.inr ⟨hev,CD (by omega) ha⟩) hdry (λ_ _=>rfl) (λi hi=>upd_ne q qn hi) hself sl
 rcases hs with⟨p',rfl,n,g2,hsil,hat⟩|⟨rfl,m,hq⟩
 . refine go n ⟨λhl=>absurd hl (jL hj hsx),λ_=>⟨jL hj hsx,?_,?_,g2,?_,?_⟩,λhh=>absurd hh (og hj hsx),λ_ hn _=>absurd (lH hj hsx) hn⟩
   . show A.b+j<A.b+A.n+1;omega
   . rw[hde]
     show 1=cN P A (s.gF j (.dn p') gc gv gm) (A.b+j);rw[dY hj,hsx]
     rcases f6 with f6|⟨p2,e,f6⟩
     . cases f6
     . exact f6.symm
   . exact .inr (.inl ⟨j,hj,rfl,by rw[hsx];exact hat⟩)
   . exact .inr (by rw[upd_same];exact hsil)
 . have nl:¬dg P A (s.gF j .gone gc gv gm) (A.b+j):=by
    rintro(⟨e,_⟩|⟨l,h1,h2,h3⟩|⟨e,_⟩)
    . omega
    . obtain rfl:l=j:=by omega
      rw[hsx]at h3;exact h3
    . omega
   have nw:¬eV P A (s.gF j .gone gc gv gm) (A.b+j):=by
    rintro(⟨e,_⟩|⟨l,h1,h2,h3⟩|⟨e,_⟩)
    . omega
    . obtain rfl:l=j:=by omega
      rw[hsx]at h3;exact h3
    . omega
   have nh:¬dW P A (s.gF j .gone gc gv gm) (A.b+j):=by
    rintro(⟨e,_⟩|⟨l,h1,h2,h3⟩)
    . omega
    . obtain rfl:l=j:=by omega
      rw[hsx]at h3;cases h3
   exact go m ⟨λh=>absurd h nl,λh=>absurd h nw,λh=>absurd h nh,λ_ _ _=>⟨by omega,by rw[upd_same,hde];exact hq⟩⟩
variable(C:jg P A.ng)(X:j9 P A.ng)
theorem Ko{n:Gj}{b:Nat}{kind:CallKind}{cs:List Frame}{g:Goroutine}(C:jg P n)(X:j9 P n)(h:py P n b kind .d7 cs g):mayWake P g=true:=by
 obtain⟨c,y,fr,frs,⟨rfl,hc⟩,hy,hr,hrs,rfl⟩:=h;have hfl:=Cw (y:=y) (a:=true) (by simpa using hc);obtain⟨p1,p2⟩:=C.d9 b (Fl.of y);rw[hfl]at p1 p2;exact yQ hr p1 X.mU
include C X in
theorem Kr(hZ:A.b+A.n+1<=Z.lk)(hC:br (bW P A Fin Z hZ) Z s f q kk OO J M gs w t)(hj:j<A.n){p:t9}(hw:s.w j=.dn p)(hg:gs[A.b+j]?=some g)(hat:ER P A j (.dn p) (kk (A.b+j)) (OO (A.b+j)) g)(sl:Option (Nat × Nat)):Goes P A Fin Z hZ s gs w t sl (A.b+j):=by
 have hE:cW P A Z s kk OO J M gs.size w t:=hC.ex;have hok:=hE.I.ok j hj;rw[hw]at hok;have hat0:=hat;obtain⟨fw,fn,tmps,todo,hfn,hres,hM⟩:=hat;have hgr:=hE.gr;have hn:=A.hn;have nx:∀{p' g1},gT P A.ng A.gb .deferred (kF A) p' [jX P fw tmps todo,cR P] g1->∃n g2,jG P (kF A) n g1 g2/\ER P A j (.dn p') (kk (A.b+j)) (OO (A.b+j)) g2:=λ⟨_,g2,⟨n,hs⟩,hA⟩=>⟨n,g2,hs,fw,fn,tmps,todo,hfn,hres,hA⟩
 have cell:∀(i:Nat),(i=0\/i=1)->∀wr,EvM A.gb 0 #[⟨.cell ⟨A.gb,i,none⟩,wr,true⟩]:=λi hi wr e he=>by simp at he;subst he;exact .inr ⟨i,by simpa using hi,rfl,rfl⟩
 have cell2:EvM A.gb 0 #[⟨.cell ⟨A.gb,0,none⟩,false,true⟩,⟨.cell ⟨A.gb,0,none⟩,true,true⟩]:=λe he=>by simp at he;rcases he with rfl|rfl<;>exact .inr ⟨0,.inl rfl,rfl,rfl⟩
 have semE:EvM A.gb 0 (semEvents ⟨A.gb,1,none⟩):=λe he=>by
  simp[semEvents]at he
  rcases he with rfl|rfl|rfl|rfl
  . exact .inl (.inl rfl)
  . exact .inr ⟨1,.inr rfl,rfl,rfl⟩
  . exact .inr ⟨1,.inr rfl,rfl,rfl⟩
  . exact .inl (.inr rfl)
 have hcnt:∀l,l<A.n->(s.w l).cnt<=1:=λl _=>by
  cases e:s.w l with
  |dn p=>cases p<;>simp[be.cnt]
  |_=>simp[be.cnt]
 cases p<;>simp only[be.ok,Bool.false_eq_true]at hok
 case d1=>exact Km C X hZ hC hj hw hg hat0 sl
 case d2=>exact Kl C X hZ hC hj hw hg hat0 sl
 case d4=>
  have hc1:1<=s.gc:=by
   have h1:=hE.I.g1;have:(s.w j).cnt<=sumTo A.n (λj=>(s.w j).cnt):=Go.ConcN.le_sumTo (f:=λj=>(s.w j).cnt) hj
   rw[hw]at this;have e:(be.dn (P:=P) .d4).cnt=1:=rfl;omega
  have hc2:s.gc<=A.n+1:=by
   have h1:=hE.I.g1;have h2:sumTo A.n (λj=>(s.w j).cnt)<=A.n:=mZ A.n hcnt
   have h3:s.ms.pend<=1:=by cases s.ms<;>simp[nG.pend];split<;>omega
   omega
  obtain⟨k,hk⟩:∃k,s.gc=k+1:=⟨s.gc-1,by omega⟩
  have hgr':=hgr;rw[hk]at hgr';obtain⟨g1,w',hst,rfl,hgr2,hcase⟩:=PP (Wd:=kF A) (main:=false) C X hfn hres hgr' (by omega) hE.I.g2 hM
  have hmw:MW A.gb 0 w (w.setCell ⟨A.gb,0,none⟩ (.int .u64 (dO k s.gv))):=⟨⟨.refl _,rfl⟩,.inr ⟨0,_,.inl rfl,rfl,rfl⟩⟩
  rcases hcase with⟨hk0,hv,hN⟩|⟨hno,hG⟩
  . subst hk0
    rw[hv]at hgr2 hst hmw;exact rf hZ hC hj hw hg hst (.P4 hk hv) hgr2 hmw cell2 rfl (lI (λe he=>by simp at he;rcases he with rfl|rfl<;>simp)) (.inl id) (.inl ⟨_,rfl,nx hN⟩) sl
  . exact rf hZ hC hj hw hg hst (.d4 k hk hno) hgr2 hmw cell2 rfl (lI (λe he=>by simp at he;rcases he with rfl|rfl<;>simp)) (.inl id) (.inr ⟨rfl,hG⟩) sl
 case d5=>obtain⟨v1,c0⟩:=hE.I.g3 j hj (.inl hw);have hgr':=hgr;rw[v1,c0]at hgr';obtain⟨g1,hst,hN⟩:=PQ (Wd:=kF A) (main:=false) C X hgr' hM;exact rf hZ hC hj hw hg hst .d5 hgr (aY rfl) (cell 0 (.inl rfl) false) rfl (lI (λe he=>by simp at he;subst he;simp)) (.inl id) (.inl ⟨_,rfl,nx hN⟩) sl
 case d6=>obtain⟨v1,c0⟩:=hE.I.g3 j hj (.inr hw);have hgr':=hgr;rw[v1,c0]at hgr';obtain⟨g1,w',hst,rfl,hgr2,hN⟩:=PR (Wd:=kF A) (main:=false) C X hgr' hM;exact rf hZ hC hj hw hg hst .d6 (by rw[c0];exact hgr2) (⟨⟨.refl _,rfl⟩,.inr ⟨0,_,.inl rfl,rfl,rfl⟩⟩) (cell 0 (.inl rfl) true) rfl (lI (λe he=>by simp at he;subst he;simp)) (.inl id) (.inl ⟨_,rfl,nx hN⟩) sl
 case d7=>
  obtain⟨v0,c0,m0,hwt⟩:=hE.I.g4 j hj hw;have hgr':=hgr;rw[v0,c0]at hgr';have hgm:=hE.I.g5.1;obtain⟨g1,w',hst,rfl,hgr2,hG⟩:=PS (Wd:=kF A) (main:=false) C X hfn hres hgr' (by omega) hM
  obtain⟨m,hq⟩:=hG;have hrun:g1.status=.running\/g1.status=.finished:=by rcases hq.status with h|h<;>simp[h]
  exact rf hZ hC hj hw hg hst .d7 (by rw[c0,v0];exact hgr2) (⟨⟨.refl _,rfl⟩,.inr ⟨1,_,.inr rfl,rfl,rfl⟩⟩) semE rfl EX (.inr ⟨Ko C X hM,hrun⟩) (.inr ⟨rfl,m,hq⟩) sl
end
end Go.aN
namespace Go.aN
open Go.Conc
open Go.ConcN (sumTo upd sumTo_upd upd_ne upd_same)
variable{P:Program}
def MS.sn(s:MS P)(c:jh)(gv gm:Nat):MS P:={s with c:=c,gv:=gv,gm:=gm}
section
variable{s:MS P}{n:Nat}{c:jh}{gv gm:Nat}
theorem Hz{x:be P}(h:x.last=true):x=.dn .d5\/x=.dn .d6\/x=.dn .d7:=by
 cases x with
 |dn p=>cases p<;>simp_all [be.last]
 |_=>simp[be.last]at h
theorem bD.calm(I:bD n s)(h:s.c.waits=false):s.gv=0/\s.gm=0/\∀j,j<n->(s.w j).last=false:=by
 have hv:s.gv=0:=by
  have:=I.g2;by_cases e:s.gv=1
  . have:=(I.ns e).1;rw[h]at this;cases this
  . omega
 refine⟨hv,?_,λj hj=>?_⟩
 . have:=I.g5.1
   by_cases e:s.gm=1
   . have:=(I.g5.2 e).1;rw[h]at this;cases this
   . omega
 . cases e:(s.w j).last with
   |false=>rfl
   | true=>
     rcases Hz e with e|e|e
     . have:=(I.g3 j hj (.inl e)).1;omega
     . have:=(I.g3 j hj (.inr e)).1;omega
     . have:=(I.g4 j hj e).2.2.2;rw[h]at this;cases this
theorem bD.Or(I:bD n s)(h:s.c≠.none):s.sp=n:=by have:=I.ms;cases e:s.ms<;>rw[e]at this<;>first|exact this.1|exact absurd this.2 h|exact absurd this.2.1 h
theorem bD.AR(I:bD n s)(h:s.c≠.none)(h0:s.gc=0)(hl:∀j,j<n->(s.w j).last=false):∀j,j<n->s.w j=.gone:=λj hj=>by
 have h1:=I.g1;have h2:(s.w j).cnt<=sumTo n (λj=>(s.w j).cnt):=Go.ConcN.le_sumTo (f:=λj=>(s.w j).cnt) hj;have h3:=I.idle j hj;rw[I.Or h]at h3;have h4:=hl j hj;have h5:=I.ok j hj;have h6:(s.w j).cnt=0:=by omega
 cases e:s.w j with
 |idle=>rw[e]at h3;have:=h3.1 rfl;omega
 |dn p=>rw[e]at h4 h5 h6;cases p<;>simp_all [be.last,be.ok,be.cnt]
 |gone=>rfl
 |_=>rw[e]at h6;simp[be.cnt]at h6
inductive qm(s:MS P):jh->jh->Nat->Nat->Prop
 |call:qm s .er (.wt .w0) s.gv s.gm
 |w0:qm s (.wt .w0) (.wt .w1) s.gv s.gm
 |Q3:s.gc=0->qm s (.wt .w1) (.wt .we) s.gv s.gm
 |w1:s.gc≠0->qm s (.wt .w1) (.wt (.w2 s.gc)) s.gv s.gm
 |Q4:qm s (.wt (.w2 s.gc)) (.wt .w3) 1 s.gm
 |P5 (k:Nat):s.gc≠k->qm s (.wt (.w2 k)) (.wt .w1) s.gv s.gm
 |w3:qm s (.wt .w3) (.wt .w4) s.gv s.gm
 |w4:s.gm≠0->qm s (.wt .w4) (.wt .w5) s.gv (s.gm-1)
 |w5:qm s (.wt .w5) (.wt .we) s.gv s.gm
 |we:qm s (.wt .we) (.wt .wa) s.gv s.gm
 |wa:qm s (.wt .wa) .jI s.gv s.gm
theorem bD.Ks(I:bD n s)(hn:s.c≠.none)(hn':c≠.none)(hg':c≠.gone)(hok:c.ok=true)(h2:gv<=1)(h2':gv=1->c.waits=true/\gm=0)
 (h3:∀j,j<n->(s.w j=.dn .d5\/s.w j=.dn .d6)->gv=1/\s.gc=0) (h4:∀j,j<n->s.w j=.dn .d7->gv=0/\s.gc=0/\gm=0/\c.waits=true)
 (h5:gm<=1/\(gm=1->c.waits=true/\gv=0/\s.gc=0/\∀j,j<n->(s.w j).last=false)) (h6:c.waits=true->gv=0->gm=0->∃j,j<n/\s.w j=.dn .d7)
 (h7:gv=1->s.gc=0->∃j,j<n/\(s.w j=.dn .d5\/s.w j=.dn .d6)) (h8:c.Hn=true->s.gc=0/\gv=0/\gm=0/\∀j,j<n->s.w j=.gone) (h9:∀k,c=.wt (.w2 k)->k≠0):bD n (s.sn c gv gm):=by
 refine⟨I.g1,h2,h2',h3,I.tE,h4,h5,h6,h7,h8,h9,I.ok,hok,I.sp,I.idle,?_,λh=>absurd h hn',I.mu⟩;have:=I.ms
 show match s.ms with
  |.add l=>s.sp+l=n/\c=.none
  |.bj l p=>s.sp+l=n/\c=.none/\1<=l/\(p=.a0\/p=.a2\/p=.a4\/p=.ae)
  |.spawn l=>s.sp+l+1=n/\c=.none
  |.recv=>s.sp=n/\c≠.none
  |.parked=>s.sp=n/\c≠.none/\c≠.gone/\∀i,i<n->s.w i≠.wait
 cases e:s.ms with
 |add l=>rw[e]at this;exact absurd this.2 hn
 |bj l p=>rw[e]at this;exact absurd this.2.1 hn
 |spawn l=>rw[e]at this;exact absurd this.2 hn
 |recv=>rw[e]at this;exact⟨this.1,hn'⟩
 |parked=>rw[e]at this;exact⟨this.1,hn',hg',this.2.2.2⟩
theorem bD.Q5(I:bD n s){c0:jh}(hc:s.c=c0)(h:qm s c0 c gv gm):bD n (s.sn c gv gm):=by
 have calm:c0.waits=false->c.waits=false->c0≠.none->c≠.none->c≠.gone->c.ok=true->gv=s.gv->gm=s.gm->(c.Hn=true->s.gc=0)->(∀k,c=.wt (.w2 k)->k≠0)->bD n (s.sn c gv gm):=by
  intro k1 k2 k3 k4 k5 k6 k7 k8 k9 k10;subst k7 k8;obtain⟨v0,m0,hl⟩:=I.calm (by rw[hc];exact k1)
  have hn:s.c≠.none:=by rw[hc];exact k3
  refine I.Ks hn k4 k5 k6 I.g2 (λh=>by omega) I.g3 (λj hj h=>?_) ⟨by omega,λh=>by omega⟩ (λh=>by rw[k2]at h;cases h) I.g7 (λh=>⟨k9 h,v0,m0,I.AR hn (k9 h) hl⟩) k10
  have:=hl j hj;rw[h]at this;cases this
 have g8:c0.Hn=true->s.gc=0:=λh=>(I.g8 (by rw[hc];exact h)).1
 cases h with
 |call=>exact calm rfl rfl (by simp) (by simp) (by simp) rfl rfl rfl (λh=>by cases h) (λk h=>by cases h)
 |w0=>exact calm rfl rfl (by simp) (by simp) (by simp) rfl rfl rfl (λh=>by cases h) (λk h=>by cases h)
 |Q3 h0=>exact calm rfl rfl (by simp) (by simp) (by simp) rfl rfl rfl (λ_=>h0) (λk h=>by cases h)
 |w1 h0=>exact calm rfl rfl (by simp) (by simp) (by simp) rfl rfl rfl (λh=>by cases h) (λk h=>by cases h;exact h0)
 |P5 k h0=>exact calm rfl rfl (by simp) (by simp) (by simp) rfl rfl rfl (λh=>by cases h) (λk h=>by cases h)
 |w5=>exact calm rfl rfl (by simp) (by simp) (by simp) rfl rfl rfl (λ_=>g8 rfl) (λk h=>by cases h)
 |we=>exact calm rfl rfl (by simp) (by simp) (by simp) rfl rfl rfl (λ_=>g8 rfl) (λk h=>by cases h)
 |wa=>exact calm rfl rfl (by simp) (by simp) (by simp) rfl rfl rfl (λ_=>g8 rfl) (λk h=>by cases h)
 | Q4=>
   obtain⟨v0,m0,hl⟩:=I.calm (by rw[hc];rfl)
   have h9:=I.g9 s.gc hc;refine I.Ks (by rw[hc];simp) (by simp) (by simp) rfl (by omega) (λ_=>⟨rfl,m0⟩) (λj hj h=>?_) (λj hj h=>?_) ⟨by omega,λh=>by omega⟩ (λ_ h=>by omega) (λ_ h=>absurd h h9) (λh=>by cases h) (λk h=>by cases h)
   . have:=(I.g3 j hj h).1;omega
   . have:=hl j hj;rw[h]at this;cases this
 | w3=>
   have hw:s.c.waits=true:=by rw[hc];rfl
   refine I.Ks (by rw[hc];simp) (by simp) (by simp) rfl I.g2 (λh=>⟨rfl,(I.ns h).2⟩) I.g3 (λj hj h=>?_) ⟨I.g5.1,λh=>⟨rfl,(I.g5.2 h).2⟩⟩ (λ_=>I.g6 hw) I.g7 (λh=>by cases h) (λk h=>by cases h)
   have:=I.g4 j hj h;exact⟨this.1,this.2.1,this.2.2.1,rfl⟩
 | w4 h0=>
   have hm1:s.gm=1:=by have:=I.g5.1;omega
   obtain⟨hwt,v0,c0',hl⟩:=I.g5.2 hm1;have hn:s.c≠.none:=by rw[hc];simp
   refine I.Ks hn (by simp) (by simp) rfl I.g2 (λh=>by omega) I.g3 (λj hj h=>?_) ⟨by omega,λh=>by omega⟩ (λh=>by cases h) I.g7 (λ_=>⟨c0',v0,by omega,I.AR hn c0' hl⟩) (λk h=>by cases h)
   have:=hl j hj;rw[h]at this;cases this
theorem AS{c0:jh}(hc:s.c=c0)(h:qm s c0 c gv gm):MS.fX n (s.sn c gv gm) s:=by
 refine .inl ?_;show s.ms.cz+sumTo n (λi=>(s.w i).cz)+c.cz s.gc<s.ms.cz+sumTo n (λi=>(s.w i).cz)+s.c.cz s.gc;rw[hc]
 have:c.cz s.gc<c0.cz s.gc:=by
  cases h with
  |P5 k h0=>simp only[jh.cz];rw[if_neg h0];omega
  |_=>simp[jh.cz]
 omega
end
end Go.aN
namespace Go.aN
open Go.Conc
open Go.ConcN (sumTo upd sumTo_upd upd_ne upd_same)
section
variable{P:Program}{A:dM}{Fin:ag->ah->Goroutine->Prop}{Z:Base}{s:MS P}{f:Nat->Node P}{q:Nat->Nat}{kk:Nat->ag}{OO:Nat->ah}{J M:Nat->Prop}{gs:Array Goroutine}{w w':World}{t u:Trace}{c:jh}{p:t9}{gv gm:Nat}{g g1:Goroutine}
theorem yV(e:s.c=.wt p):eV P A s (A.b+A.n):=.inr (.inr ⟨rfl,by rw[e];trivial⟩)
theorem DQ(e:s.c=.wt p):¬dg P A s (A.b+A.n):=by
 have:=A.hb;rintro(⟨e,_⟩|⟨l,h1,h2,h3⟩|⟨_,h3⟩)
 . omega
 . omega
 . rw[e]at h3;exact h3
theorem rg:¬dW P A s (A.b+A.n):=by
 have:=A.hb;rintro(⟨e,_⟩|⟨l,h1,h2,h3⟩)<;>omega
theorem yW(e:s.c=.wt p):cN P A s (A.b+A.n)=th p:=by have:=A.hb;unfold cN;rw[if_neg (by omega),if_neg (by omega),e]
theorem DR(h:s.c≠.none):bE P A s (A.b+A.n):=.inr (.inr ⟨rfl,h⟩)
theorem EY{c0:jh}(h:qm s c0 c gv gm):c0.dP=false/\c.dP=false/\c0.isNone=false/\c.isNone=false/\c0.busy=true/\c.busy=true:=by cases h<;>simp[jh.dP,jh.isNone,jh.busy]
theorem HA:eC A s (s.sn c gv gm) (A.b+A.n):=⟨λ_ _ _=>rfl,λh=>absurd rfl h,λ_=>rfl,rfl,λ_ _=>rfl⟩
theorem lU(hZ:A.b+A.n+1<=Z.lk)(hC:br (bW P A Fin Z hZ) Z s f q kk OO J M gs w t){c0:jh}(hc:s.c=c0)(hD:qm s c0 (.wt p) gv gm){d:Nat}(hd:Deaf t (A.b+A.n)=d)(hg:gs[A.b+A.n]?=some g){es:Array Event}(hst:stepG P false g w=.go g1 w' es)
 (hgr:px A.gb w' s.gc gv gm) (hmw:MW A.gb 0 w w') (hev:Ma A.gb es) (hes:deafBehind d es=th p) (hdry:s.gm=0->gm=0)
 (hs:∃n g2,jG P (kF A) n g1 g2/\Oc P A (.wt p) (kk (A.b+A.n)) (OO (A.b+A.n)) g2) (sl:Option (Nat × Nat)):Goes P A Fin Z hZ s gs w t sl (A.b+A.n):=by
 have hE:cW P A Z s kk OO J M gs.size w t:=hC.ex;have hb:=A.hb;have hi0:(A.b+A.n==0)=false:=by simp;omega
 obtain⟨f1,f2,f3,f4,f5,f6⟩:=EY hD;have hn:s.c.isNone=false:=by rw[hc];exact f3
 have hnn:s.c≠.none:=λe=>by rw[e]at hn;cases hn
 obtain⟨n,g2,hsil,hat⟩:=hs;have hcs:(s.sn (.wt p) gv gm).c=.wt p:=rfl;have hJ:J (A.b+A.n):=(hE.hJ _).2 (.inr ⟨rfl,by rw[hc];exact f5⟩)
 refine yT (s':=s.sn (.wt p) gv gm) (f':=f) (q':=upd q (A.b+A.n) n) hZ hC (DR hnn) rg hg (by rw[hi0];exact hst) HA (λ_ _=>rfl) (by rw[hc,f1];rfl) (by rw[hc,f3];rfl) (λ_=>.inr (.inr ⟨p,rfl⟩)) (λi=>?_) (hE.I.Q5 hc hD) rfl hgr hmw (.inr ⟨hev,by rw[hn];rfl⟩) (AS hc hD) (.inl (.inr hJ)) (.inl hdry) (λ_ _=>rfl) (λi hi=>upd_ne q n hi) ?_ sl
 . unfold eX
   rw[hc,f5];rfl
 . refine⟨λhl=>absurd hl (DQ hcs),λ_=>⟨DQ hcs,?_,?_,g2,?_,?_⟩,λhh=>absurd hh rg,λ_ hn _=>absurd (yV hcs) hn⟩
   . show A.b+A.n<A.b+A.n+1;omega
   . rw[Deaf_own,hd,hes]
     show _=cN P A (s.sn (.wt p) gv gm) (A.b+A.n);rw[yW hcs]
   . exact .inr (.inr ⟨rfl,hat⟩)
   . exact .inr (by rw[upd_same];exact hsil)
variable(C:jg P A.ng)(X:j9 P A.ng)
include C X in
theorem Kt(hZ:A.b+A.n+1<=Z.lk)(hC:br (bW P A Fin Z hZ) Z s f q kk OO J M gs w t)(hw:s.c=.wt p)(hwa:p≠.wa)(hg:gs[A.b+A.n]?=some g)(hat:Oc P A (.wt p) (kk (A.b+A.n)) (OO (A.b+A.n)) g)(sl:Option (Nat × Nat)):
 Goes P A Fin Z hZ s gs w t sl (A.b+A.n)\/CB P A s gs w sl (A.b+A.n) g:=by
 have hE:cW P A Z s kk OO J M gs.size w t:=hC.ex;have hok:=hE.I.L3;rw[hw]at hok;obtain⟨c0,rest,hM,hT⟩:=hat;have hgr:=hE.gr;have hn:=A.hn;have hb:=A.hb;have hi0:(A.b+A.n==0)=false:=by simp;omega
 have hk:CallKind.normal≠CallKind.early:=by decide
 have nx:∀{p' g1},gT P A.ng A.gb .normal (kF A) p' (c0::rest) g1->∃n g2,jG P (kF A) n g1 g2/\Oc P A (.wt p') (kk (A.b+A.n)) (OO (A.b+A.n)) g2:=λ⟨_,g2,⟨n,hs⟩,hA⟩=>⟨n,g2,hs,c0,rest,hA,hT⟩
 have cell:∀wr,Ma A.gb #[⟨.cell ⟨A.gb,0,none⟩,wr,true⟩]:=λwr e he=>by simp at he;subst he;exact .inl (.inr ⟨0,.inl rfl,rfl,rfl⟩)
 have hd:Deaf t (A.b+A.n)=th p:=by obtain⟨_,_,hd0,_⟩:=hC.walk _ (yV hw);rw[hd0];show cN P A s (A.b+A.n)=_;rw[yW hw]
 have hcalm:s.c.waits=false->s.gv=0:=λh=>(hE.I.calm h).1
 have hcnt:∀l,l<A.n->(s.w l).cnt<=1:=λl _=>by
  cases e:s.w l with
  |dn p=>cases p<;>simp[be.cnt]
  |_=>simp[be.cnt]
 have hc2:s.gc<=A.n+1:=by
  have h1:=hE.I.g1;have h2:sumTo A.n (λj=>(s.w j).cnt)<=A.n:=mZ A.n hcnt
  have h3:s.ms.pend<=1:=by cases s.ms<;>simp[nG.pend];split<;>omega
  omega
 cases p<;>simp only[jh.ok,Bool.false_eq_true]at hok
 case w0=>obtain⟨g1,hst,hN⟩:=PT (Wd:=kF A) (main:=false) (w:=w) C X hM hk;exact .inl (lU hZ hC hw .w0 hd hg hst hgr (aY rfl) (λe he=>by simp at he;subst he;exact .inl (.inl (.inl rfl))) rfl id (nx hN) sl)
 case w1=>
  have v0:=hcalm (by rw[hw];rfl)
  have hgr':=hgr;rw[v0]at hgr';obtain⟨g1,hst,hN⟩:=PU (Wd:=kF A) (main:=false) C X hgr' (by omega) hM
  rcases hN with⟨h0,hN⟩|⟨h0,hN⟩
  . exact .inl (lU hZ hC hw (.Q3 h0) hd hg hst hgr (aY rfl) (cell false) rfl id (nx hN) sl)
  . exact .inl (lU hZ hC hw (.w1 h0) hd hg hst hgr (aY rfl) (cell false) rfl id (nx hN) sl)
 case we=>
  obtain⟨g1,hst,hN⟩:=PV (Wd:=kF A) (main:=false) (w:=w) C X (λw h=>h.1) hM hk
  exact .inl (lU hZ hC hw .we hd hg hst hgr (aY rfl) (λe he=>by simp at he;subst he;exact .inl (.inl (.inr rfl))) rfl id (nx hN) sl)
 case wa=>exact absurd rfl hwa
 case w2 k=>
  have v0:=hcalm (by rw[hw];rfl)
  have hgr':=hgr;rw[v0]at hgr'
  rcases PX (Wd:=kF A) (main:=false) C X (λw h=>h.2.1) hgr' hM with⟨hck,g1,w',hst,rfl,hgr2,hN⟩|⟨hck,g1,hst,hN⟩
  . subst hck
    exact .inl (lU hZ hC hw .Q4 hd hg hst hgr2 (⟨⟨.refl _,rfl⟩,.inr ⟨0,_,.inl rfl,rfl,rfl⟩⟩) (λe he=>by simp at he;rcases he with rfl|rfl<;>exact .inl (.inr ⟨0,.inl rfl,rfl,rfl⟩)) rfl id (nx hN) sl)
  . exact .inl (lU hZ hC hw (.P5 k hck) hd hg hst hgr (aY rfl) (cell false) rfl id (nx hN) sl)
 case w3=>obtain⟨g1,hst,hN⟩:=PY (Wd:=kF A) (main:=false) (w:=w) C X hM hk;exact .inl (lU hZ hC hw .w3 hd hg hst hgr (aY rfl) (λe he=>by simp at he;subst he;exact .inr ⟨1,.inr rfl,.inr rfl⟩) rfl id (nx hN) sl)
 case w4=>
  by_cases hm:s.gm=0
  . right
    have hgr':=hgr;rw[hm]at hgr';have hst:=Ob (main:=false) C X hgr' hM;refine⟨.inr ⟨rfl,hw,hm⟩,?_⟩;have h:=runT_crowd_go (P:=P) (sl:=sl) (i:=A.b+A.n) hg (by rw[hi0];exact hst)
    have hid:woken P g {g with status:=.blocked} w=id:=funext λo=>by unfold Go.Conc.woken;simp
    rw[hid,Array.map_id]at h;exact h
  . left
    obtain⟨g1,w',hst,rfl,hgr2,hN⟩:=PZ (Wd:=kF A) (main:=false) C X hgr hm hM hk
    exact lU hZ hC hw (.w4 hm) hd hg hst hgr2 (⟨⟨.refl _,rfl⟩,.inr ⟨1,_,.inr rfl,rfl,rfl⟩⟩) (λe he=>by
     simp[semEvents]at he
     rcases he with rfl|rfl|rfl|rfl
     . exact .inl (.inl (.inl rfl))
     . exact .inl (.inr ⟨1,.inr rfl,rfl,rfl⟩)
     . exact .inl (.inr ⟨1,.inr rfl,rfl,rfl⟩)
     . exact .inl (.inl (.inr rfl))) rfl (λh=>absurd h hm) (nx hN) sl
 case w5=>
  obtain⟨c0',v0,m0,_⟩:=hE.I.g8 (by rw[hw];rfl)
  have hgr':=hgr;rw[c0',v0]at hgr';obtain⟨g1,hst,hN⟩:=P1 (Wd:=kF A) (main:=false) C X hgr' hM;exact .inl (lU hZ hC hw .w5 hd hg hst hgr (aY rfl) (cell false) rfl id (nx hN) sl)
end
section
variable{Z:Base}{kk:Nat->ag}{OO:Nat->ah}{J M:Nat->Prop}{w:World}{t:Trace}
theorem bV.Ot(h:bV Z kk OO J M w t){i:Nat}{ad:Addr}(hJ:J i)(hla:ad.block<w.heap.size)(hd:Deaf t i=0)(hM:∀p,M p->t.heard p/\Z.N0<=p/\t.act? p=some (.mark (.releaseMerge ad)))
 (hnr:∀m a,Z.N0<=m->t.act? m≠some (.mark (.release a))) (fn:FuncId) (pos:String):
 bV Z kk OO J (λ_=>False) w (t++MemOp.ofEvents i fn pos #[⟨.mark (.acquire ad),false,true⟩]):=by
 obtain⟨u,hu⟩:∃u,u=MemOp.ofEvents i fn pos #[⟨.mark (.acquire ad),false,true⟩]:=⟨_,rfl⟩;have hu':u=#[⟨i,fn,pos,.mark (.acquire ad)⟩]:=by rw[hu,ofEvents_eq];simp[MemAct.ofEvent]
 rw[<-hu];have hnt:∀op∈u,op.act.touch?=none:=λop hop=>by rw[hu']at hop;simp at hop;subst hop;rfl
 have hops:∀op∈u,op.g=i:=λop hop=>by rw[hu']at hop;simp at hop;subst hop;rfl
 have hu0:u[0]?=some ⟨i,fn,pos,.mark (.acquire ad)⟩:=by rw[hu'];rfl
 have hloud:kP u:=λop hop=>by rw[hu']at hop;simp at hop;subst hop;simp
 have hnr':∀k,Z.N0<=k->∀a,(t++u).act? k≠some (.mark (.release a)):=λk hk a e=>by
  rcases sf e with⟨h1,_⟩|⟨op,hop,h1⟩
  . exact hnr k a hk h1
  . rw[hu']at hop;simp at hop;subst hop;cases h1
 exact h.rY (λa b=>a=b) rfl ⟨⟨.refl _,rfl⟩,λ_ _=>rfl⟩ (λb=>.inl rfl) (λop hop=>by rw[hu']at hop;simp at hop;subst hop;simpa[MemAct.low]using hla) (λa b e n y _ _ _ hk=>by subst e;exact hk.app u)
  (λj b n v h=>⟨j,rfl,h⟩) (λj b s h=>⟨j,rfl,h⟩) (λj b x h=>⟨j,rfl,h,λ_ h=>h⟩) h.iV
  (λsaid=>noRace_append (h.clean said) hops λn a ha op hop b hb _=>by rw[hnt op hop]at hb;cases hb) (λop hop a ha=>by rw[hnt op hop]at ha;cases ha) (λm op a hop ha=>by rw[hnt op (Array.mem_of_getElem? hop)]at ha;cases ha)
  (λn a ha hm h=>h.elim (λ⟨j,h1,h2⟩=>.inr (.inl ⟨j,h1,h2.app _⟩)) (λ⟨p,h1,h2⟩=>by obtain⟨e1,e2,e3⟩:=hM p h1;exact .inr (.inl ⟨i,hJ,pr (y:=⟨i,fn,pos,.mark (.acquire ad)⟩) hloud hu0 rfl hd e3 e1 (λk hk=>hnr' k (by omega) ad) h2⟩)))
end
section
variable{P:Program}{A:dM}{Fin:ag->ah->Goroutine->Prop}{Z:Base}{s:MS P}{f:Nat->Node P}{q:Nat->Nat}{kk:Nat->ag}{OO:Nat->ah}{J M:Nat->Prop}{gs:Array Goroutine}{w w':World}{t u:Trace}{c:jh}{p:t9}{gv gm:Nat}{g g1:Goroutine}
theorem su(e:s.c=.jI\/s.c=.er):dg P A s (A.b+A.n):=.inr (.inr ⟨rfl,by rcases e with e|e<;>rw[e]<;>trivial⟩)
theorem DT(e:s.c=.jI\/s.c=.er):¬eV P A s (A.b+A.n):=by
 have:=A.hb;rintro(⟨e,_⟩|⟨l,h1,h2,h3⟩|⟨_,h3⟩)
 . omega
 . omega
 . rcases e with e|e<;>rw[e]at h3<;>exact h3
theorem DU(e:s.c≠.er):bu P A Fin s (A.b+A.n)=qh P A:=by
 have:=A.hb;unfold bu;rw[if_neg (by omega),if_neg (by omega)];cases h:s.c<;>first|rfl|exact absurd h e
theorem DV(e:s.c=.er):bu P A Fin s (A.b+A.n)=vk P A:=by have:=A.hb;unfold bu;rw[if_neg (by omega),if_neg (by omega),e]
theorem Lr{x:Node P}:Kc P A s (A.b+A.n) x:=λj h X h1 h2 _=>by omega
variable(C:jg P A.ng)(X:j9 P A.ng)
include C X in
theorem Ku(hZ:A.b+A.n+1<=Z.lk)(hC:br (bW P A Fin Z hZ) Z s f q kk OO J M gs w t)(hw:s.c=.wt .wa)(hg:gs[A.b+A.n]?=some g)(hat:Oc P A (.wt .wa) (kk (A.b+A.n)) (OO (A.b+A.n)) g)(sl:Option (Nat × Nat)):
 Goes P A Fin Z hZ s gs w t sl (A.b+A.n):=by
 have hE:cW P A Z s kk OO J M gs.size w t:=hC.ex;have B:=ba (P:=P) (A:=A) (Fin:=Fin) (Z:=Z) hZ;obtain⟨c0,rest,hM,hT⟩:=hat;have hb:=A.hb;have hi0:(A.b+A.n==0)=false:=by simp;omega
 obtain⟨g1,hst,hr,⟨k,hsil⟩⟩:=PW (Wd:=λ_=>True) (main:=false) (w:=w) C X hM (by decide)
 obtain⟨tr⟩:=T.tree (P:=P) (m:=qh P A) rfl (hT _ (ag.Le.refl _));obtain⟨T,_⟩:=TT.pre hsil tr;have hrun:=runT_crowd_go (P:=P) (sl:=sl) (i:=A.b+A.n) hg (by rw[hi0];exact hst)
 have hwk:=yV (P:=P) (A:=A) hw
 have hd:Deaf t (A.b+A.n)=0:=by obtain⟨_,_,hd0,_⟩:=hC.walk _ hwk;rw[hd0];show cN P A s (A.b+A.n)=_;rw[yW hw];rfl
 have hJ:J (A.b+A.n):=(hE.hJ _).2 (.inr ⟨rfl,by rw[hw];rfl⟩)
 have hG:A.gb<w.heap.size:=by obtain⟨c,e,h1⟩:=hE.wv;exact(Array.getElem?_eq_some_iff.1 h1).1
 have hP:=hC.bY.Ot (i:=A.b+A.n) (ad:=⟨A.gb,0,none⟩) hJ hG hd (λp hp=>by
  obtain⟨h1,h2,h3⟩:=hE.hM p hp
  rcases h3 with⟨h3,_⟩|⟨h3,_⟩
  . exact⟨h1,h2,h3⟩
  . rw[hw]at h3;cases h3) hE.norel g.frame.fn g.frame.place
 have hops:∀op∈MemOp.ofEvents (A.b+A.n) g.frame.fn g.frame.place #[⟨.mark (.acquire ⟨A.gb,0,none⟩),false,true⟩],op.g=A.b+A.n:=λop hop=>by obtain⟨e,_,rfl⟩:=Go.Conc.mem_ofEvents hop;rfl
 have hEx:cW P A Z (s.sn .jI s.gv s.gm) kk OO J (λ_=>False) gs.size w (t++MemOp.ofEvents (A.b+A.n) g.frame.fn g.frame.place #[⟨.mark (.acquire ⟨A.gb,0,none⟩),false,true⟩]):=
  hE.Oo (HA (s:=s) (c:=.jI)) (λ_ _=>rfl) (by rw[hw];rfl) (by rw[hw];rfl) (λp hp=>hp.elim) (λe=>by rw[hw]at e;cases e) (λ⟨p,hp⟩=>hp.elim) (λi=>by unfold eX;rw[hw];rfl) (hE.I.Q5 hw .wa) rfl hE.gr (aY rfl) (λop hop=>by obtain⟨e,he,rfl⟩:=Go.Conc.mem_ofEvents hop;simp at he;subst he;exact⟨λa ha=>by simp[MemAct.ofEvent,MemAct.touch?]at ha,λa h=>by simp[MemAct.ofEvent]at h⟩)
 have hbs:Beside (bW P A Fin Z hZ) s (s.sn .jI s.gv s.gm) f (bv f (A.b+A.n) ⟨qh P A,kk (A.b+A.n),OO (A.b+A.n),g1,T⟩) q q kk kk OO OO J J w (A.b+A.n) g g1:=vt hZ HA (λi hi=>ar _ _ hi) (λ_ _=>rfl) (λ_ _ _=>rfl) (λ_ _ _=>rfl) (λ_ _ h=>h) (.inl ⟨id,id⟩) (λ{i k O y} hA=>B.kU (s:=s) (i:=i) (k:=k) (O:=O) (g:=y) hA)
 refine⟨_,_,hrun,s.sn .jI s.gv s.gm,bv f (A.b+A.n) ⟨qh P A,kk (A.b+A.n),OO (A.b+A.n),g1,T⟩,q,kk,OO,J,(λ_=>False),_,_,_,rfl,AS hw .wa,?_⟩
 refine br.step B hC hg hops hP hEx (λl y hl hA=>B.r7 hE hl _ _ hA) hbs ⟨λ_=>?_,λh=>absurd h (DT (.inl rfl)),λh=>absurd h rg,λh=>absurd (su (.inl rfl)) h⟩
 rw[an];refine⟨by show A.b+A.n<A.b+A.n+1;omega,rfl,?_,rfl,rfl,hr,?_,.inr hJ,Lr⟩
 . show qh P A=bu P A Fin (s.sn .jI s.gv s.gm) (A.b+A.n)
   rw[DU (by simp[MS.sn])]
 . rw[Deaf_own,hd];rfl
end
theorem sx {P:Program} {y:Sy} {s:jf} {fr:Frame} {x:FuncId × List SV} {f:FuncId} {dp:Array Value} {kind:CallKind} (hr:FR y s fr) (h:aR s=some x):fr≠Frame.enter P f dp kind:=fun e=>by
 obtain⟨ops,i,rest,kk,o,as,ats,h1,h2,h3,h4,h5,h6⟩:=cU (f:=x.1) (svs:=x.2) hr h;have:fr.todo = .inRegion ops (i :: rest) :: kk:=by rw[h5];rfl
 rw[e] at this;simp[Frame.enter] at this
theorem yX{fr fr':Frame}{cs cs':List Frame}(h:G fr cs=G fr' cs'):fr=fr':=by have:=congrArg Goroutine.frame h;exact this
section
variable{P:Program}{A:dM}{Fin:ag->ah->Goroutine->Prop}{Z:Base}{s:MS P}{f:Nat->Node P}{q:Nat->Nat}{kk:Nat->ag}{OO:Nat->ah}{J M:Nat->Prop}{gs:Array Goroutine}{w w':World}{t u:Trace}{j:Nat}{c:jh}{p:t9}{gv gm:Nat}{g g1:Goroutine}
variable(C:jg P A.ng)(X:j9 P A.ng)
include C in
theorem HB{b:Nat}{kind kind':CallKind}{cs:List Frame}{f:FuncId}{dp:Array Value}{n:Nat}{Wd:World->Prop}{g2:Goroutine}(h:jG P Wd n (G (Frame.enter P f dp kind') cs) g2)(hA:py P A.ng b kind .w0 cs g2):n≠0:=λe=>by subst e;obtain⟨c,y,fr,frs,rfl,hy,hr,hrs,rfl⟩:=hA;exact sx hr (C.w0 b kind).1 (yX h).symm
include C in
theorem HC{b:Nat}{kind kind':CallKind}{cs:List Frame}{f:FuncId}{dp:Array Value}{n:Nat}{Wd:World->Prop}{g2:Goroutine}(h:jG P Wd n (G (Frame.enter P f dp kind') cs) g2)(hA:py P A.ng b kind .a0 cs g2):n≠0:=λe=>by subst e;obtain⟨c,y,fr,frs,rfl,hy,hr,hrs,rfl⟩:=hA;exact sx hr (C.a0 b kind).1 (yX h).symm
include C in
theorem HE{b:Nat}{kind kind':CallKind}{cs:List Frame}{f:FuncId}{dp:Array Value}{n:Nat}{Wd:World->Prop}{g2:Goroutine}(h:jG P Wd n (G (Frame.enter P f dp kind') cs) g2)(hA:py P A.ng b kind .d1 cs g2):n≠0:=λe=>by subst e;obtain⟨c,y,fr,frs,rfl,hy,hr,hrs,rfl⟩:=hA;exact sx hr (C.d1 b).1 (yX h).symm
include C X in
theorem EZ(hZ:A.b+A.n+1<=Z.lk)(hC:br (bW P A Fin Z hZ) Z s f q kk OO J M gs w t)(hw:s.c=.er){k:ag}{O:ah}{N:ag->ah->Goroutine->Prop}(hfk:k=kk (A.b+A.n))(hfO:O=OO (A.b+A.n))(hg:gs[A.b+A.n]?=some g)(ht:(vk P A).dc k O g N)(sl:Option (Nat × Nat)):
 Goes P A Fin Z hZ s gs w t sl (A.b+A.n):=by
 have hE:cW P A Z s kk OO J M gs.size w t:=hC.ex;obtain⟨_,_,_,_,_,_,hd0,_⟩:=hC.live _ (su (.inr hw));obtain⟨rfl,c0,rest,rfl,hT⟩:=ht;subst hfk hfO;obtain⟨g2,⟨n,hsil⟩,hA⟩:=vg (P:=P) (n:=A.ng) (b:=A.gb) (kind:=.normal) (cs:=c0::rest) (Wd:=kF A) X C;cases n with
 |zero=>exact absurd rfl (HB C hsil hA)
 |succ n=>obtain⟨g1,⟨hr1,hs1⟩,hs2⟩:=hsil;have hwd:kF A w:=(ba (P:=P) (A:=A) (Fin:=Fin) (Z:=Z) hZ).wd hE;exact lU hZ hC hw .call hd0 hg (hs1 false w hwd) hE.gr (aY rfl) (λe he=>by simp at he) rfl id ⟨n,g2,hs2,c0,rest,hA,hT⟩ sl
theorem vv(hj:j<A.n)(e:s.w j=.xu):dg P A s (A.b+j):=.inr (.inl ⟨j,hj,rfl,by rw[e];trivial⟩)
theorem xv(hj:j<A.n)(e:s.w j=.xu):¬dW P A s (A.b+j):=by
 have:=A.hb;rintro(⟨e,_⟩|⟨l,h1,h2,h3⟩)
 . omega
 . obtain rfl:l=j:=by omega
   rw[e]at h3;cases h3
theorem Hx(hj:j<A.n){x:be P}{sh:Mu.Sh}(h:x.gz=(s.w j).gz):eC A s (s.aE j x sh) (A.b+j):=⟨λl _ hl=>bf (by omega),λ_=>rfl,λ_=>rfl,rfl,λl _=>by
 by_cases e:l=j
 . subst e;rw[aD,h]
 . rw[bf e]⟩
include C X in
theorem E0(hZ:A.b+A.n+1<=Z.lk)(hC:br (bW P A Fin Z hZ) Z s f q kk OO J M gs w t)(hj:j<A.n)(hw:s.w j=.xu){k:ag}{O:ah}{N:ag->ah->Goroutine->Prop}(hg:gs[A.b+j]?=some g)(ht:(pg P A).dc k O g N)(sl:Option (Nat × Nat)):
 Goes P A Fin Z hZ s gs w t sl (A.b+j):=by
 have hE:cW P A Z s kk OO J M gs.size w t:=hC.ex;have hb:=A.hb;obtain⟨_,_,_,_,_,_,hd0,_⟩:=hC.live _ (vv hj hw);obtain⟨rfl,fw,fn,tmps,todo,hfn,hres,rfl⟩:=ht;have hi0:(A.b+j==0)=false:=by simp;omega
 obtain⟨g2,⟨n,hsil⟩,hA⟩:=vh (P:=P) (n:=A.ng) (b:=A.gb) (kind:=.deferred) (cs:=[jX P fw tmps todo,cR P]) (Wd:=kF A) X (λw h=>h.1) C
 cases n with
 |zero=>exact absurd rfl (HE C hsil hA)
 | succ n=>
   obtain⟨g1,⟨hr1,hs1⟩,hs2⟩:=hsil;have hwd:kF A w:=(ba (P:=P) (A:=A) (Fin:=Fin) (Z:=Z) hZ).wd hE;obtain⟨x,hx⟩:∃x:be P,x=.dn .d1:=⟨_,rfl⟩;have hsx:(s.aE j x s.sh).w j=.dn .d1:=by rw[aD,hx]
   have hI:bD A.n (s.aE j x s.sh):=hE.I.yS hj (by rw[hw];rfl) (by rw[hx];rfl) (by rw[hx,hw];rfl) (by rw[hx];rfl) (by rw[hx,hw];rfl)
   have hL:MS.fX A.n (s.aE j x s.sh) s:=vr hj (by rw[hx,hw];simp[be.cz])
   have hJ:J (A.b+j):=(hE.hJ _).2 (.inl ⟨j,hj,rfl,by rw[hw];rfl⟩)
   refine yT (s':=s.aE j x s.sh) (f':=f) (q':=upd q (A.b+j) n) (es:=#[]) hZ hC (gW hE.I hj (by rw[hw];rfl)) (xv hj hw) hg (by rw[hi0];exact hs1 false w hwd) (Hx hj (by rw[hx,hw];rfl)) (λl _=>?_) rfl rfl id (kY hj (by rw[hx,hw];rfl)) hI rfl hE.gr (aY rfl) (.inl fq) hL (.inl (.inr hJ)) (.inl id) (λ_ _=>rfl) (λi hi=>upd_ne q n hi) ?_ sl
   . by_cases e:l=j
     . subst e;rw[aD,hx,hw];rfl
     . rw[bf e]
   . refine⟨λhl=>absurd hl (jL hj hsx),λ_=>⟨jL hj hsx,?_,?_,g2,?_,?_⟩,λhh=>absurd hh (og hj hsx),λ_ hn _=>absurd (lH hj hsx) hn⟩
     . show A.b+j<A.b+A.n+1;omega
     . rw[Deaf_own,hd0]
       show _=cN P A (s.aE j x s.sh) (A.b+j);rw[dY hj,hsx];rfl
     . refine .inr (.inl ⟨j,hj,rfl,?_⟩)
       rw[hsx];exact⟨fw,fn,tmps,todo,hfn,hres,hA⟩
     . exact .inr (by rw[upd_same];exact hs2)
end
section
variable{P:Program}
def MS.rh(s:MS P)(ms:nG)(gc:Nat):MS P:={s with ms:=ms,gc:=gc}
inductive AT(s:MS P):nG->nG->Nat->Prop
 |call (j:Nat):1<=j->AT s (.add j) (.bj j .a0) s.gc
 |a0 (j:Nat):AT s (.bj j .a0) (.bj j .a2) s.gc
 |a2 (j:Nat) (p:t9):p=.a4\/p=.ae->AT s (.bj j .a2) (.bj j p) (s.gc+1)
 |a4 (j:Nat):AT s (.bj j .a4) (.bj j .ae) s.gc
 |ae (j:Nat):AT s (.bj j .ae) (.spawn (j-1)) s.gc
theorem bD.R4{n:Nat}{s:MS P}(I:bD n s){m0 m1:nG}{gc:Nat}(hm:s.ms=m0)(h:AT s m0 m1 gc):bD n (s.rh m1 gc)/\s.c=.none:=by
 have hms:=I.ms;rw[hm]at hms;have hc:s.c=.none:=by cases h<;>first|exact hms.2|exact hms.2.1
 obtain⟨v0,m0',hl⟩:=I.calm (by rw[hc];rfl);refine⟨⟨?_,I.g2,I.ns,λj hj h=>?_,I.tE,λj hj h=>?_,⟨I.g5.1,λh=>(by have h:s.gm=1:=h;omega)⟩,I.g6,λh=>(by have h:s.gv=1:=h;omega),λh=>?_,I.g9,I.ok,I.L3,I.sp,I.idle,?_,I.early,I.mu⟩,hc⟩
 . have:=I.g1
   rw[hm]at this;show gc=sumTo n (λj=>(s.w j).cnt)+m1.pend;cases h with
   |a2 j p hp=>rcases hp with rfl|rfl<;>simp_all [nG.pend]
   |_=>simp_all [nG.pend]
 . have h:s.w j=.dn .d5\/s.w j=.dn .d6:=h
   have:=hl j hj;rcases h with h|h<;>rw[h]at this<;>cases this
 . have h:s.w j=.dn .d7:=h
   have:=hl j hj;rw[h]at this;cases this
 . have h:s.c.Hn=true:=h
   rw[hc]at h;cases h
 . cases h with
   |call j hj=>exact⟨hms.1,hms.2,hj,.inl rfl⟩
   |a0 j=>exact⟨hms.1,hms.2.1,hms.2.2.1,.inr (.inl rfl)⟩
   |a2 j p hp=>exact⟨hms.1,hms.2.1,hms.2.2.1,.inr (.inr hp)⟩
   |a4 j=>exact⟨hms.1,hms.2.1,hms.2.2.1,.inr (.inr (.inr rfl))⟩
   |ae j=>exact⟨by have h1:=hms.1;have h2:=hms.2.2.1;show s.sp+(j-1)+1=n;omega,hms.2.1⟩
theorem HF{n:Nat}{s:MS P}{m0 m1:nG}{gc:Nat}(hc:s.c=.none)(hj:∀j p,m0=.bj j p->1<=j)(hm:s.ms=m0)(h:AT s m0 m1 gc):MS.fX n (s.rh m1 gc) s:=by
 refine .inl ?_;show m1.cz+sumTo n (λi=>(s.w i).cz)+s.c.cz gc<s.ms.cz+sumTo n (λi=>(s.w i).cz)+s.c.cz s.gc;rw[hm,hc];have e:∀x,jh.cz x .none=0:=λ_=>rfl
 rw[e,e]
 have:m1.cz<m0.cz:=by
  cases h with
  |a2 j p hp=>rcases hp with rfl|rfl<;>simp[nG.cz]
  |ae j=>have:=hj j .ae rfl;simp only[nG.cz];omega
  |_=>simp[nG.cz]
 omega
end
section
variable{P:Program}{A:dM}{Fin:ag->ah->Goroutine->Prop}{Z:Base}{s:MS P}{f f':Nat->Node P}{q q':Nat->Nat}{kk:Nat->ag}{OO:Nat->ah}{J M:Nat->Prop}{gs:Array Goroutine}{w w':World}{t u:Trace}{j:Nat}{c:jh}{p:t9}{gc:Nat}{g g1:Goroutine}{m0 m1:nG}
theorem CF(e:s.ms=.bj j p):eV P A s 0:=.inl ⟨rfl,by rw[e];trivial⟩
theorem DW(e:s.ms=.bj j p):¬dg P A s 0:=by
 have:=A.hb;rintro(⟨_,h3⟩|⟨l,h1,h2,h3⟩|⟨h3,_⟩)
 . rw[e]at h3;exact h3
 . omega
 . omega
theorem lJ(e:s.ms≠.parked):¬dW P A s 0:=by
 have:=A.hb;rintro(⟨_,h3⟩|⟨l,h1,h2,h3⟩)
 . exact e h3
 . omega
theorem DX(e:s.ms=.bj j p):cN P A s 0=th p:=by unfold cN;rw[if_pos rfl,e]
theorem Ou:eC A s (s.rh m1 gc) 0:=⟨λ_ _ _=>rfl,λ_=>rfl,λh=>absurd rfl h,rfl,λ_ _=>rfl⟩
theorem sz(hZ:A.b+A.n+1<=Z.lk)(hC:br (bW P A Fin Z hZ) Z s f q kk OO J M gs w t)(hm:s.ms=m0)(hD:AT s m0 m1 gc){d:Nat}(hd:Deaf t 0=d)(hg:gs[0]?=some g){es:Array Event}(hst:stepG P true g w=.go g1 w' es)
 (hgr:px A.gb w' gc s.gv s.gm) (hmw:MW A.gb 0 w w') (hev:Ma A.gb es)
 (hs:(∃j p n g2,m1=.bj j p/\deafBehind d es=th p/\jG P (kF A) n g1 g2/\Pd P A Fin (.bj j p) (kk 0) (OO 0) g2)\/
   (∃j,m1=.spawn j/\deafBehind d es=0/\g1.status=.running/\∃tr:TT P (DM P A Fin j) (kk 0) (OO 0) g1,True)) (sl:Option (Nat × Nat)):Goes P A Fin Z hZ s gs w t sl 0:=by
 have hE:cW P A Z s kk OO J M gs.size w t:=hC.ex;have hb:=A.hb;have hi0:((0:Nat)==0)=true:=rfl;obtain⟨hI,hc⟩:=hE.I.R4 hm hD;have hn:s.c.isNone=true:=by rw[hc];rfl
 have hL:MS.fX A.n (s.rh m1 gc) s:=HF hc (λj p e=>by have:=hE.I.ms;rw[hm,e]at this;exact this.2.2.1) hm hD
 have hnp:s.ms≠.parked:=by rw[hm];cases hD<;>simp
 have hde:∀fn pos,Deaf (t++MemOp.ofEvents 0 fn pos es) 0=deafBehind d es:=λfn pos=>by rw[Deaf_own,hd]
 have go:∀(f':Nat->Node P) (q':Nat->Nat),(∀i,i≠0->f' i=f i)->(∀i,i≠0->q' i=q i)->Self P (bW P A Fin Z hZ) (s.rh m1 gc) f' q' kk OO J (t++MemOp.ofEvents 0 g.frame.fn g.frame.place es) 0 g1->Goes P A Fin Z hZ s gs w t sl 0:=λf' q' hf hq hself=>yT (s':=s.rh m1 gc) hZ hC (.inl rfl) (lJ hnp) hg hst Ou (λ_ _=>rfl) rfl rfl id (λi=>Iff.rfl) hI rfl hgr hmw (.inr ⟨hev,by rw[hn];rfl⟩) hL (.inl (.inl rfl)) (.inl id) hf hq hself sl
 rcases hs with⟨j,p,n,g2,rfl,hdb,hsil,hat⟩|⟨j,rfl,hdb,hr,tr,_⟩
 . have hcs:(s.rh (.bj j p) gc).ms=.bj j p:=rfl
   refine go f (upd q 0 n) (λ_ _=>rfl) (λi hi=>upd_ne q n hi) ⟨λhl=>absurd hl (DW hcs),λ_=>⟨DW hcs,?_,?_,g2,?_,?_⟩,λhh=>absurd hh (lJ (by simp[MS.rh])),λ_ hn _=>absurd (CF hcs) hn⟩
   . show 0<A.b+A.n+1;omega
   . rw[hde,hdb]
     show _=cN P A (s.rh (.bj j p) gc) 0;rw[DX hcs]
   . exact .inl ⟨rfl,hat⟩
   . exact .inr (by rw[upd_same];exact hsil)
 . have hlv:dg P A (s.rh (.spawn j) gc) 0:=.inl ⟨rfl,trivial⟩
   have hnw:¬eV P A (s.rh (.spawn j) gc) 0:=by
    rintro(⟨_,h3⟩|⟨l,h1,h2,h3⟩|⟨h3,_⟩)
    . exact h3
    . omega
    . omega
   refine go (bv f 0 ⟨DM P A Fin j,kk 0,OO 0,g1,tr⟩) q (λi hi=>ar _ _ hi) (λ_ _=>rfl) ⟨λ_=>?_,λh=>absurd h hnw,λh=>absurd h (lJ (by simp[MS.rh])),λh=>absurd hlv h⟩
   rw[an];refine⟨by show 0<A.b+A.n+1;omega,rfl,?_,rfl,rfl,hr,by rw[hde,hdb],.inl rfl,λl h X h1 h2 _=>by omega⟩
   show DM P A Fin j=bu P A Fin (s.rh (.spawn j) gc) 0;unfold bu;rw[if_pos rfl];rfl
variable(C:jg P A.ng)(X:j9 P A.ng)
include C X in
theorem AU(hZ:A.b+A.n+1<=Z.lk)(hC:br (bW P A Fin Z hZ) Z s f q kk OO J M gs w t)(hw:s.ms=.bj j p)(hg:gs[0]?=some g)(hat:Pd P A Fin (.bj j p) (kk 0) (OO 0) g)(sl:Option (Nat × Nat)):Goes P A Fin Z hZ s gs w t sl 0:=by
 have hE:cW P A Z s kk OO J M gs.size w t:=hC.ex;have hms:=hE.I.ms;rw[hw]at hms;obtain⟨_,hc,hj1,hp⟩:=hms;obtain⟨v0,m0',hl⟩:=hE.I.calm (by rw[hc];rfl)
 obtain⟨c0,rest,hM,hT⟩:=hat;have hgr:=hE.gr;have hn:=A.hn;have hk:CallKind.normal≠CallKind.early:=by decide
 have nx:∀{p' g1},gT P A.ng A.gb .normal (kF A) p' (c0::rest) g1->∃n g2,jG P (kF A) n g1 g2/\Pd P A Fin (.bj j p') (kk 0) (OO 0) g2:=λ⟨_,g2,⟨n,hs⟩,hA⟩=>⟨n,g2,hs,c0,rest,hA,hT⟩
 have hd:Deaf t 0=th p:=by obtain⟨_,_,hd0,_⟩:=hC.walk _ (CF hw);rw[hd0];show cN P A s 0=_;rw[DX hw]
 have hcnt:∀l,l<A.n->(s.w l).cnt<=1:=λl _=>by
  cases e:s.w l with
  |dn p=>cases p<;>simp[be.cnt]
  |_=>simp[be.cnt]
 have hc2:s.gc<=A.n+1:=by
  have h1:=hE.I.g1;have h2:sumTo A.n (λj=>(s.w j).cnt)<=A.n:=mZ A.n hcnt
  have h3:s.ms.pend<=1:=by cases s.ms<;>simp[nG.pend];split<;>omega
  omega
 rcases hp with rfl|rfl|rfl|rfl
 . obtain⟨g1,hst,hN⟩:=PI (Wd:=kF A) (main:=true) (w:=w) C X hM hk
   obtain⟨n,g2,h1,h2⟩:=nx hN;exact sz hZ hC hw (.a0 j) hd hg hst hgr (aY rfl) (λe he=>by simp at he;subst he;exact .inl (.inl (.inl rfl))) (.inl ⟨j,_,n,g2,rfl,rfl,h1,h2⟩) sl
 . have hgr':=hgr
   rw[v0]at hgr';obtain⟨g1,w',hst,rfl,hgr2,hN⟩:=PJ (Wd:=kF A) (main:=true) (v:=0) C X (λw h=>h.2.1) hgr' (by omega) hM
   have hev:Ma A.gb #[⟨.cell ⟨A.gb,0,none⟩,false,true⟩,⟨.cell ⟨A.gb,0,none⟩,true,true⟩]:=λe he=>by simp at he;rcases he with rfl|rfl<;>exact .inl (.inr ⟨0,.inl rfl,rfl,rfl⟩)
   rcases hN with hN|hN
   . obtain⟨n,g2,h1,h2⟩:=nx hN
     exact sz hZ hC hw (.a2 j _ (.inl rfl)) hd hg hst (by rw[v0];exact hgr2) (⟨⟨.refl _,rfl⟩,.inr ⟨0,_,.inl rfl,rfl,rfl⟩⟩) hev (.inl ⟨j,_,n,g2,rfl,rfl,h1,h2⟩) sl
   . obtain⟨n,g2,h1,h2⟩:=nx hN
     exact sz hZ hC hw (.a2 j _ (.inr rfl)) hd hg hst (by rw[v0];exact hgr2) (⟨⟨.refl _,rfl⟩,.inr ⟨0,_,.inl rfl,rfl,rfl⟩⟩) hev (.inl ⟨j,_,n,g2,rfl,rfl,h1,h2⟩) sl
 . obtain⟨g1,hst,hN⟩:=PL (Wd:=kF A) (main:=true) (w:=w) C X hM hk
   obtain⟨n,g2,h1,h2⟩:=nx hN;exact sz hZ hC hw (.a4 j) hd hg hst hgr (aY rfl) (λe he=>by simp at he;subst he;exact .inr ⟨1,.inr rfl,.inl rfl⟩) (.inl ⟨j,_,n,g2,rfl,rfl,h1,h2⟩) sl
 . obtain⟨g1,hst,hr,⟨k,hsil⟩⟩:=PM (Wd:=λ_=>True) (main:=true) (w:=w) C X hM hk
   obtain⟨tr⟩:=T.tree (P:=P) (m:=DM P A Fin (j-1)) rfl hT;obtain⟨T,_⟩:=TT.pre hsil tr;exact sz hZ hC hw (.ae j) hd hg hst hgr (aY rfl) (λe he=>by simp at he;subst he;exact .inl (.inl (.inr rfl))) (.inr ⟨j-1,rfl,rfl,hr,T,trivial⟩) sl
include C X in
theorem HG(hZ:A.b+A.n+1<=Z.lk)(hC:br (bW P A Fin Z hZ) Z s f q kk OO J M gs w t)(hw:s.ms=.add (j+1)){k:ag}{O:ah}{N:ag->ah->Goroutine->Prop}(hfk:k=kk 0)(hfO:O=OO 0)(hg:gs[0]?=some g)(ht:(xr P A Fin (j+1)).dc k O g N)(sl:Option (Nat × Nat)):
 Goes P A Fin Z hZ s gs w t sl 0:=by
 have hE:cW P A Z s kk OO J M gs.size w t:=hC.ex;obtain⟨_,_,_,_,_,_,hd0,_⟩:=hC.live 0 (.inl ⟨rfl,by rw[hw];trivial⟩);obtain⟨rfl,c0,rest,rfl,hT⟩:=ht;subst hfk hfO;obtain⟨g2,⟨n,hsil⟩,hA⟩:=wq (P:=P) (n:=A.ng) (b:=A.gb) (kind:=.normal) (cs:=c0::rest) (Wd:=kF A) X;cases n with
 |zero=>exact absurd rfl (HC C hsil hA)
 |succ n=>obtain⟨g1,⟨hr1,hs1⟩,hs2⟩:=hsil;have hwd:kF A w:=(ba (P:=P) (A:=A) (Fin:=Fin) (Z:=Z) hZ).wd hE;exact sz hZ hC hw (.call (j+1) (by omega)) hd0 hg (hs1 true w hwd) hE.gr (aY rfl) (λe he=>by simp at he) (.inl ⟨j+1,.a0,n,g2,rfl,rfl,hs2,c0,rest,hA,hT⟩) sl
end
end Go.aN
