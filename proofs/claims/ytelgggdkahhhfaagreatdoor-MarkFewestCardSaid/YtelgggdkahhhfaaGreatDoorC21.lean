/- Part 21 of the proof. -/
import Derived.Test.YtelgggdkahhhfaaGreatDoorC20
set_option linter.all false
namespace Go.aZ
open Go.Conc
open Go.ConcN (sumTo upd sumTo_upd upd_ne upd_same)
variable {P:Program}
def MS.eD (s:MS P) (j:Nat) (x:aM P) (gc gv gm:Nat):MS P:={ s with w:=fun i=>if i=j then x else s.w i,gc:=gc,gv:=gv,gm:=gm }
section
variable {s:MS P} {j n:Nat} {x:aM P} {gc gv gm:Nat}
theorem aX:(s.eD j x gc gv gm).w j=x:=by simp[MS.eD]
theorem bX {i:Nat} (h:i≠j):(s.eD j x gc gv gm).w i=s.w i:=by simp[MS.eD,h]
theorem Gm:(fun i=>((s.eD j x gc gv gm).w i).pc)=Mu.set (fun i=>(s.w i).pc) j x.pc:=by
 funext i
 by_cases h:i=j
 . subst h;rw[aX,Mu.ao]
 . rw[bX h,Mu.ak _ _ h]
theorem wH (F:aM P->Nat) (hj:j<n):sumTo n (fun i=>F ((s.eD j x gc gv gm).w i))+F (s.w j)=sumTo n (fun i=>F (s.w i))+F x:=by
 have e:(fun i=>F ((s.eD j x gc gv gm).w i))=upd (fun i=>F (s.w i)) j (F x):=by
  funext i
  by_cases h:i=j
  . subst h;rw[aX,upd_same]
  . rw[bX h,upd_ne _ _ h]
 rw[e];have:=sumTo_upd (fun i=>F (s.w i)) (F x) id hj
 simpa using this
theorem bd.Kd (I:bd n s) (hj:j<n) {p:qk} (hw:s.w j = .dn p) (hxok:x.ok=true) (hxi:x.fS=false) (hxw:x ≠ .wait) (hxp:x.pc = .out)
 (h1:gc+(s.w j).cnt=s.gc+x.cnt) (h2:gv≤1) (h2':gv=1->s.c.waits=true∧gm=0)
 (h3:∀ i,i<n->((s.eD j x gc gv gm).w i = .dn .d5∨(s.eD j x gc gv gm).w i = .dn .d6)->gv=1∧gc=0)
 (h3':∀ i l,i<n->l<n->((s.eD j x gc gv gm).w i).last=true->((s.eD j x gc gv gm).w l).last=true->i=l)
 (h4:∀ i,i<n->(s.eD j x gc gv gm).w i = .dn .d7->gv=0∧gc=0∧gm=0∧s.c.waits=true)
 (h5:gm≤1∧(gm=1->s.c.waits=true∧gv=0∧gc=0∧∀ i,i<n->((s.eD j x gc gv gm).w i).last=false))
 (h6:s.c.waits=true->gv=0->gm=0->∃ i,i<n∧(s.eD j x gc gv gm).w i = .dn .d7)
 (h7:gv=1->gc=0->∃ i,i<n∧((s.eD j x gc gv gm).w i = .dn .d5∨(s.eD j x gc gv gm).w i = .dn .d6)):bd n (s.eD j x gc gv gm):=by
 refine⟨?_,h2,h2',h3,h3',h4,h5,h6,h7,fun h=>?_,I.g9,fun i hi=>?_,I.HV,I.sp,fun i hi=>?_,?_,fun h i hi=>?_,?_⟩
 . have hcnt:=wH (s:=s) (x:=x) (gc:=gc) (gv:=gv) (gm:=gm) aM.cnt hj
   have:=I.g1;show gc=sumTo n (fun i=>((s.eD j x gc gv gm).w i).cnt)+s.ms.pend
   omega
 . have:=(I.g8 h).2.2.2 j hj
   rw[hw] at this;cases this
 . by_cases e:i=j
   . subst e;rw[aX];exact hxok
   . rw[bX e];exact I.ok i hi
 . by_cases e:i=j
   . subst e
     rw[aX,hxi];have:=I.idle i hi;rw[hw] at this;exact this
   . rw[bX e];exact I.idle i hi
 . have:=I.ms
   show match s.ms with
   | .add l=>s.sp+l=n∧s.c = .none
   | .aS l p=>s.sp+l=n∧s.c = .none∧1≤l∧(p = .a0∨p = .a2∨p = .a4∨p = .ae)
   | .spawn l=>s.sp+l+1=n∧s.c = .none
   | .recv=>s.sp=n∧s.c ≠ .none
   | .parked=>s.sp=n∧s.c ≠ .none∧s.c ≠ .gone∧∀ i,i<n->(s.eD j x gc gv gm).w i ≠ .wait
   cases e:s.ms with
   | parked=>
     rw[e] at this;obtain⟨c1,c2,c3,c4⟩:=this;refine⟨c1,c2,c3,fun i hi=>?_⟩
     by_cases e:i=j
     . subst e;rw[aX];exact hxw
     . rw[bX e];exact c4 i hi
   | _=>rw[e] at this;exact this
 . have:=I.early h j hj
   rw[hw] at this;cases this
 . rw[Gm,hxp]
   have e:=jg (fun i=>(s.w i).pc) j
   rw[show (s.w j).pc = .out by rw[hw];rfl] at e
   rw[e];exact I.mu
inductive ve (s:MS P):qk->aM P->Nat->Nat->Nat->Prop
 | LN:s.gc=1->s.gv=1->ve s .d4 (.dn .d5) 0 1 s.gm
 | d4 (k:Nat):s.gc=k+1 -> ¬ (k=0∧s.gv=1)->ve s .d4 .gone k s.gv s.gm
 | d5:ve s .d5 (.dn .d6) s.gc s.gv s.gm
 | d6:ve s .d6 (.dn .d7) s.gc 0 s.gm
 | d7:ve s .d7 .gone s.gc s.gv (s.gm+1)
theorem bd.done (I:bd n s) (hj:j<n) {p:qk} (hw:s.w j = .dn p) (h:ve s p x gc gv gm):bd n (s.eD j x gc gv gm):=by
 have Dl:∀ {i:Nat},(s.w i).last=true->s.w i = .dn .d5∨s.w i = .dn .d6∨s.w i = .dn .d7:=fun {i} h=>by
  cases e:s.w i with
  | dn p=>cases p <;> simp_all [aM.last]
  | _=>rw[e] at h;simp[aM.last] at h
 have lastC:∀ {i:Nat},i<n->(s.w i).last=true->s.gc=0:=fun {i} hi h=>by
  rcases Dl h with h|h|h
  . exact (I.g3 i hi (.inl h)).2
  . exact (I.g3 i hi (.inr h)).2
  . exact (I.g4 i hi h).2.1
 cases h with
 | LN h1 h2=>
   refine I.Kd hj hw rfl rfl (by simp) rfl (by rw[hw,h1];rfl) (by omega) (fun _=>I.xK h2) (fun i hi h=>⟨rfl,rfl⟩) (fun i l hi hl h h'=>?_) (fun i hi h=>?_) ⟨I.g5.1,fun h=>?_⟩ (fun _ h=>by omega) (fun _ _=>⟨j,hj,.inl aX⟩)
   . by_cases e:i=j
     . by_cases e':l=j
       . rw[e,e']
       . rw[bX e'] at h';have:=lastC hl h';omega
     . rw[bX e] at h;have:=lastC hi h;omega
   . by_cases e:i=j
     . subst e;rw[aX] at h;cases h
     . rw[bX e] at h;have:=(I.g4 i hi h).2.1;omega
   . have:=(I.g5.2 h).2.1;omega
 | d4 k h1 h2=>
   refine I.Kd hj hw rfl rfl (by simp) rfl (by rw[hw,h1];rfl) I.g2 I.xK (fun i hi h=>?_) (fun i l hi hl h h'=>?_) (fun i hi h=>?_) ⟨I.g5.1,fun h=>?_⟩ (fun h h' h''=>?_) (fun h h'=>absurd ⟨h',h⟩ h2)
   . by_cases e:i=j
     . subst e;rw[aX] at h;rcases h with h|h <;> cases h
     . rw[bX e] at h;have:=(I.g3 i hi h).2;omega
   . by_cases e:i=j
     . subst e;rw[aX] at h;cases h
     . rw[bX e] at h;have:=lastC hi h;omega
   . by_cases e:i=j
     . subst e;rw[aX] at h;cases h
     . rw[bX e] at h;have:=(I.g4 i hi h).2.1;omega
   . have:=(I.g5.2 h).2.2.1;omega
   . obtain⟨i,hi,h3⟩:=I.g6 h h' h''
     have:=(I.g4 i hi h3).2.1;omega
 | d5=>
   obtain⟨v1,c0⟩:=I.g3 j hj (.inl hw);obtain⟨hwt,m0⟩:=I.xK v1
   have lastI:∀ {i:Nat},((s.eD j (.dn .d6) s.gc s.gv s.gm).w i).last=(s.w i).last:=fun {i}=>by
    by_cases e:i=j
    . subst e;rw[aX,hw];rfl
    . rw[bX e]
   refine I.Kd hj hw rfl rfl (by simp) rfl (by rw[hw];rfl) I.g2 I.xK (fun i hi h=>⟨v1,c0⟩) (fun i l hi hl h h'=>?_) (fun i hi h=>?_) ⟨I.g5.1,fun h=>?_⟩ (fun h h'=>by omega) (fun _ _=>⟨j,hj,.inr aX⟩)
   . rw[lastI] at h h';exact I.xL i l hi hl h h'
   . by_cases e:i=j
     . subst e;rw[aX] at h;cases h
     . rw[bX e] at h;exact I.g4 i hi h
   . omega
 | d6=>
   obtain⟨v1,c0⟩:=I.g3 j hj (.inr hw);obtain⟨hwt,m0⟩:=I.xK v1;have hl:(s.w j).last=true:=by rw[hw];rfl
   have lastI:∀ {i:Nat},((s.eD j (.dn .d7) s.gc 0 s.gm).w i).last=(s.w i).last:=fun {i}=>by
    by_cases e:i=j
    . subst e;rw[aX,hw];rfl
    . rw[bX e]
   refine I.Kd hj hw rfl rfl (by simp) rfl (by rw[hw];rfl) (by omega) (fun h=>by omega) (fun i hi h=>?_) (fun i l hi hl h h'=>?_) (fun i hi h=>⟨rfl,c0,m0,hwt⟩) ⟨I.g5.1,fun h=>by omega⟩ (fun _ _ _=>⟨j,hj,aX⟩) (fun h=>by omega)
   . by_cases e:i=j
     . subst e;rw[aX] at h;rcases h with h|h <;> cases h
     . rw[bX e] at h
       have hli:(s.w i).last=true:=by rcases h with h|h <;> rw[h] <;> rfl
       exact absurd (I.xL i j hi hj hli hl) e
   . rw[lastI] at h h';exact I.xL i l hi hl h h'
 | d7=>
   obtain⟨v0,c0,m0,hwt⟩:=I.g4 j hj hw;have hl:(s.w j).last=true:=by rw[hw];rfl
   have lastN:∀ {i:Nat},i<n->((s.eD j .gone s.gc s.gv (s.gm+1)).w i).last=false:=fun {i} hi=>by
    by_cases e:i=j
    . subst e;rw[aX];rfl
    . rw[bX e]
      cases e':(s.w i).last with
      | false=>rfl
      | true=>exact absurd (I.xL i j hi hj e' hl) e
   refine I.Kd hj hw rfl rfl (by simp) rfl (by rw[hw];rfl) I.g2 (fun h=>by omega) (fun i hi h=>?_) (fun i l hi hl h h'=>?_) (fun i hi h=>?_) ⟨by omega,fun h=>⟨hwt,v0,c0,fun i hi=>lastN hi⟩⟩ (fun _ _ h=>by omega) (fun h=>by omega)
   . have:=lastN hi
     rcases h with h|h <;> rw[h] at this <;> cases this
   . rw[lastN hi] at h;cases h
   . have:=lastN hi
     rw[h] at this;cases this
theorem gl.H5 (c:gl) (a b:Nat):c.bw a≤c.bw b+2:=by
 cases c with
 | wt p=>
   cases p with
   | w2 k=>simp only[gl.bw];split <;> split <;> omega
   | _=>simp[gl.bw]
 | _=>simp[gl.bw]
theorem AF (hj:j<n) {p:qk} (hw:s.w j = .dn p) (h:ve s p x gc gv gm):MS.dR n (s.eD j x gc gv gm) s:=by
 have hs:=wH (s:=s) (x:=x) (gc:=gc) (gv:=gv) (gm:=gm) aM.bw hj;refine .inl ?_;show s.ms.bw+sumTo n (fun i=>((s.eD j x gc gv gm).w i).bw)+s.c.bw gc<s.ms.bw+sumTo n (fun i=>(s.w i).bw)+s.c.bw s.gc
 rw[hw] at hs;have:=gl.H5 s.c gc s.gc;cases h with
 | LN h1 h2=>have e1:(aM.dn (P:=P) .d4).bw=10:=rfl;have e2:(aM.dn (P:=P) .d5).bw=4:=rfl;omega
 | d4 k h1 h2=>have e1:(aM.dn (P:=P) .d4).bw=10:=rfl;have e2:(aM.gone (P:=P)).bw=0:=rfl;omega
 | d5=>have e1:(aM.dn (P:=P) .d5).bw=4:=rfl;have e2:(aM.dn (P:=P) .d6).bw=3:=rfl;omega
 | d6=>have e1:(aM.dn (P:=P) .d6).bw=3:=rfl;have e2:(aM.dn (P:=P) .d7).bw=2:=rfl;omega
 | d7=>have e1:(aM.dn (P:=P) .d7).bw=2:=rfl;have e2:(aM.gone (P:=P)).bw=0:=rfl;omega
end
end Go.aZ
namespace Go.aZ
open Go.Conc
open Go.ConcN (sumTo upd sumTo_upd upd_ne upd_same)
theorem rx {e:Event} (h:MemAct.ofEvent e = .mark .enable):e.loc = .mark .enable:=by
 obtain⟨loc,wr,sy⟩:=e;cases loc with
 | mark m=>cases m <;> simp_all [MemAct.ofEvent]
 | cell ad=>simp[MemAct.ofEvent] at h
 | obj r=>cases wr <;> cases sy <;> simp[MemAct.ofEvent] at h
 | _=>simp[MemAct.ofEvent] at h
theorem jC {i:Nat} {fn:FuncId} {pos:String} {es:Array Event} (h:∀ e∈es,e.loc ≠ .mark .enable):∀ (m:Nat) (op:MemOp) (a:Touch),(MemOp.ofEvents i fn pos es)[m]? = some op->op.act.touch? = some a->∀ (l:Nat) (op':MemOp),l<m->(MemOp.ofEvents i fn pos es)[l]? = some op'->op'.act ≠ .mark .enable:=fun m op a _ _ l op' _ h2 hh=>by
 obtain⟨e,he,rfl⟩:=Go.Conc.mem_ofEvents (Array.mem_of_getElem? h2);exact h e he (rx hh)
theorem AG {i:Nat} {fn:FuncId} {pos:String} {ad:Addr}:∀ (m:Nat) (op:MemOp) (a:Touch),(MemOp.ofEvents i fn pos (semEvents ad))[m]? = some op->op.act.touch? = some a->∀ (l:Nat) (op':MemOp),l<m->(MemOp.ofEvents i fn pos (semEvents ad))[l]? = some op'->op'.act ≠ .mark .enable:=fun m op a h1 h2 l op' hl h3=>by
 rw[ofEvents_eq] at h1 h3;simp only[semEvents] at h1 h3
 match m,l,hl with
 | 0,l,hl=>omega
 | 1,0,_=>simp at h3;subst h3;simp[MemAct.ofEvent]
 | 2,0,_=>simp at h3;subst h3;simp[MemAct.ofEvent]
 | 2,1,_=>simp at h3;subst h3;simp[MemAct.ofEvent]
 | 3,l,_=>simp at h1;subst h1;simp[MemAct.ofEvent,MemAct.touch?] at h2
 | m+4,l,_=>simp at h1
theorem kH:∀ (n:Nat) {F:Nat->Nat},(∀ l,l<n->F l≤1)->sumTo n F≤n
 | 0,_,_=>Nat.le_refl _
 | n+1,F,h=>by
   have h1:=kH n (F:=F) (fun l hl=>h l (by omega))
   have h2:=h n (by omega)
   simp only[sumTo];omega
section
variable {P:Program} {A:cC} {Fin:ag->ah->Goroutine->Prop} {Z:Base} {s:MS P} {f:Nat->Node P} {q:Nat->Nat} {kk:Nat->ag} {OO:Nat->ah} {J M:Nat->Prop} {gs:Array Goroutine} {w w':World} {t u:Trace} {j:Nat} {x:aM P} {gc gv gm:Nat} {g g1:Goroutine}
theorem yq {p:qk} (h:ve s p x gc gv gm):x.ez=true∧x.owns=false∧x.busy=false∧(aM.dn (P:=P) p).busy=false∧(aM.dn (P:=P) p).deaf=1∧(x = .gone∨∃ p',x = .dn p'∧x.deaf=1):=by
 cases h <;> simp[aM.ez,aM.owns,aM.busy,aM.deaf]
theorem nL (hZ:A.b+A.n+1≤Z.lk) (hC:aW (bn P A Fin Z hZ) Z s f q kk OO J M gs w t) (hj:j<A.n) {p:qk} (hw:s.w j = .dn p) (hg:gs[A.b+j]? = some g) {es:Array Event} (hst:stepG P false g w = .go g1 w' es) (hD:ve s p x gc gv gm)
 (hgr:mr A.gb w' gc gv gm) (hmw:MW A.gb 0 w w') (hev:EvM A.gb 0 es) (hes:deafBehind 1 es=1)
 (ha:∀ (m:Nat) (op:MemOp) (a:Touch),(MemOp.ofEvents (A.b+j) g.frame.fn g.frame.place es)[m]? = some op->op.act.touch? = some a->∀ (l:Nat) (op':MemOp),l<m->(MemOp.ofEvents (A.b+j) g.frame.fn g.frame.place es)[l]? = some op'->op'.act ≠ .mark .enable)
 (hdry:(s.gm=0->gm=0)∨(mayWake P g=true∧(g1.status = .running∨g1.status = .finished)))
 (hs:(∃ p',x = .dn p'∧∃ n g2,gZ P (iV A) n g1 g2∧Az P A j (.dn p') (kk (A.b+j)) (OO (A.b+j)) g2)∨(x = .gone∧∃ m,QuitsD P m 1 g1)) (sl:Option (Nat × Nat)):Goes P A Fin Z hZ s gs w t sl (A.b+j):=by
 have hE:bO P A Z s kk OO J M gs.size w t:=hC.ex;have hb:=A.hb;have hi0:(A.b+j == 0)=false:=by simp;omega
 obtain⟨f1,f2,f3,f4,f5,f6⟩:=yq hD;have hwk:=jB (P:=P) (A:=A) (s:=s) hj hw
 have hd1:Deaf t (A.b+j)=1:=by
  obtain⟨_,_,hd0,_⟩:=hC.walk _ hwk;rw[hd0];show bF P A s (A.b+j)=1;rw[cN hj,hw];exact f5
 have hsx:(s.eD j x gc gv gm).w j=x:=aX
 have hbusy:∀ l,((s.eD j x gc gv gm).w l).busy=(s.w l).busy:=fun l=>by
  by_cases e:l=j
  . subst e;rw[aX,hw,f3,f4]
  . rw[bX e]
 have hS:cW A s (s.eD j x gc gv gm) (A.b+j):=⟨fun l _ hl=>bX (by omega),fun _=>rfl,fun _=>rfl,rfl,fun l _=>by
  by_cases e:l=j
  . subst e;rw[aX,hw,f1];rfl
  . rw[bX e]⟩
 have hI:=hE.I.done hj hw hD;have hL:=AF hj hw hD;have hde:∀ fn pos,Deaf (t ++ MemOp.ofEvents (A.b+j) fn pos es) (A.b+j)=1:=fun fn pos=>by rw[Deaf_own,hd1];exact hes
 have go:∀ (qn:Nat),Self P (bn P A Fin Z hZ) (s.eD j x gc gv gm) f (upd q (A.b+j) qn) kk OO J (t ++ MemOp.ofEvents (A.b+j) g.frame.fn g.frame.place es) (A.b+j) g1->Goes P A Fin Z hZ s gs w t sl (A.b+j):=fun qn hself=>
  vd hZ hC (eM hE.I hj (by rw[hw];rfl)) (lD hj hw) hg (by rw[hi0];exact hst) hS (fun l _=>by
   by_cases e:l=j
   . subst e;rw[aX,hw,f2];rfl
   . rw[bX e]) rfl rfl id (fun i=>by unfold dk;simp only[hbusy];rfl) hI rfl hgr hmw (.inl hev) hL (.inr ⟨hev,yp (by omega) ha⟩) hdry (fun _ _=>rfl) (fun i hi=>upd_ne q qn hi) hself sl
 rcases hs with ⟨p',rfl,n,g2,hsil,hat⟩|⟨rfl,m,hq⟩
 . refine go n ⟨fun hl=>absurd hl (ii hj hsx),fun _=>⟨ii hj hsx,?_,?_,g2,?_,?_⟩,fun hh=>absurd hh (lD hj hsx),fun _ hn _=>absurd (jB hj hsx) hn⟩
   . show A.b+j<A.b+A.n+1;omega
   . rw[hde]
     show 1=bF P A (s.eD j (.dn p') gc gv gm) (A.b+j);rw[cN hj,hsx]
     rcases f6 with f6|⟨p2,e,f6⟩
     . cases f6
     . exact f6.symm
   . exact .inr (.inl ⟨j,hj,rfl,by rw[hsx];exact hat⟩)
   . exact .inr (by rw[upd_same];exact hsil)
 . have nl : ¬ bW P A (s.eD j .gone gc gv gm) (A.b+j):=by
    rintro (⟨e,_⟩|⟨l,h1,h2,h3⟩|⟨e,_⟩)
    . omega
    . obtain rfl:l=j:=by omega
      rw[hsx] at h3;exact h3
    . omega
   have nw : ¬ di P A (s.eD j .gone gc gv gm) (A.b+j):=by
    rintro (⟨e,_⟩|⟨l,h1,h2,h3⟩|⟨e,_⟩)
    . omega
    . obtain rfl:l=j:=by omega
      rw[hsx] at h3;exact h3
    . omega
   have nh : ¬ cL P A (s.eD j .gone gc gv gm) (A.b+j):=by
    rintro (⟨e,_⟩|⟨l,h1,h2,h3⟩)
    . omega
    . obtain rfl:l=j:=by omega
      rw[hsx] at h3;cases h3
   exact go m ⟨fun h=>absurd h nl,fun h=>absurd h nw,fun h=>absurd h nh,fun _ _ _=>⟨by omega,by rw[upd_same,hde];exact hq⟩⟩
variable (C:gk P A.ng) (X:iD P A.ng)
theorem Gn {n:Ce} {b:Nat} {kind:CallKind} {cs:List Frame} {g:Goroutine} (C:gk P n) (X:iD P n) (h:mw P n b kind .d7 cs g):mayWake P g=true:=by
 obtain⟨c,y,fr,frs,⟨rfl,hc⟩,hy,hr,hrs,rfl⟩:=h;have hfl:=yi (y:=y) (a:=true) (by simpa using hc)
 obtain⟨p1,p2⟩:=C.d9 b (Fl.of y);rw[hfl] at p1 p2;exact u' hr p1 X.kC
include C X in
theorem Gp (hZ:A.b+A.n+1≤Z.lk) (hC:aW (bn P A Fin Z hZ) Z s f q kk OO J M gs w t) (hj:j<A.n) {p:qk} (hw:s.w j = .dn p) (hg:gs[A.b+j]? = some g) (hat:Az P A j (.dn p) (kk (A.b+j)) (OO (A.b+j)) g) (sl:Option (Nat × Nat)):Goes P A Fin Z hZ s gs w t sl (A.b+j):=by
 have hE:bO P A Z s kk OO J M gs.size w t:=hC.ex;have hok:=hE.I.ok j hj;rw[hw] at hok;have hat0:=hat;obtain⟨fw,fn,tmps,todo,hfn,hres,hM⟩:=hat;have hgr:=hE.gr;have hn:=A.hn;have nx:∀ {p' g1},eI P A.ng A.gb .deferred (iV A) p' [iw P fw tmps todo,bI P] g1->∃ n g2,gZ P (iV A) n g1 g2∧Az P A j (.dn p') (kk (A.b+j)) (OO (A.b+j)) g2:=fun ⟨_,g2,⟨n,hs⟩,hA⟩=>⟨n,g2,hs,fw,fn,tmps,todo,hfn,hres,hA⟩
 have cell:∀ (i:Nat),(i=0∨i=1)->∀ wr,EvM A.gb 0 #[⟨.cell ⟨A.gb,i,none⟩,wr,true⟩]:=fun i hi wr e he=>by simp at he;subst he;exact .inr ⟨i,by simpa using hi,rfl,rfl⟩
 have cell2:EvM A.gb 0 #[⟨.cell ⟨A.gb,0,none⟩,false,true⟩,⟨.cell ⟨A.gb,0,none⟩,true,true⟩]:=fun e he=>by
  simp at he;rcases he with rfl|rfl <;> exact .inr ⟨0,.inl rfl,rfl,rfl⟩
 have semE:EvM A.gb 0 (semEvents ⟨A.gb,1,none⟩):=fun e he=>by
  simp[semEvents] at he
  rcases he with rfl|rfl|rfl|rfl
  . exact .inl (.inl rfl)
  . exact .inr ⟨1,.inr rfl,rfl,rfl⟩
  . exact .inr ⟨1,.inr rfl,rfl,rfl⟩
  . exact .inl (.inr rfl)
 have hcnt:∀ l,l<A.n->(s.w l).cnt≤1:=fun l _=>by
  cases e:s.w l with
  | dn p=>cases p <;> simp[aM.cnt]
  | _=>simp[aM.cnt]
 cases p <;> simp only[aM.ok,Bool.false_eq_true] at hok
 case d1=>exact Gl C X hZ hC hj hw hg hat0 sl
 case d2=>exact Gk C X hZ hC hj hw hg hat0 sl
 case d4=>
  have hc1:1≤s.gc:=by
   have h1:=hE.I.g1;have:(s.w j).cnt≤sumTo A.n (fun j=>(s.w j).cnt):=Go.ConcN.le_sumTo (f:=fun j=>(s.w j).cnt) hj
   rw[hw] at this;have e:(aM.dn (P:=P) .d4).cnt=1:=rfl;omega
  have hc2:s.gc≤A.n+1:=by
   have h1:=hE.I.g1;have h2:sumTo A.n (fun j=>(s.w j).cnt)≤A.n:=kH A.n hcnt
   have h3:s.ms.pend≤1:=by cases s.ms <;> simp[kX.pend];split <;> omega
   omega
  obtain⟨k,hk⟩:∃ k,s.gc=k+1:=⟨s.gc-1,by omega⟩
  have hgr':=hgr;rw[hk] at hgr';obtain⟨g1,w',hst,rfl,hgr2,hcase⟩:=Lx (Wd:=iV A) (main:=false) C X hfn hres hgr' (by omega) hE.I.g2 hM
  have hmw:MW A.gb 0 w (w.setCell ⟨A.gb,0,none⟩ (.int .u64 (cE k s.gv))):=⟨⟨.refl _,rfl⟩,.inr ⟨0,_,.inl rfl,rfl,rfl⟩⟩
  rcases hcase with ⟨hk0,hv,hN⟩|⟨hno,hG⟩
  . subst hk0
    rw[hv] at hgr2 hst hmw;exact nL hZ hC hj hw hg hst (.LN hk hv) hgr2 hmw cell2 rfl (jC (fun e he=>by simp at he;rcases he with rfl|rfl <;> simp)) (.inl id) (.inl ⟨_,rfl,nx hN⟩) sl
  . exact nL hZ hC hj hw hg hst (.d4 k hk hno) hgr2 hmw cell2 rfl (jC (fun e he=>by simp at he;rcases he with rfl|rfl <;> simp)) (.inl id) (.inr ⟨rfl,hG⟩) sl
 case d5=>
  obtain⟨v1,c0⟩:=hE.I.g3 j hj (.inl hw);have hgr':=hgr;rw[v1,c0] at hgr';obtain⟨g1,hst,hN⟩:=Ly (Wd:=iV A) (main:=false) C X hgr' hM;exact nL hZ hC hj hw hg hst .d5 hgr (aI rfl) (cell 0 (.inl rfl) false) rfl (jC (fun e he=>by simp at he;subst he;simp)) (.inl id) (.inl ⟨_,rfl,nx hN⟩) sl
 case d6=>
  obtain⟨v1,c0⟩:=hE.I.g3 j hj (.inr hw);have hgr':=hgr;rw[v1,c0] at hgr';obtain⟨g1,w',hst,rfl,hgr2,hN⟩:=Lz (Wd:=iV A) (main:=false) C X hgr' hM;exact nL hZ hC hj hw hg hst .d6 (by rw[c0];exact hgr2) (⟨⟨.refl _,rfl⟩,.inr ⟨0,_,.inl rfl,rfl,rfl⟩⟩) (cell 0 (.inl rfl) true) rfl (jC (fun e he=>by simp at he;subst he;simp)) (.inl id) (.inl ⟨_,rfl,nx hN⟩) sl
 case d7=>
  obtain⟨v0,c0,m0,hwt⟩:=hE.I.g4 j hj hw;have hgr':=hgr;rw[v0,c0] at hgr';have hgm:=hE.I.g5.1;obtain⟨g1,w',hst,rfl,hgr2,hG⟩:=LA (Wd:=iV A) (main:=false) C X hfn hres hgr' (by omega) hM
  obtain⟨m,hq⟩:=hG;have hrun:g1.status = .running∨g1.status = .finished:=by rcases hq.status with h|h <;> simp[h]
  exact nL hZ hC hj hw hg hst .d7 (by rw[c0,v0];exact hgr2) (⟨⟨.refl _,rfl⟩,.inr ⟨1,_,.inr rfl,rfl,rfl⟩⟩) semE rfl AG (.inr ⟨Gn C X hM,hrun⟩) (.inr ⟨rfl,m,hq⟩) sl
end
end Go.aZ
namespace Go.aZ
open Go.Conc
open Go.ConcN (sumTo upd sumTo_upd upd_ne upd_same)
variable {P:Program}
def MS.oW (s:MS P) (c:gl) (gv gm:Nat):MS P:={ s with c:=c,gv:=gv,gm:=gm }
section
variable {s:MS P} {n:Nat} {c:gl} {gv gm:Nat}
theorem Dl {x:aM P} (h:x.last=true):x = .dn .d5∨x = .dn .d6∨x = .dn .d7:=by
 cases x with
 | dn p=>cases p <;> simp_all [aM.last]
 | _=>simp[aM.last] at h
theorem bd.calm (I:bd n s) (h:s.c.waits=false):s.gv=0∧s.gm=0∧∀ j,j<n->(s.w j).last=false:=by
 have hv:s.gv=0:=by
  have:=I.g2
  by_cases e:s.gv=1
  . have:=(I.xK e).1;rw[h] at this;cases this
  . omega
 refine⟨hv,?_,fun j hj=>?_⟩
 . have:=I.g5.1
   by_cases e:s.gm=1
   . have:=(I.g5.2 e).1;rw[h] at this;cases this
   . omega
 . cases e:(s.w j).last with
   | false=>rfl
   | true=>
     rcases Dl e with e|e|e
     . have:=(I.g3 j hj (.inl e)).1;omega
     . have:=(I.g3 j hj (.inr e)).1;omega
     . have:=(I.g4 j hj e).2.2.2;rw[h] at this;cases this
theorem bd.Ke (I:bd n s) (h:s.c ≠ .none):s.sp=n:=by
 have:=I.ms;cases e:s.ms <;> rw[e] at this <;> first|exact this.1|exact absurd this.2 h|exact absurd this.2.1 h
theorem bd.wI (I:bd n s) (h:s.c ≠ .none) (h0:s.gc=0) (hl:∀ j,j<n->(s.w j).last=false):∀ j,j<n->s.w j = .gone:=fun j hj=>by
 have h1:=I.g1;have h2:(s.w j).cnt≤sumTo n (fun j=>(s.w j).cnt):=Go.ConcN.le_sumTo (f:=fun j=>(s.w j).cnt) hj
 have h3:=I.idle j hj;rw[I.Ke h] at h3;have h4:=hl j hj;have h5:=I.ok j hj;have h6:(s.w j).cnt=0:=by omega
 cases e:s.w j with
 | idle=>rw[e] at h3;have:=h3.1 rfl;omega
 | dn p=>rw[e] at h4 h5 h6;cases p <;> simp_all [aM.last,aM.ok,aM.cnt]
 | gone=>rfl
 | _=>rw[e] at h6;simp[aM.cnt] at h6
inductive mY (s:MS P):gl->gl->Nat->Nat->Prop
 | call:mY s .cT (.wt .w0) s.gv s.gm
 | w0:mY s (.wt .w0) (.wt .w1) s.gv s.gm
 | MY:s.gc=0->mY s (.wt .w1) (.wt .we) s.gv s.gm
 | w1:s.gc≠0->mY s (.wt .w1) (.wt (.w2 s.gc)) s.gv s.gm
 | MZ:mY s (.wt (.w2 s.gc)) (.wt .w3) 1 s.gm
 | LO (k:Nat):s.gc≠k->mY s (.wt (.w2 k)) (.wt .w1) s.gv s.gm
 | w3:mY s (.wt .w3) (.wt .w4) s.gv s.gm
 | w4:s.gm≠0->mY s (.wt .w4) (.wt .w5) s.gv (s.gm-1)
 | w5:mY s (.wt .w5) (.wt .we) s.gv s.gm
 | we:mY s (.wt .we) (.wt .wa) s.gv s.gm
 | wa:mY s (.wt .wa) .ia s.gv s.gm
theorem bd.Gq (I:bd n s) (hn:s.c ≠ .none) (hn':c ≠ .none) (hg':c ≠ .gone) (hok:c.ok=true) (h2:gv≤1) (h2':gv=1->c.waits=true∧gm=0)
 (h3:∀ j,j<n->(s.w j = .dn .d5∨s.w j = .dn .d6)->gv=1∧s.gc=0) (h4:∀ j,j<n->s.w j = .dn .d7->gv=0∧s.gc=0∧gm=0∧c.waits=true)
 (h5:gm≤1∧(gm=1->c.waits=true∧gv=0∧s.gc=0∧∀ j,j<n->(s.w j).last=false)) (h6:c.waits=true->gv=0->gm=0->∃ j,j<n∧s.w j = .dn .d7)
 (h7:gv=1->s.gc=0->∃ j,j<n∧(s.w j = .dn .d5∨s.w j = .dn .d6)) (h8:c.Da=true->s.gc=0∧gv=0∧gm=0∧∀ j,j<n->s.w j = .gone) (h9:∀ k,c = .wt (.w2 k)->k≠0):bd n (s.oW c gv gm):=by
 refine⟨I.g1,h2,h2',h3,I.xL,h4,h5,h6,h7,h8,h9,I.ok,hok,I.sp,I.idle,?_,fun h=>absurd h hn',I.mu⟩
 have:=I.ms
 show match s.ms with
  | .add l=>s.sp+l=n∧c = .none
  | .aS l p=>s.sp+l=n∧c = .none∧1≤l∧(p = .a0∨p = .a2∨p = .a4∨p = .ae)
  | .spawn l=>s.sp+l+1=n∧c = .none
  | .recv=>s.sp=n∧c ≠ .none
  | .parked=>s.sp=n∧c ≠ .none∧c ≠ .gone∧∀ i,i<n->s.w i ≠ .wait
 cases e:s.ms with
 | add l=>rw[e] at this;exact absurd this.2 hn
 | aS l p=>rw[e] at this;exact absurd this.2.1 hn
 | spawn l=>rw[e] at this;exact absurd this.2 hn
 | recv=>rw[e] at this;exact⟨this.1,hn'⟩
 | parked=>rw[e] at this;exact⟨this.1,hn',hg',this.2.2.2⟩
theorem bd.M0 (I:bd n s) {c0:gl} (hc:s.c=c0) (h:mY s c0 c gv gm):bd n (s.oW c gv gm):=by
 have calm:c0.waits=false->c.waits=false->c0 ≠ .none->c ≠ .none->c ≠ .gone->c.ok=true->gv=s.gv->gm=s.gm->(c.Da=true->s.gc=0)->(∀ k,c = .wt (.w2 k)->k≠0)->bd n (s.oW c gv gm):=by
  intro k1 k2 k3 k4 k5 k6 k7 k8 k9 k10;subst k7 k8;obtain⟨v0,m0,hl⟩:=I.calm (by rw[hc];exact k1)
  have hn:s.c ≠ .none:=by rw[hc];exact k3
  refine I.Gq hn k4 k5 k6 I.g2 (fun h=>by omega) I.g3 (fun j hj h=>?_) ⟨by omega,fun h=>by omega⟩ (fun h=>by rw[k2] at h;cases h) I.g7 (fun h=>⟨k9 h,v0,m0,I.wI hn (k9 h) hl⟩) k10
  have:=hl j hj;rw[h] at this;cases this
 have g8:c0.Da=true->s.gc=0:=fun h=>(I.g8 (by rw[hc];exact h)).1
 cases h with
 | call=>exact calm rfl rfl (by simp) (by simp) (by simp) rfl rfl rfl (fun h=>by cases h) (fun k h=>by cases h)
 | w0=>exact calm rfl rfl (by simp) (by simp) (by simp) rfl rfl rfl (fun h=>by cases h) (fun k h=>by cases h)
 | MY h0=>exact calm rfl rfl (by simp) (by simp) (by simp) rfl rfl rfl (fun _=>h0) (fun k h=>by cases h)
 | w1 h0=>exact calm rfl rfl (by simp) (by simp) (by simp) rfl rfl rfl (fun h=>by cases h) (fun k h=>by cases h;exact h0)
 | LO k h0=>exact calm rfl rfl (by simp) (by simp) (by simp) rfl rfl rfl (fun h=>by cases h) (fun k h=>by cases h)
 | w5=>exact calm rfl rfl (by simp) (by simp) (by simp) rfl rfl rfl (fun _=>g8 rfl) (fun k h=>by cases h)
 | we=>exact calm rfl rfl (by simp) (by simp) (by simp) rfl rfl rfl (fun _=>g8 rfl) (fun k h=>by cases h)
 | wa=>exact calm rfl rfl (by simp) (by simp) (by simp) rfl rfl rfl (fun _=>g8 rfl) (fun k h=>by cases h)
 | MZ=>
   obtain⟨v0,m0,hl⟩:=I.calm (by rw[hc];rfl)
   have h9:=I.g9 s.gc hc;refine I.Gq (by rw[hc];simp) (by simp) (by simp) rfl (by omega) (fun _=>⟨rfl,m0⟩) (fun j hj h=>?_) (fun j hj h=>?_) ⟨by omega,fun h=>by omega⟩ (fun _ h=>by omega) (fun _ h=>absurd h h9) (fun h=>by cases h) (fun k h=>by cases h)
   . have:=(I.g3 j hj h).1;omega
   . have:=hl j hj;rw[h] at this;cases this
 | w3=>
   have hw:s.c.waits=true:=by rw[hc];rfl
   refine I.Gq (by rw[hc];simp) (by simp) (by simp) rfl I.g2 (fun h=>⟨rfl,(I.xK h).2⟩) I.g3 (fun j hj h=>?_) ⟨I.g5.1,fun h=>⟨rfl,(I.g5.2 h).2⟩⟩ (fun _=>I.g6 hw) I.g7 (fun h=>by cases h) (fun k h=>by cases h)
   have:=I.g4 j hj h;exact⟨this.1,this.2.1,this.2.2.1,rfl⟩
 | w4 h0=>
   have hm1:s.gm=1:=by have:=I.g5.1;omega
   obtain⟨hwt,v0,c0',hl⟩:=I.g5.2 hm1;have hn:s.c ≠ .none:=by rw[hc];simp
   refine I.Gq hn (by simp) (by simp) rfl I.g2 (fun h=>by omega) I.g3 (fun j hj h=>?_) ⟨by omega,fun h=>by omega⟩ (fun h=>by cases h) I.g7 (fun _=>⟨c0',v0,by omega,I.wI hn c0' hl⟩) (fun k h=>by cases h)
   have:=hl j hj;rw[h] at this;cases this
theorem wJ {c0:gl} (hc:s.c=c0) (h:mY s c0 c gv gm):MS.dR n (s.oW c gv gm) s:=by
 refine .inl ?_;show s.ms.bw+sumTo n (fun i=>(s.w i).bw)+c.bw s.gc<s.ms.bw+sumTo n (fun i=>(s.w i).bw)+s.c.bw s.gc
 rw[hc]
 have:c.bw s.gc<c0.bw s.gc:=by
  cases h with
  | LO k h0=>simp only[gl.bw];rw[if_neg h0];omega
  | _=>simp[gl.bw]
 omega
end
end Go.aZ
namespace Go.aZ
open Go.Conc
open Go.ConcN (sumTo upd sumTo_upd upd_ne upd_same)
section
variable {P:Program} {A:cC} {Fin:ag->ah->Goroutine->Prop} {Z:Base} {s:MS P} {f:Nat->Node P} {q:Nat->Nat} {kk:Nat->ag} {OO:Nat->ah} {J M:Nat->Prop} {gs:Array Goroutine} {w w':World} {t u:Trace} {c:gl} {p:qk} {gv gm:Nat} {g g1:Goroutine}
theorem vf (e:s.c = .wt p):di P A s (A.b+A.n):=.inr (.inr ⟨rfl,by rw[e];trivial⟩)
theorem zM (e:s.c = .wt p) : ¬ bW P A s (A.b+A.n):=by
 have:=A.hb
 rintro (⟨e,_⟩|⟨l,h1,h2,h3⟩|⟨_,h3⟩)
 . omega
 . omega
 . rw[e] at h3;exact h3
theorem nM : ¬ cL P A s (A.b+A.n):=by
 have:=A.hb
 rintro (⟨e,_⟩|⟨l,h1,h2,h3⟩) <;> omega
theorem vg (e:s.c = .wt p):bF P A s (A.b+A.n)=pM p:=by
 have:=A.hb;unfold bF;rw[if_neg (by omega),if_neg (by omega),e]
theorem zN (h:s.c ≠ .none):be P A s (A.b+A.n):=.inr (.inr ⟨rfl,h⟩)
theorem AH {c0:gl} (h:mY s c0 c gv gm):c0.cG=false∧c.cG=false∧c0.isNone=false∧c.isNone=false∧c0.busy=true∧c.busy=true:=by
 cases h <;> simp[gl.cG,gl.isNone,gl.busy]
theorem Dm:cW A s (s.oW c gv gm) (A.b+A.n):=⟨fun _ _ _=>rfl,fun h=>absurd rfl h,fun _=>rfl,rfl,fun _ _=>rfl⟩
theorem jO (hZ:A.b+A.n+1≤Z.lk) (hC:aW (bn P A Fin Z hZ) Z s f q kk OO J M gs w t) {c0:gl} (hc:s.c=c0) (hD:mY s c0 (.wt p) gv gm) {d:Nat} (hd:Deaf t (A.b+A.n)=d) (hg:gs[A.b+A.n]? = some g) {es:Array Event} (hst:stepG P false g w = .go g1 w' es)
 (hgr:mr A.gb w' s.gc gv gm) (hmw:MW A.gb 0 w w') (hev:H3 A.gb es) (hes:deafBehind d es=pM p) (hdry:s.gm=0->gm=0)
 (hs:∃ n g2,gZ P (iV A) n g1 g2∧J0 P A (.wt p) (kk (A.b+A.n)) (OO (A.b+A.n)) g2) (sl:Option (Nat × Nat)):Goes P A Fin Z hZ s gs w t sl (A.b+A.n):=by
 have hE:bO P A Z s kk OO J M gs.size w t:=hC.ex;have hb:=A.hb;have hi0:(A.b+A.n == 0)=false:=by simp;omega
 obtain⟨f1,f2,f3,f4,f5,f6⟩:=AH hD;have hn:s.c.isNone=false:=by rw[hc];exact f3
 have hnn:s.c ≠ .none:=fun e=>by rw[e] at hn;cases hn
 obtain⟨n,g2,hsil,hat⟩:=hs;have hcs:(s.oW (.wt p) gv gm).c = .wt p:=rfl;have hJ:J (A.b+A.n):=(hE.hJ _).2 (.inr ⟨rfl,by rw[hc];exact f5⟩)
 refine vd (s':=s.oW (.wt p) gv gm) (f':=f) (q':=upd q (A.b+A.n) n) hZ hC (zN hnn) nM hg (by rw[hi0];exact hst) Dm (fun _ _=>rfl) (by rw[hc,f1];rfl) (by rw[hc,f3];rfl) (fun _ => .inr (.inr ⟨p,rfl⟩)) (fun i=>?_) (hE.I.M0 hc hD) rfl hgr hmw (.inr ⟨hev,by rw[hn];rfl⟩) (wJ hc hD) (.inl (.inr hJ)) (.inl hdry) (fun _ _=>rfl) (fun i hi=>upd_ne q n hi) ?_ sl
 . unfold dk
   rw[hc,f5];rfl
 . refine⟨fun hl=>absurd hl (zM hcs),fun _=>⟨zM hcs,?_,?_,g2,?_,?_⟩,fun hh=>absurd hh nM,fun _ hn _=>absurd (vf hcs) hn⟩
   . show A.b+A.n<A.b+A.n+1;omega
   . rw[Deaf_own,hd,hes]
     show _=bF P A (s.oW (.wt p) gv gm) (A.b+A.n);rw[vg hcs]
   . exact .inr (.inr ⟨rfl,hat⟩)
   . exact .inr (by rw[upd_same];exact hsil)
variable (C:gk P A.ng) (X:iD P A.ng)
include C X in
theorem Gr (hZ:A.b+A.n+1≤Z.lk) (hC:aW (bn P A Fin Z hZ) Z s f q kk OO J M gs w t) (hw:s.c = .wt p) (hwa:p ≠ .wa) (hg:gs[A.b+A.n]? = some g) (hat:J0 P A (.wt p) (kk (A.b+A.n)) (OO (A.b+A.n)) g) (sl:Option (Nat × Nat)) :
 Goes P A Fin Z hZ s gs w t sl (A.b+A.n)∨yn P A s gs w sl (A.b+A.n) g:=by
 have hE:bO P A Z s kk OO J M gs.size w t:=hC.ex;have hok:=hE.I.HV;rw[hw] at hok;obtain⟨c0,rest,hM,hT⟩:=hat;have hgr:=hE.gr;have hn:=A.hn;have hb:=A.hb;have hi0:(A.b+A.n == 0)=false:=by simp;omega
 have hk:CallKind.normal≠CallKind.early:=by decide
 have nx:∀ {p' g1},eI P A.ng A.gb .normal (iV A) p' (c0 :: rest) g1->∃ n g2,gZ P (iV A) n g1 g2∧J0 P A (.wt p') (kk (A.b+A.n)) (OO (A.b+A.n)) g2:=fun ⟨_,g2,⟨n,hs⟩,hA⟩=>⟨n,g2,hs,c0,rest,hA,hT⟩
 have cell:∀ wr,H3 A.gb #[⟨.cell ⟨A.gb,0,none⟩,wr,true⟩]:=fun wr e he=>by simp at he;subst he;exact .inl (.inr ⟨0,.inl rfl,rfl,rfl⟩)
 have hd:Deaf t (A.b+A.n)=pM p:=by
  obtain⟨_,_,hd0,_⟩:=hC.walk _ (vf hw);rw[hd0];show bF P A s (A.b+A.n)=_;rw[vg hw]
 have hcalm:s.c.waits=false->s.gv=0:=fun h=>(hE.I.calm h).1
 have hcnt:∀ l,l<A.n->(s.w l).cnt≤1:=fun l _=>by
  cases e:s.w l with
  | dn p=>cases p <;> simp[aM.cnt]
  | _=>simp[aM.cnt]
 have hc2:s.gc≤A.n+1:=by
  have h1:=hE.I.g1;have h2:sumTo A.n (fun j=>(s.w j).cnt)≤A.n:=kH A.n hcnt
  have h3:s.ms.pend≤1:=by cases s.ms <;> simp[kX.pend];split <;> omega
  omega
 cases p <;> simp only[gl.ok,Bool.false_eq_true] at hok
 case w0=>
  obtain⟨g1,hst,hN⟩:=LB (Wd:=iV A) (main:=false) (w:=w) C X hM hk;exact .inl (jO hZ hC hw .w0 hd hg hst hgr (aI rfl) (fun e he=>by simp at he;subst he;exact .inl (.inl (.inl rfl))) rfl id (nx hN) sl)
 case w1=>
  have v0:=hcalm (by rw[hw];rfl)
  have hgr':=hgr;rw[v0] at hgr';obtain⟨g1,hst,hN⟩:=LC (Wd:=iV A) (main:=false) C X hgr' (by omega) hM
  rcases hN with ⟨h0,hN⟩|⟨h0,hN⟩
  . exact .inl (jO hZ hC hw (.MY h0) hd hg hst hgr (aI rfl) (cell false) rfl id (nx hN) sl)
  . exact .inl (jO hZ hC hw (.w1 h0) hd hg hst hgr (aI rfl) (cell false) rfl id (nx hN) sl)
 case we=>
  obtain⟨g1,hst,hN⟩:=LE (Wd:=iV A) (main:=false) (w:=w) C X (fun w h=>h.1) hM hk
  exact .inl (jO hZ hC hw .we hd hg hst hgr (aI rfl) (fun e he=>by simp at he;subst he;exact .inl (.inl (.inr rfl))) rfl id (nx hN) sl)
 case wa=>exact absurd rfl hwa
 case w2 k=>
  have v0:=hcalm (by rw[hw];rfl)
  have hgr':=hgr;rw[v0] at hgr'
  rcases LG (Wd:=iV A) (main:=false) C X (fun w h=>h.2.1) hgr' hM with ⟨hck,g1,w',hst,rfl,hgr2,hN⟩|⟨hck,g1,hst,hN⟩
  . subst hck
    exact .inl (jO hZ hC hw .MZ hd hg hst hgr2 (⟨⟨.refl _,rfl⟩,.inr ⟨0,_,.inl rfl,rfl,rfl⟩⟩) (fun e he=>by simp at he;rcases he with rfl|rfl <;> exact .inl (.inr ⟨0,.inl rfl,rfl,rfl⟩)) rfl id (nx hN) sl)
  . exact .inl (jO hZ hC hw (.LO k hck) hd hg hst hgr (aI rfl) (cell false) rfl id (nx hN) sl)
 case w3=>
  obtain⟨g1,hst,hN⟩:=LH (Wd:=iV A) (main:=false) (w:=w) C X hM hk;exact .inl (jO hZ hC hw .w3 hd hg hst hgr (aI rfl) (fun e he=>by simp at he;subst he;exact .inr ⟨1,.inr rfl,.inr rfl⟩) rfl id (nx hN) sl)
 case w4=>
  by_cases hm:s.gm=0
  . right
    have hgr':=hgr;rw[hm] at hgr';have hst:=JZ (main:=false) C X hgr' hM;refine⟨.inr ⟨rfl,hw,hm⟩,?_⟩;have h:=runT_crowd_go (P:=P) (sl:=sl) (i:=A.b+A.n) hg (by rw[hi0];exact hst)
    have hid:woken P g { g with status:=.blocked } w=id:=funext fun o=>by
     unfold Go.Conc.woken;simp
    rw[hid,Array.map_id] at h;exact h
  . left
    obtain⟨g1,w',hst,rfl,hgr2,hN⟩:=LI (Wd:=iV A) (main:=false) C X hgr hm hM hk
    exact jO hZ hC hw (.w4 hm) hd hg hst hgr2 (⟨⟨.refl _,rfl⟩,.inr ⟨1,_,.inr rfl,rfl,rfl⟩⟩) (fun e he=>by
     simp[semEvents] at he
     rcases he with rfl|rfl|rfl|rfl
     . exact .inl (.inl (.inl rfl))
     . exact .inl (.inr ⟨1,.inr rfl,rfl,rfl⟩)
     . exact .inl (.inr ⟨1,.inr rfl,rfl,rfl⟩)
     . exact .inl (.inl (.inr rfl))) rfl (fun h=>absurd h hm) (nx hN) sl
 case w5=>
  obtain⟨c0',v0,m0,_⟩:=hE.I.g8 (by rw[hw];rfl)
  have hgr':=hgr;rw[c0',v0] at hgr';obtain⟨g1,hst,hN⟩:=LJ (Wd:=iV A) (main:=false) C X hgr' hM;exact .inl (jO hZ hC hw .w5 hd hg hst hgr (aI rfl) (cell false) rfl id (nx hN) sl)
end
section
variable {Z:Base} {kk:Nat->ag} {OO:Nat->ah} {J M:Nat->Prop} {w:World} {t:Trace}
theorem bm.Kf (h:bm Z kk OO J M w t) {i:Nat} {ad:Addr} (hJ:J i) (hla:ad.block<w.heap.size) (hd:Deaf t i=0) (hM:∀ p,M p->t.heard p∧Z.N0≤p∧t.act? p=some (.mark (.releaseMerge ad)))
 (hnr:∀ m a,Z.N0≤m->t.act? m≠some (.mark (.release a))) (fn:FuncId) (pos:String) :
 bm Z kk OO J (fun _=>False) w (t ++ MemOp.ofEvents i fn pos #[⟨.mark (.acquire ad),false,true⟩]):=by
 obtain⟨u,hu⟩:∃ u,u=MemOp.ofEvents i fn pos #[⟨.mark (.acquire ad),false,true⟩]:=⟨_,rfl⟩;have hu':u=#[⟨i,fn,pos,.mark (.acquire ad)⟩]:=by rw[hu,ofEvents_eq];simp[MemAct.ofEvent]
 rw[← hu];have hnt:∀ op∈u,op.act.touch? = none:=fun op hop=>by rw[hu'] at hop;simp at hop;subst hop;rfl
 have hops:∀ op∈u,op.g=i:=fun op hop=>by rw[hu'] at hop;simp at hop;subst hop;rfl
 have hu0:u[0]? = some ⟨i,fn,pos,.mark (.acquire ad)⟩:=by rw[hu'];rfl
 have hloud:i9 u:=fun op hop=>by rw[hu'] at hop;simp at hop;subst hop;simp
 have hnr':∀ k,Z.N0≤k->∀ a,(t ++ u).act? k≠some (.mark (.release a)):=fun k hk a e=>by
  rcases oT e with ⟨h1,_⟩|⟨op,hop,h1⟩
  . exact hnr k a hk h1
  . rw[hu'] at hop;simp at hop;subst hop;cases h1
 exact h.oB (fun a b=>a=b) rfl ⟨⟨.refl _,rfl⟩,fun _ _=>rfl⟩ (fun b => .inl rfl) (fun op hop=>by rw[hu'] at hop;simp at hop;subst hop;simpa[MemAct.low] using hla) (fun a b e n y _ _ _ hk=>by subst e;exact hk.app u)
  (fun j b n v h=>⟨j,rfl,h⟩) (fun j b s h=>⟨j,rfl,h⟩) (fun j b x h=>⟨j,rfl,h,fun _ h=>h⟩) h.fR
  (fun said=>noRace_append (h.clean said) hops fun n a ha op hop b hb _=>by rw[hnt op hop] at hb;cases hb) (fun op hop a ha=>by rw[hnt op hop] at ha;cases ha) (fun m op a hop ha=>by rw[hnt op (Array.mem_of_getElem? hop)] at ha;cases ha)
  (fun n a ha hm h=>h.elim (fun ⟨j,h1,h2⟩ => .inr (.inl ⟨j,h1,h2.app _⟩)) (fun ⟨p,h1,h2⟩=>by
    obtain⟨e1,e2,e3⟩:=hM p h1;exact .inr (.inl ⟨i,hJ,mn (y:=⟨i,fn,pos,.mark (.acquire ad)⟩) hloud hu0 rfl hd e3 e1 (fun k hk=>hnr' k (by omega) ad) h2⟩)))
end
section
variable {P:Program} {A:cC} {Fin:ag->ah->Goroutine->Prop} {Z:Base} {s:MS P} {f:Nat->Node P} {q:Nat->Nat} {kk:Nat->ag} {OO:Nat->ah} {J M:Nat->Prop} {gs:Array Goroutine} {w w':World} {t u:Trace} {c:gl} {p:qk} {gv gm:Nat} {g g1:Goroutine}
theorem oX (e:s.c = .ia∨s.c = .cT):bW P A s (A.b+A.n):=.inr (.inr ⟨rfl,by rcases e with e|e <;> rw[e] <;> trivial⟩)
theorem zO (e:s.c = .ia∨s.c = .cT) : ¬ di P A s (A.b+A.n):=by
 have:=A.hb
 rintro (⟨e,_⟩|⟨l,h1,h2,h3⟩|⟨_,h3⟩)
 . omega
 . omega
 . rcases e with e|e <;> rw[e] at h3 <;> exact h3
theorem zP (e:s.c ≠ .cT):aY P A Fin s (A.b+A.n)=mW P A:=by
 have:=A.hb;unfold aY;rw[if_neg (by omega),if_neg (by omega)]
 cases h:s.c <;> first|rfl|exact absurd h e
theorem zQ (e:s.c = .cT):aY P A Fin s (A.b+A.n)=rk P A:=by
 have:=A.hb;unfold aY;rw[if_neg (by omega),if_neg (by omega),e]
theorem Hr {x:Node P}:Gb P A s (A.b+A.n) x:=fun j h X h1 h2 _=>by omega
variable (C:gk P A.ng) (X:iD P A.ng)
include C X in
theorem Gs (hZ:A.b+A.n+1≤Z.lk) (hC:aW (bn P A Fin Z hZ) Z s f q kk OO J M gs w t) (hw:s.c = .wt .wa) (hg:gs[A.b+A.n]? = some g) (hat:J0 P A (.wt .wa) (kk (A.b+A.n)) (OO (A.b+A.n)) g) (sl:Option (Nat × Nat)) :
 Goes P A Fin Z hZ s gs w t sl (A.b+A.n):=by
 have hE:bO P A Z s kk OO J M gs.size w t:=hC.ex;have B:=aJ (P:=P) (A:=A) (Fin:=Fin) (Z:=Z) hZ;obtain⟨c0,rest,hM,hT⟩:=hat;have hb:=A.hb;have hi0:(A.b+A.n == 0)=false:=by simp;omega
 obtain⟨g1,hst,hr,⟨k,hsil⟩⟩:=LF (Wd:=fun _=>True) (main:=false) (w:=w) C X hM (by decide)
 obtain⟨tr⟩:=T.tree (P:=P) (m:=mW P A) rfl (hT _ (ag.Le.refl _));obtain⟨T,_⟩:=TT.pre hsil tr;have hrun:=runT_crowd_go (P:=P) (sl:=sl) (i:=A.b+A.n) hg (by rw[hi0];exact hst)
 have hwk:=vf (P:=P) (A:=A) hw
 have hd:Deaf t (A.b+A.n)=0:=by
  obtain⟨_,_,hd0,_⟩:=hC.walk _ hwk;rw[hd0];show bF P A s (A.b+A.n)=_;rw[vg hw];rfl
 have hJ:J (A.b+A.n):=(hE.hJ _).2 (.inr ⟨rfl,by rw[hw];rfl⟩)
 have hG:A.gb<w.heap.size:=by obtain⟨c,e,h1⟩:=hE.sG;exact (Array.getElem?_eq_some_iff.1 h1).1
 have hP:=hC.bp.Kf (i:=A.b+A.n) (ad:=⟨A.gb,0,none⟩) hJ hG hd (fun p hp=>by
  obtain⟨h1,h2,h3⟩:=hE.hM p hp
  rcases h3 with ⟨h3,_⟩|⟨h3,_⟩
  . exact⟨h1,h2,h3⟩
  . rw[hw] at h3;cases h3) hE.norel g.frame.fn g.frame.place
 have hops:∀ op∈MemOp.ofEvents (A.b+A.n) g.frame.fn g.frame.place #[⟨.mark (.acquire ⟨A.gb,0,none⟩),false,true⟩],op.g=A.b+A.n:=fun op hop=>by obtain⟨e,_,rfl⟩:=Go.Conc.mem_ofEvents hop;rfl
 have hEx:bO P A Z (s.oW .ia s.gv s.gm) kk OO J (fun _=>False) gs.size w (t ++ MemOp.ofEvents (A.b+A.n) g.frame.fn g.frame.place #[⟨.mark (.acquire ⟨A.gb,0,none⟩),false,true⟩]):=
  hE.Kc (Dm (s:=s) (c:=.ia)) (fun _ _=>rfl) (by rw[hw];rfl) (by rw[hw];rfl) (fun p hp=>hp.elim) (fun e=>by rw[hw] at e;cases e) (fun ⟨p,hp⟩=>hp.elim) (fun i=>by unfold dk;rw[hw];rfl) (hE.I.M0 hw .wa) rfl hE.gr (aI rfl) (fun op hop=>by
   obtain⟨e,he,rfl⟩:=Go.Conc.mem_ofEvents hop;simp at he;subst he;exact⟨fun a ha=>by simp[MemAct.ofEvent,MemAct.touch?] at ha,fun a h=>by simp[MemAct.ofEvent] at h⟩)
 have hbs:Beside (bn P A Fin Z hZ) s (s.oW .ia s.gv s.gm) f (ba f (A.b+A.n) ⟨mW P A,kk (A.b+A.n),OO (A.b+A.n),g1,T⟩) q q kk kk OO OO J J w (A.b+A.n) g g1:=
  rv hZ Dm (fun i hi=>an _ _ hi) (fun _ _=>rfl) (fun _ _ _=>rfl) (fun _ _ _=>rfl) (fun _ _ h=>h) (.inl ⟨id,id⟩) (fun {i k O y} hA=>B.je (s:=s) (i:=i) (k:=k) (O:=O) (g:=y) hA)
 refine⟨_,_,hrun,s.oW .ia s.gv s.gm,ba f (A.b+A.n) ⟨mW P A,kk (A.b+A.n),OO (A.b+A.n),g1,T⟩,q,kk,OO,J,(fun _=>False),_,_,_,rfl,wJ hw .wa,?_⟩
 refine aW.step B hC hg hops hP hEx (fun l y hl hA=>B.oE hE hl _ _ hA) hbs ⟨fun _=>?_,fun h=>absurd h (zO (.inl rfl)),fun h=>absurd h nM,fun h=>absurd (oX (.inl rfl)) h⟩
 rw[aj];refine⟨by show A.b+A.n<A.b+A.n+1;omega,rfl,?_,rfl,rfl,hr,?_,.inr hJ,Hr⟩
 . show mW P A=aY P A Fin (s.oW .ia s.gv s.gm) (A.b+A.n)
   rw[zP (by simp[MS.oW])]
 . rw[Deaf_own,hd];rfl
end
theorem oY {P:Program} {y:Sy} {s:gi} {fr:Frame} {x:FuncId × List SV} {f:FuncId} {vals:Array Value} {kind:CallKind} (hr:FR y s fr) (h:aH s=some x):fr≠Frame.enter P f vals kind:=fun e=>by
 obtain⟨ops,i,rest,kk,o,as,ats,h1,h2,h3,h4,h5,h6⟩:=bM (f:=x.1) (svs:=x.2) hr h;have:fr.todo = .inRegion ops (i :: rest) :: kk:=by rw[h5];rfl
 rw[e] at this;simp[Frame.enter] at this
theorem vh {fr fr':Frame} {cs cs':List Frame} (h:G fr cs=G fr' cs'):fr=fr':=by
 have:=congrArg Goroutine.frame h;exact this
section
variable {P:Program} {A:cC} {Fin:ag->ah->Goroutine->Prop} {Z:Base} {s:MS P} {f:Nat->Node P} {q:Nat->Nat} {kk:Nat->ag} {OO:Nat->ah} {J M:Nat->Prop} {gs:Array Goroutine} {w w':World} {t u:Trace} {j:Nat} {c:gl} {p:qk} {gv gm:Nat} {g g1:Goroutine}
variable (C:gk P A.ng) (X:iD P A.ng)
include C in
theorem Do {b:Nat} {kind kind':CallKind} {cs:List Frame} {f:FuncId} {vals:Array Value} {n:Nat} {Wd:World->Prop} {g2:Goroutine} (h:gZ P Wd n (G (Frame.enter P f vals kind') cs) g2) (hA:mw P A.ng b kind .w0 cs g2):n≠0:=fun e=>by
 subst e;obtain⟨c,y,fr,frs,rfl,hy,hr,hrs,rfl⟩:=hA;exact oY hr (C.w0 b kind).1 (vh h).symm
include C in
theorem Dp {b:Nat} {kind kind':CallKind} {cs:List Frame} {f:FuncId} {vals:Array Value} {n:Nat} {Wd:World->Prop} {g2:Goroutine} (h:gZ P Wd n (G (Frame.enter P f vals kind') cs) g2) (hA:mw P A.ng b kind .a0 cs g2):n≠0:=fun e=>by
 subst e;obtain⟨c,y,fr,frs,rfl,hy,hr,hrs,rfl⟩:=hA;exact oY hr (C.a0 b kind).1 (vh h).symm
include C in
theorem Dq {b:Nat} {kind kind':CallKind} {cs:List Frame} {f:FuncId} {vals:Array Value} {n:Nat} {Wd:World->Prop} {g2:Goroutine} (h:gZ P Wd n (G (Frame.enter P f vals kind') cs) g2) (hA:mw P A.ng b kind .d1 cs g2):n≠0:=fun e=>by
 subst e;obtain⟨c,y,fr,frs,rfl,hy,hr,hrs,rfl⟩:=hA;exact oY hr (C.d1 b).1 (vh h).symm
include C X in
theorem AI (hZ:A.b+A.n+1≤Z.lk) (hC:aW (bn P A Fin Z hZ) Z s f q kk OO J M gs w t) (hw:s.c = .cT) {k:ag} {O:ah} {N:ag->ah->Goroutine->Prop} (hfk:k=kk (A.b+A.n)) (hfO:O=OO (A.b+A.n)) (hg:gs[A.b+A.n]? = some g) (ht:(rk P A).bV k O g N) (sl:Option (Nat × Nat)) :
 Goes P A Fin Z hZ s gs w t sl (A.b+A.n):=by
 have hE:bO P A Z s kk OO J M gs.size w t:=hC.ex;obtain⟨_,_,_,_,_,_,hd0,_⟩:=hC.live _ (oX (.inr hw));obtain⟨rfl,c0,rest,rfl,hT⟩:=ht;subst hfk hfO;obtain⟨g2,⟨n,hsil⟩,hA⟩:=rh (P:=P) (n:=A.ng) (b:=A.gb) (kind:=.normal) (cs:=c0 :: rest) (Wd:=iV A) X C;cases n with
 | zero=>exact absurd rfl (Do C hsil hA)
 | succ n=>
   obtain⟨g1,⟨hr1,hs1⟩,hs2⟩:=hsil;have hwd:iV A w:=(aJ (P:=P) (A:=A) (Fin:=Fin) (Z:=Z) hZ).wd hE;exact jO hZ hC hw .call hd0 hg (hs1 false w hwd) hE.gr (aI rfl) (fun e he=>by simp at he) rfl id ⟨n,g2,hs2,c0,rest,hA,hT⟩ sl
theorem ry (hj:j<A.n) (e:s.w j = .tw):bW P A s (A.b+j):=.inr (.inl ⟨j,hj,rfl,by rw[e];trivial⟩)
theorem tx (hj:j<A.n) (e:s.w j = .tw) : ¬ cL P A s (A.b+j):=by
 have:=A.hb
 rintro (⟨e,_⟩|⟨l,h1,h2,h3⟩)
 . omega
 . obtain rfl:l=j:=by omega
   rw[e] at h3;cases h3
theorem Dj (hj:j<A.n) {x:aM P} {sh:Mu.Sh} (h:x.ez=(s.w j).ez):cW A s (s.aC j x sh) (A.b+j):=⟨fun l _ hl=>aN (by omega),fun _=>rfl,fun _=>rfl,rfl,fun l _=>by
 by_cases e:l=j
 . subst e;rw[aA,h]
 . rw[aN e]⟩
include C X in
theorem AJ (hZ:A.b+A.n+1≤Z.lk) (hC:aW (bn P A Fin Z hZ) Z s f q kk OO J M gs w t) (hj:j<A.n) (hw:s.w j = .tw) {k:ag} {O:ah} {N:ag->ah->Goroutine->Prop} (hg:gs[A.b+j]? = some g) (ht:(mg P A).bV k O g N) (sl:Option (Nat × Nat)) :
 Goes P A Fin Z hZ s gs w t sl (A.b+j):=by
 have hE:bO P A Z s kk OO J M gs.size w t:=hC.ex;have hb:=A.hb;obtain⟨_,_,_,_,_,_,hd0,_⟩:=hC.live _ (ry hj hw);obtain⟨rfl,fw,fn,tmps,todo,hfn,hres,rfl⟩:=ht;have hi0:(A.b+j == 0)=false:=by simp;omega
 obtain⟨g2,⟨n,hsil⟩,hA⟩:=ri (P:=P) (n:=A.ng) (b:=A.gb) (kind:=.deferred) (cs:=[iw P fw tmps todo,bI P]) (Wd:=iV A) X (fun w h=>h.1) C
 cases n with
 | zero=>exact absurd rfl (Dq C hsil hA)
 | succ n=>
   obtain⟨g1,⟨hr1,hs1⟩,hs2⟩:=hsil;have hwd:iV A w:=(aJ (P:=P) (A:=A) (Fin:=Fin) (Z:=Z) hZ).wd hE;obtain⟨x,hx⟩:∃ x:aM P,x = .dn .d1:=⟨_,rfl⟩;have hsx:(s.aC j x s.sh).w j = .dn .d1:=by rw[aA,hx]
   have hI:bd A.n (s.aC j x s.sh):=hE.I.vb hj (by rw[hw];rfl) (by rw[hx];rfl) (by rw[hx,hw];rfl) (by rw[hx];rfl) (by rw[hx,hw];rfl)
   have hL:MS.dR A.n (s.aC j x s.sh) s:=ru hj (by rw[hx,hw];simp[aM.bw])
   have hJ:J (A.b+j):=(hE.hJ _).2 (.inl ⟨j,hj,rfl,by rw[hw];rfl⟩)
   refine vd (s':=s.aC j x s.sh) (f':=f) (q':=upd q (A.b+j) n) (es:=#[]) hZ hC (eM hE.I hj (by rw[hw];rfl)) (tx hj hw) hg (by rw[hi0];exact hs1 false w hwd) (Dj hj (by rw[hx,hw];rfl)) (fun l _=>?_) rfl rfl id (ji hj (by rw[hx,hw];rfl)) hI rfl hE.gr (aI rfl) (.inl dv) hL (.inl (.inr hJ)) (.inl id) (fun _ _=>rfl) (fun i hi=>upd_ne q n hi) ?_ sl
   . by_cases e:l=j
     . subst e;rw[aA,hx,hw];rfl
     . rw[aN e]
   . refine⟨fun hl=>absurd hl (ii hj hsx),fun _=>⟨ii hj hsx,?_,?_,g2,?_,?_⟩,fun hh=>absurd hh (lD hj hsx),fun _ hn _=>absurd (jB hj hsx) hn⟩
     . show A.b+j<A.b+A.n+1;omega
     . rw[Deaf_own,hd0]
       show _=bF P A (s.aC j x s.sh) (A.b+j);rw[cN hj,hsx];rfl
     . refine .inr (.inl ⟨j,hj,rfl,?_⟩)
       rw[hsx];exact⟨fw,fn,tmps,todo,hfn,hres,hA⟩
     . exact .inr (by rw[upd_same];exact hs2)
end
section
variable {P:Program}
def MS.nN (s:MS P) (ms:kX) (gc:Nat):MS P:={ s with ms:=ms,gc:=gc }
inductive wM (s:MS P):kX->kX->Nat->Prop
 | call (j:Nat):1≤j->wM s (.add j) (.aS j .a0) s.gc
 | a0 (j:Nat):wM s (.aS j .a0) (.aS j .a2) s.gc
 | a2 (j:Nat) (p:qk):p = .a4∨p = .ae->wM s (.aS j .a2) (.aS j p) (s.gc+1)
 | a4 (j:Nat):wM s (.aS j .a4) (.aS j .ae) s.gc
 | ae (j:Nat):wM s (.aS j .ae) (.spawn (j-1)) s.gc
theorem bd.NT {n:Nat} {s:MS P} (I:bd n s) {m0 m1:kX} {gc:Nat} (hm:s.ms=m0) (h:wM s m0 m1 gc):bd n (s.nN m1 gc)∧s.c = .none:=by
 have hms:=I.ms;rw[hm] at hms;have hc:s.c = .none:=by cases h <;> first|exact hms.2|exact hms.2.1
 obtain⟨v0,m0',hl⟩:=I.calm (by rw[hc];rfl)
 refine⟨⟨?_,I.g2,I.xK,fun j hj h=>?_,I.xL,fun j hj h=>?_,⟨I.g5.1,fun h=>(by have h:s.gm=1:=h;omega)⟩,I.g6,fun h=>(by have h:s.gv=1:=h;omega),fun h=>?_,I.g9,I.ok,I.HV,I.sp,I.idle,?_,I.early,I.mu⟩,hc⟩
 . have:=I.g1
   rw[hm] at this;show gc=sumTo n (fun j=>(s.w j).cnt)+m1.pend
   cases h with
   | a2 j p hp=>rcases hp with rfl|rfl <;> simp_all [kX.pend]
   | _=>simp_all [kX.pend]
 . have h:s.w j = .dn .d5∨s.w j = .dn .d6:=h
   have:=hl j hj
   rcases h with h|h <;> rw[h] at this <;> cases this
 . have h:s.w j = .dn .d7:=h
   have:=hl j hj;rw[h] at this;cases this
 . have h:s.c.Da=true:=h
   rw[hc] at h;cases h
 . cases h with
   | call j hj=>exact⟨hms.1,hms.2,hj,.inl rfl⟩
   | a0 j=>exact⟨hms.1,hms.2.1,hms.2.2.1,.inr (.inl rfl)⟩
   | a2 j p hp=>exact⟨hms.1,hms.2.1,hms.2.2.1,.inr (.inr hp)⟩
   | a4 j=>exact⟨hms.1,hms.2.1,hms.2.2.1,.inr (.inr (.inr rfl))⟩
   | ae j=>exact⟨by have h1:=hms.1;have h2:=hms.2.2.1;show s.sp+(j-1)+1=n;omega,hms.2.1⟩
theorem Dr {n:Nat} {s:MS P} {m0 m1:kX} {gc:Nat} (hc:s.c = .none) (hj:∀ j p,m0 = .aS j p->1≤j) (hm:s.ms=m0) (h:wM s m0 m1 gc):MS.dR n (s.nN m1 gc) s:=by
 refine .inl ?_;show m1.bw+sumTo n (fun i=>(s.w i).bw)+s.c.bw gc<s.ms.bw+sumTo n (fun i=>(s.w i).bw)+s.c.bw s.gc
 rw[hm,hc];have e:∀ x,gl.bw x .none=0:=fun _=>rfl
 rw[e,e]
 have:m1.bw<m0.bw:=by
  cases h with
  | a2 j p hp=>rcases hp with rfl|rfl <;> simp[kX.bw]
  | ae j=>have:=hj j .ae rfl;simp only[kX.bw];omega
  | _=>simp[kX.bw]
 omega
end
section
variable {P:Program} {A:cC} {Fin:ag->ah->Goroutine->Prop} {Z:Base} {s:MS P} {f f':Nat->Node P} {q q':Nat->Nat} {kk:Nat->ag} {OO:Nat->ah} {J M:Nat->Prop} {gs:Array Goroutine} {w w':World} {t u:Trace} {j:Nat} {c:gl} {p:qk} {gc:Nat} {g g1:Goroutine} {m0 m1:kX}
theorem yr (e:s.ms = .aS j p):di P A s 0:=.inl ⟨rfl,by rw[e];trivial⟩
theorem zS (e:s.ms = .aS j p) : ¬ bW P A s 0:=by
 have:=A.hb
 rintro (⟨_,h3⟩|⟨l,h1,h2,h3⟩|⟨h3,_⟩)
 . rw[e] at h3;exact h3
 . omega
 . omega
theorem jD (e:s.ms ≠ .parked) : ¬ cL P A s 0:=by
 have:=A.hb
 rintro (⟨_,h3⟩|⟨l,h1,h2,h3⟩)
 . exact e h3
 . omega
theorem zT (e:s.ms = .aS j p):bF P A s 0=pM p:=by
 unfold bF;rw[if_pos rfl,e]
theorem Kg:cW A s (s.nN m1 gc) 0:=⟨fun _ _ _=>rfl,fun _=>rfl,fun h=>absurd rfl h,rfl,fun _ _=>rfl⟩
theorem oZ (hZ:A.b+A.n+1≤Z.lk) (hC:aW (bn P A Fin Z hZ) Z s f q kk OO J M gs w t) (hm:s.ms=m0) (hD:wM s m0 m1 gc) {d:Nat} (hd:Deaf t 0=d) (hg:gs[0]? = some g) {es:Array Event} (hst:stepG P true g w = .go g1 w' es)
 (hgr:mr A.gb w' gc s.gv s.gm) (hmw:MW A.gb 0 w w') (hev:H3 A.gb es)
 (hs:(∃ j p n g2,m1 = .aS j p∧deafBehind d es=pM p∧gZ P (iV A) n g1 g2∧KV P A Fin (.aS j p) (kk 0) (OO 0) g2) ∨
   (∃ j,m1 = .spawn j∧deafBehind d es=0∧g1.status = .running∧∃ tr:TT P (zI P A Fin j) (kk 0) (OO 0) g1,True)) (sl:Option (Nat × Nat)):Goes P A Fin Z hZ s gs w t sl 0:=by
 have hE:bO P A Z s kk OO J M gs.size w t:=hC.ex;have hb:=A.hb;have hi0:((0:Nat) == 0)=true:=rfl;obtain⟨hI,hc⟩:=hE.I.NT hm hD;have hn:s.c.isNone=true:=by rw[hc];rfl
 have hL:MS.dR A.n (s.nN m1 gc) s:=Dr hc (fun j p e=>by have:=hE.I.ms;rw[hm,e] at this;exact this.2.2.1) hm hD
 have hnp:s.ms ≠ .parked:=by rw[hm];cases hD <;> simp
 have hde:∀ fn pos,Deaf (t ++ MemOp.ofEvents 0 fn pos es) 0=deafBehind d es:=fun fn pos=>by rw[Deaf_own,hd]
 have go:∀ (f':Nat->Node P) (q':Nat->Nat),(∀ i,i≠0->f' i=f i)->(∀ i,i≠0->q' i=q i)->Self P (bn P A Fin Z hZ) (s.nN m1 gc) f' q' kk OO J (t ++ MemOp.ofEvents 0 g.frame.fn g.frame.place es) 0 g1->Goes P A Fin Z hZ s gs w t sl 0:=fun f' q' hf hq hself=>
  vd (s':=s.nN m1 gc) hZ hC (.inl rfl) (jD hnp) hg hst Kg (fun _ _=>rfl) rfl rfl id (fun i=>Iff.rfl) hI rfl hgr hmw (.inr ⟨hev,by rw[hn];rfl⟩) hL (.inl (.inl rfl)) (.inl id) hf hq hself sl
 rcases hs with ⟨j,p,n,g2,rfl,hdb,hsil,hat⟩|⟨j,rfl,hdb,hr,tr,_⟩
 . have hcs:(s.nN (.aS j p) gc).ms = .aS j p:=rfl
   refine go f (upd q 0 n) (fun _ _=>rfl) (fun i hi=>upd_ne q n hi) ⟨fun hl=>absurd hl (zS hcs),fun _=>⟨zS hcs,?_,?_,g2,?_,?_⟩,fun hh=>absurd hh (jD (by simp[MS.nN])),fun _ hn _=>absurd (yr hcs) hn⟩
   . show 0<A.b+A.n+1;omega
   . rw[hde,hdb]
     show _=bF P A (s.nN (.aS j p) gc) 0;rw[zT hcs]
   . exact .inl ⟨rfl,hat⟩
   . exact .inr (by rw[upd_same];exact hsil)
 . have hlv:bW P A (s.nN (.spawn j) gc) 0:=.inl ⟨rfl,trivial⟩
   have hnw : ¬ di P A (s.nN (.spawn j) gc) 0:=by
    rintro (⟨_,h3⟩|⟨l,h1,h2,h3⟩|⟨h3,_⟩)
    . exact h3
    . omega
    . omega
   refine go (ba f 0 ⟨zI P A Fin j,kk 0,OO 0,g1,tr⟩) q (fun i hi=>an _ _ hi) (fun _ _=>rfl) ⟨fun _=>?_,fun h=>absurd h hnw,fun h=>absurd h (jD (by simp[MS.nN])),fun h=>absurd hlv h⟩
   rw[aj];refine⟨by show 0<A.b+A.n+1;omega,rfl,?_,rfl,rfl,hr,by rw[hde,hdb],.inl rfl,fun l h X h1 h2 _=>by omega⟩
   show zI P A Fin j=aY P A Fin (s.nN (.spawn j) gc) 0;unfold aY;rw[if_pos rfl];rfl
variable (C:gk P A.ng) (X:iD P A.ng)
include C X in
theorem wO (hZ:A.b+A.n+1≤Z.lk) (hC:aW (bn P A Fin Z hZ) Z s f q kk OO J M gs w t) (hw:s.ms = .aS j p) (hg:gs[0]? = some g) (hat:KV P A Fin (.aS j p) (kk 0) (OO 0) g) (sl:Option (Nat × Nat)):Goes P A Fin Z hZ s gs w t sl 0:=by
 have hE:bO P A Z s kk OO J M gs.size w t:=hC.ex;have hms:=hE.I.ms;rw[hw] at hms;obtain⟨_,hc,hj1,hp⟩:=hms;obtain⟨v0,m0',hl⟩:=hE.I.calm (by rw[hc];rfl)
 obtain⟨c0,rest,hM,hT⟩:=hat;have hgr:=hE.gr;have hn:=A.hn;have hk:CallKind.normal≠CallKind.early:=by decide
 have nx:∀ {p' g1},eI P A.ng A.gb .normal (iV A) p' (c0 :: rest) g1->∃ n g2,gZ P (iV A) n g1 g2∧KV P A Fin (.aS j p') (kk 0) (OO 0) g2:=fun ⟨_,g2,⟨n,hs⟩,hA⟩=>⟨n,g2,hs,c0,rest,hA,hT⟩
 have hd:Deaf t 0=pM p:=by
  obtain⟨_,_,hd0,_⟩:=hC.walk _ (yr hw);rw[hd0];show bF P A s 0=_;rw[zT hw]
 have hcnt:∀ l,l<A.n->(s.w l).cnt≤1:=fun l _=>by
  cases e:s.w l with
  | dn p=>cases p <;> simp[aM.cnt]
  | _=>simp[aM.cnt]
 have hc2:s.gc≤A.n+1:=by
  have h1:=hE.I.g1;have h2:sumTo A.n (fun j=>(s.w j).cnt)≤A.n:=kH A.n hcnt
  have h3:s.ms.pend≤1:=by cases s.ms <;> simp[kX.pend];split <;> omega
  omega
 rcases hp with rfl|rfl|rfl|rfl
 . obtain⟨g1,hst,hN⟩:=Lr (Wd:=iV A) (main:=true) (w:=w) C X hM hk
   obtain⟨n,g2,h1,h2⟩:=nx hN;exact oZ hZ hC hw (.a0 j) hd hg hst hgr (aI rfl) (fun e he=>by simp at he;subst he;exact .inl (.inl (.inl rfl))) (.inl ⟨j,_,n,g2,rfl,rfl,h1,h2⟩) sl
 . have hgr':=hgr
   rw[v0] at hgr';obtain⟨g1,w',hst,rfl,hgr2,hN⟩:=Ls (Wd:=iV A) (main:=true) (v:=0) C X (fun w h=>h.2.1) hgr' (by omega) hM
   have hev:H3 A.gb #[⟨.cell ⟨A.gb,0,none⟩,false,true⟩,⟨.cell ⟨A.gb,0,none⟩,true,true⟩]:=fun e he=>by simp at he;rcases he with rfl|rfl <;> exact .inl (.inr ⟨0,.inl rfl,rfl,rfl⟩)
   rcases hN with hN|hN
   . obtain⟨n,g2,h1,h2⟩:=nx hN
     exact oZ hZ hC hw (.a2 j _ (.inl rfl)) hd hg hst (by rw[v0];exact hgr2) (⟨⟨.refl _,rfl⟩,.inr ⟨0,_,.inl rfl,rfl,rfl⟩⟩) hev (.inl ⟨j,_,n,g2,rfl,rfl,h1,h2⟩) sl
   . obtain⟨n,g2,h1,h2⟩:=nx hN
     exact oZ hZ hC hw (.a2 j _ (.inr rfl)) hd hg hst (by rw[v0];exact hgr2) (⟨⟨.refl _,rfl⟩,.inr ⟨0,_,.inl rfl,rfl,rfl⟩⟩) hev (.inl ⟨j,_,n,g2,rfl,rfl,h1,h2⟩) sl
 . obtain⟨g1,hst,hN⟩:=Lt (Wd:=iV A) (main:=true) (w:=w) C X hM hk
   obtain⟨n,g2,h1,h2⟩:=nx hN;exact oZ hZ hC hw (.a4 j) hd hg hst hgr (aI rfl) (fun e he=>by simp at he;subst he;exact .inr ⟨1,.inr rfl,.inl rfl⟩) (.inl ⟨j,_,n,g2,rfl,rfl,h1,h2⟩) sl
 . obtain⟨g1,hst,hr,⟨k,hsil⟩⟩:=Lu (Wd:=fun _=>True) (main:=true) (w:=w) C X hM hk
   obtain⟨tr⟩:=T.tree (P:=P) (m:=zI P A Fin (j-1)) rfl hT;obtain⟨T,_⟩:=TT.pre hsil tr;exact oZ hZ hC hw (.ae j) hd hg hst hgr (aI rfl) (fun e he=>by simp at he;subst he;exact .inl (.inl (.inr rfl))) (.inr ⟨j-1,rfl,rfl,hr,T,trivial⟩) sl
include C X in
theorem Ds (hZ:A.b+A.n+1≤Z.lk) (hC:aW (bn P A Fin Z hZ) Z s f q kk OO J M gs w t) (hw:s.ms = .add (j+1)) {k:ag} {O:ah} {N:ag->ah->Goroutine->Prop} (hfk:k=kk 0) (hfO:O=OO 0) (hg:gs[0]? = some g) (ht:(tv P A Fin (j+1)).bV k O g N) (sl:Option (Nat × Nat)) :
 Goes P A Fin Z hZ s gs w t sl 0:=by
 have hE:bO P A Z s kk OO J M gs.size w t:=hC.ex;obtain⟨_,_,_,_,_,_,hd0,_⟩:=hC.live 0 (.inl ⟨rfl,by rw[hw];trivial⟩)
 obtain⟨rfl,c0,rest,rfl,hT⟩:=ht;subst hfk hfO;obtain⟨g2,⟨n,hsil⟩,hA⟩:=sE (P:=P) (n:=A.ng) (b:=A.gb) (kind:=.normal) (cs:=c0 :: rest) (Wd:=iV A) X;cases n with
 | zero=>exact absurd rfl (Dp C hsil hA)
 | succ n=>
   obtain⟨g1,⟨hr1,hs1⟩,hs2⟩:=hsil;have hwd:iV A w:=(aJ (P:=P) (A:=A) (Fin:=Fin) (Z:=Z) hZ).wd hE;exact oZ hZ hC hw (.call (j+1) (by omega)) hd0 hg (hs1 true w hwd) hE.gr (aI rfl) (fun e he=>by simp at he) (.inl ⟨j+1,.a0,n,g2,rfl,rfl,hs2,c0,rest,hA,hT⟩) sl
end
end Go.aZ
