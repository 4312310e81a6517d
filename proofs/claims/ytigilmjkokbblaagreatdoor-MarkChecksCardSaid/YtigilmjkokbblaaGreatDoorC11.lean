/- Part 11 of the proof. -/
import Derived.Test.YtigilmjkokbblaaGreatDoorC10
set_option linter.all false
namespace Go.bd
open Go.Conc
def pn(k:ah)(O:ai)(B:Nat)(a:Touch):Prop:=
 match a.loc with
 |.cell b=>b.block<B/\¬aY O b.block b.off/\(k.cell b.block b.off=none\/a.write=false)
 |.obj r=>r<B/\∀o,O r≠some (.obj o)
 |_=>True
def ah.bot:ah:=⟨λ_ _=>none,λ_=>none⟩
def ai.bot:ai:=λ_=>none
def ah.join(k k':ah):ah:=⟨λb i=>match k.cell b i with|some v=>some v|none=>k'.cell b i,λb=>match k.sh b with|some s=>some s|none=>k'.sh b⟩
theorem ah.mO(k k':ah):k.Le (k.join k'):=⟨λb i v h=>by simp[ah.join,h],λb s h=>by simp[ah.join,h]⟩
theorem ah.pP{k k':ah}{O O':ai}{w:World}(h:Sat k O w)(a:Sat k' O' w):k'.Le (k.join k'):=⟨λb i v c=>by
 simp only[ah.join];cases q:k.cell b i with
 |none=>exact c
 |some u=>have:=h.cell b i u q;rw[a.cell b i v c]at this;simpa using this.symm,λb s d=>by
 simp only[ah.join];cases q:k.sh b with
 |none=>exact d
 |some u=>have:=h.sh b u q;rw[a.sh b s d]at this;simpa using this.symm⟩
theorem ah.lK{k k':ah}{b i:Nat}{v:Value}(h:(k.join k').cell b i=some v):k.cell b i=some v\/k'.cell b i=some v:=by
 simp only[ah.join]at h;cases q:k.cell b i with
 |none=>rw[q]at h;exact .inr h
 |some u=>rw[q]at h;exact .inl h
theorem ah.Br{k k':ah}{b:Nat}{s:TypeId × Nat}(h:(k.join k').sh b=some s):k.sh b=some s\/k'.sh b=some s:=by
 simp only[ah.join]at h;cases q:k.sh b with
 |none=>rw[q]at h;exact .inr h
 |some u=>rw[q]at h;exact .inl h
theorem aY.own{O:ai}{b i:Nat}(h:aY O b i):∃x,O b=some x:=by rcases h with⟨o,h⟩|⟨n,h,_⟩|⟨f,h,_⟩<;>exact⟨_,h⟩
theorem dY{O:ai}{b i:Nat}(h:O b=none):¬aY O b i:=λc=>by obtain⟨x,a⟩:=c.own;rw[h]at a;cases a
structure Base where
 Shun:Loc->Prop
 N0:Nat
 lk:Nat
 la:Addr
 W0:World
def HZ(Z:Base)(t:Trace)(i n:Nat):Prop:=if i=Z.lk then n<Z.N0\/∃p,Z.N0<=p/\t.act? p=some (.mark (.releaseMerge Z.la))/\t.heard p/\Before t n p else Knows t i n
theorem HZ.app{Z:Base}{t:Trace}{i n:Nat}(h:HZ Z t i n)(u:Trace):HZ Z (t++u) i n:=by
 unfold HZ at *;split at h
 . next e=>
   rw[if_pos e];rcases h with h|⟨p,c,a,d,f⟩
   . exact .inl h
   have b:=lt_of_act? a;exact .inr ⟨p,c,by rw[act?_old b];exact a,(heard_old b).2 d,f.app u⟩
 . next e=>rw[if_neg e];exact h.app u
theorem oC{Z:Base}{t:Trace}{i n:Nat}(a:i≠Z.lk):HZ Z t i n↔Knows t i n:=by unfold HZ;rw[if_neg a]
def UX(Z:Base)(t:Trace)(i:Nat)(k:ah)(O:ai)(B:Nat):Prop:=∀n a,touchAt t n=some a->a.loc.isMemory=true->HZ Z t i n\/pn k O B a
structure cA(Z:Base)(kk:Nat->ah)(OO:Nat->ai)(J M:Nat->Prop)(w:World)(t:Trace):Prop where
 sat:∀i,Sat (kk i) (OO i) w
 ju:∀i j b x,i≠j->OO i b=some x->OO j b=none
 nM:∀i j b n v,i≠j->(kk j).cell b n=some v -> ¬aY (OO i) b n
 Bs:∀i,UX Z t i (kk i) (OO i) w.heap.size
 clean:∀said,¬Race said t
 seen:∀op∈t,op.act.low w.heap.size
 acc:∀n a,touchAt t n=some a->a.loc.isMemory=true->Knows t 0 n\/(∃j,J j/\Knows t j n)\/(∃p,M p/\Before t n p)\/(Z.Shun a.loc/\a.kind=.atomic/\(t.counts n->n<Z.N0))
 n0:Z.N0<=t.size
 xu:∀n g,n<Z.N0->t.g? n=some g->g≠0->t.counts n->∃j,t.g? j=some 0/\HappensBefore t n j
 kB:∀a,Z.Shun (.cell a)->a.block<w.heap.size/\∀i,¬aY (OO i) a.block a.off/\(kk i).cell a.block a.off=none
 nN:∀r,Z.Shun (.obj r)->r<w.heap.size/\∀i o,OO i r≠some (.obj o)
 yT:vr Z.W0 w
 mine:∀i b x,OO i b=some x->Z.W0.heap.size<=b
def bR{α:Type}(f:Nat->α)(i:Nat)(x:α):Nat->α:=λj=>if j=i then x else f j
theorem au{α:Type}(f:Nat->α)(i:Nat)(x:α):bR f i x i=x:=by simp[bR]
theorem az{α:Type}(f:Nat->α){i j:Nat}(x:α)(h:j≠i):bR f i x j=f j:=by simp[bR,h]
theorem m9{k:ah}{O:ai}{B:Nat}{e:Event}{b:Touch}(a:jc k O B e)(hb:(MemAct.ofEvent e).touch?=some b):
 (∃ad,b.loc=.cell ad/\(aY O ad.block ad.off\/B<=ad.block\/(b.write=false/\∃v,k.cell ad.block ad.off=some v)))\/∃r,b.loc=.obj r/\((∃o,O r=some (.obj o))\/B<=r):=by
 obtain⟨loc,wr,c⟩:=e;cases loc with
 |cell ad=>simp only[jc]at a;simp only[MemAct.ofEvent,MemAct.touch?,Option.some.injEq]at hb;subst hb;exact .inl ⟨ad,rfl,a⟩
 |obj r=>simp only[jc]at a;cases wr<;>cases c<;>simp only[MemAct.ofEvent,MemAct.touch?,Option.some.injEq,reduceCtorEq]at hb<;>subst hb<;>exact .inr ⟨r,rfl,a⟩
 |mark m=>simp only[jc]at a;cases m<;>simp_all [jX,mY,MemAct.ofEvent,MemAct.touch?]
 |_=>simp[jc]at a
theorem vb{k:ah}{O:ai}{B b:Nat}{e:Event}(c:jc k O B e)(a:jF b e):(MemAct.ofEvent e).low b:=by
 obtain⟨loc,wr,d⟩:=e;cases loc with
 |cell f=>simpa[MemAct.ofEvent,MemAct.low,Loc.low,jF]using a
 |obj r=>simp only[jF]at a;cases wr<;>cases d<;>simpa[MemAct.ofEvent,MemAct.low,Loc.low]using a
 |mark m=>simp only[jc]at c;cases m<;>simp_all [jX,mY,MemAct.ofEvent,MemAct.low,jF]
 |_=>simp[jc]at c
theorem rD{t u:Trace}{n:Nat}(a:n<t.size):(t++u).counts n↔t.counts n:=by unfold Trace.counts;rw[act?_old a,heard_old a]
section
variable{Z:Base}{kk:Nat->ah}{OO:Nat->ai}{J M:Nat->Prop}{w:World}{t:Trace}
theorem cA.C7(h:cA Z kk OO J M w t)(u:Trace):∀n g,n<Z.N0->(t++u).g? n=some g->g≠0->(t++u).counts n->∃j,(t++u).g? j=some 0/\HappensBefore (t++u) n j:=λn g d e i f=>by
 have a:n<t.size:=Nat.lt_of_lt_of_le d h.n0;rw[g?_old a]at e;rw[rD a]at f;obtain⟨j,b,hb⟩:=h.xu n g d e i f
 have c:j<t.size:=by unfold Trace.g? at b;obtain⟨z,k,_⟩:=Option.map_eq_some_iff.1 b;exact lt_size_of_getElem? k
 exact⟨j,by rw[g?_old c];exact b,hb_app u hb⟩
theorem cA.own(h:cA Z kk OO J M w t){i:Nat}(ay:i≠Z.lk)(hJ:i=0\/J i){k':ah}{O':ai}{w':World}{es:Array Event}{fn:FuncId}{pos:String}(d:Eff (kk i) (OO i) w k' O' w' es.toList)(hs:Sat k' O' w'):
 cA Z (bR kk i k') (bR OO i O') J M w' (t++MemOp.ofEvents i fn pos es):=by
 have H:∀op∈MemOp.ofEvents i fn pos es,op.g=i/\∃e∈es.toList,op.act=.ofEvent e:=λop C=>by obtain⟨e,d,rfl⟩:=Go.Conc.mem_ofEvents C;exact⟨rfl,e,by simpa using d,rfl⟩
 have U:∀b n,aY O' b n->aY (OO i) b n\/w.heap.size<=b:=d.El
 have b0:∀j,j≠i->Sat (kk j) (OO j) w':=λj k=>by
  have hold:∀b,b<w.heap.size->OO j b≠none->w'.heap[b]?=w.heap[b]?:=λb hb X=>by
   cases q:OO j b with
   |none=>exact absurd q X
   |some x=>exact d.keep b hb (h.ju j i b x k q)
  refine⟨(h.sat j).apart,λb n v R=>?_,λb s hs=>?_,λb o S=>?_,λb n X=>?_,λb f X=>?_⟩
  . have hb:=(h.sat j).qc R
    have hc:=(h.sat j).cell b n v R;have a7:=h.nM i j b n v (Ne.symm k) R;cases q:OO i b with
    |none=>have:=d.keep b hb q;simpa only[World.cell?,this]using hc
    | some x=>
      cases x with
      |obj o=>exact absurd (.inl ⟨o,q⟩) a7
      | tail m=>
        have a8:n<m:=Nat.lt_of_not_le λhh=>a7 (.inr (.inl ⟨m,q,hh⟩))
        obtain⟨c,e,u,_⟩:=(h.sat i).tail b m q;obtain⟨c',O,F,Y⟩:=d.tail b m hb q c e u;simp only[World.cell?,u,O]at hc ⊢;rw[Y n a8];exact hc
      | part f=>
        have a8:f n=none:=Classical.byContradiction λhh=>a7 (.inr (.inr ⟨f,q,hh⟩))
        obtain⟨c,e,u,_⟩:=(h.sat i).part b f q;obtain⟨c',O,F,Y⟩:=d.part b f hb q c e u;simp only[World.cell?,u,O]at hc ⊢;rw[Y n a8];exact hc
  . have hb:=(h.sat j).JG hs
    rw[d.shape b hb];exact(h.sat j).sh b s hs
  . rw[hold b ((h.sat j).pr S) (by rw[S];simp)];exact(h.sat j).obj b o S
  . rw[hold b ((h.sat j).pr X) (by rw[X];simp)];exact(h.sat j).tail b n X
  . rw[hold b ((h.sat j).pr X) (by rw[X];simp)];exact(h.sat j).part b f X
 have l:∀j b x,OO j b=some x->b<w.heap.size:=λj b x A=>(h.sat j).pr A
 have I:∀j b n v,(kk j).cell b n=some v->b<w.heap.size:=λj b n v R=>(h.sat j).qc R
 refine⟨λj=>?_,λa b c x E A=>?_,λa b c n v E R=>?_,λj=>?_,λsaid=>?_,λop C=>?_,λn a T hm=>?_,by simp;exact Nat.le_trans h.n0 (Nat.le_add_right _ _),h.C7 _,λa T=>?_,λr hr=>?_,h.yT.step (by rw[d.os];exact .refl _) d.output d.size (λb hb=>d.keep b (Nat.lt_of_lt_of_le hb h.yT.size) (Option.eq_none_iff_forall_ne_some.2 λx A=>by have:=h.mine i b x A;omega)),λj b x A=>?_⟩
 . by_cases k:j=i
   . subst k;rw[au,au];exact hs
   . rw[az _ _ k,az _ _ k];exact b0 j k
 . by_cases T:a=i
   . subst T
     rw[au]at A;rw[az _ _ (Ne.symm E)]
     rcases d.own c x A with⟨y,K,_⟩|K
     . exact h.ju a b c y E K
     . cases q:OO b c with
       |none=>rfl
       |some z=>have:=l b c z q;omega
   . rw [az _ _ T]at A
     by_cases hb:b=i
     . subst hb
       rw[au];cases q:O' c with
       |none=>rfl
       | some z=>
         rcases d.own c z q with⟨y,K,_⟩|K
         . have:=h.ju a b c x E A;rw[K]at this;cases this
         . have:=l a c x A;omega
     . rw[az _ _ hb];exact h.ju a b c x E A
 . by_cases T:a=i
   . subst T
     rw[au];rw[az _ _ (Ne.symm E)]at R;intro hc
     rcases U c n hc with hc|hc
     . exact h.nM a b c n v E R hc
     . have:=I b c n v R;omega
   . rw [az _ _ T]
     by_cases hb:b=i
     . subst hb
       rw[au]at R;intro hc
       rcases d.cell c n v R with u|u|u
       . exact h.nM a b c n v E u hc
       . obtain⟨x,A⟩:=u.own
         have:=h.ju b a c x (Ne.symm E) A;exact dY this hc
       . obtain⟨x,A⟩:=hc.own
         have:=l a c _ A;omega
     . rw[az _ _ hb]at R;exact h.nM a b c n v E R
 ·
  intro n a T hm;obtain⟨x,A,B⟩:=touch_of T
  rcases getElem?_append_cases A with⟨_,a9⟩|⟨_,al⟩
  . rcases h.Bs j n a (by rw[touchAt_of a9];exact B) hm with hk|hk
    . exact .inl (hk.app _)
    . refine .inr ?_
      by_cases k:j=i
      . subst k
        rw[au,au];unfold pn at hk ⊢;split
        . next W G=>
          rw[G]at hk;obtain⟨u,O,F⟩:=hk;refine⟨Nat.lt_of_lt_of_le u d.size,λhc=>?_,?_⟩
          . rcases U _ _ hc with hc|hc
            . exact O hc
            . omega
          . rcases F with F|F
            . cases q:k'.cell W.block W.off with
              |none=>exact .inl rfl
              | some v=>
                rcases d.cell _ _ v q with Y|Y|Y
                . rw[F]at Y;cases Y
                . exact absurd Y O
                . omega
            . exact .inr F
        . next r G=>
          rw[G]at hk;refine⟨Nat.lt_of_lt_of_le hk.1 d.size,λo S=>?_⟩
          rcases d.own r _ S with⟨y,K,V⟩|K
          . cases y with
            |obj o'=>exact hk.2 o' K
            |tail m=>exact V.elim
            |part f=>exact V.elim
          . have:=hk.1;omega
        . trivial
      . rw[az _ _ k,az _ _ k]
        unfold pn at hk ⊢;split
        . next W G=>rw[G]at hk;exact⟨Nat.lt_of_lt_of_le hk.1 d.size,hk.2⟩
        . next r G=>rw[G]at hk;exact⟨Nat.lt_of_lt_of_le hk.1 d.size,hk.2⟩
        . trivial
  . obtain ⟨hg,e,P,L⟩:=H x al
    by_cases k:j=i
    . subst k
      have:=knows_own A;rw[hg]at this;exact .inl ((oC ay).2 this)
    . refine .inr ?_
      rw[az _ _ k,az _ _ k];rw[L]at B;have N:=d.evs e P;have Q:=d.low e P
      rcases m9 N B with⟨W,G,hc⟩|⟨r,G,hc⟩
      . unfold pn;rw[G]
        have av:W.block<w'.heap.size:=by
         have:=vb N Q;obtain⟨loc,wr,sy⟩:=e;cases loc with
         |cell b1=>simp only[MemAct.ofEvent,MemAct.touch?,Option.some.injEq]at B;subst B;simp only[Loc.cell.injEq]at G;subst G;simpa[jF]using Q
         |obj r=>cases wr<;>cases sy<;>simp only[MemAct.ofEvent,MemAct.touch?,Option.some.injEq,reduceCtorEq]at B<;>subst B<;>cases G
         |mark m=>simp only[jc]at N;cases m<;>simp_all [jX,mY,MemAct.ofEvent,MemAct.touch?]
         |_=>simp[jc]at N
        refine⟨av,λax=>?_,?_⟩
        . rcases hc with hc|hc|⟨_,v,hc⟩
          . obtain⟨y,K⟩:=hc.own
            have:=h.ju i j _ y (Ne.symm k) K;exact dY this ax
          . obtain⟨x,A⟩:=ax.own
            have:=l j _ _ A;omega
          . exact h.nM j i _ _ v k hc ax
        . rcases hc with hc|hc|⟨hc,_⟩
          . cases q:(kk j).cell W.block W.off with
            |none=>exact .inl rfl
            |some v=>exact absurd hc (h.nM i j _ _ v (Ne.symm k) q)
          . cases q:(kk j).cell W.block W.off with
            |none=>exact .inl rfl
            |some v=>have:=I j _ _ v q;omega
          . exact .inr hc
      . unfold pn;rw[G]
        have av:r<w'.heap.size:=by
         obtain⟨loc,wr,sy⟩:=e;cases loc with
         |cell b1=>simp only[MemAct.ofEvent,MemAct.touch?,Option.some.injEq]at B;subst B;cases G
         |obj r'=>simp only[jF]at Q;cases wr<;>cases sy<;>simp only[MemAct.ofEvent,MemAct.touch?,Option.some.injEq,reduceCtorEq]at B<;>subst B<;>cases G<;>exact Q
         |mark m=>simp only[jc]at N;cases m<;>simp_all [jX,mY,MemAct.ofEvent,MemAct.touch?]
         |_=>simp[jc]at N
        refine⟨av,λo S=>?_⟩
        rcases hc with⟨o',hc⟩|hc
        . have:=h.ju j i r _ k S
          rw[hc]at this;cases this
        . have:=l j r _ S;omega
 ·
  refine noRace_append (h.clean said) (λop C=>(H op C).1) λn a T op C b hb hc=>?_
  obtain⟨hg,e,P,L⟩:=H op C;rw[L]at hb;have N:=d.evs e P;obtain⟨c1,c2,c3,c4⟩:=hc
  rcases h.Bs i n a T c2 with hk|hk
  . exact(oC ay).1 hk
  . exfalso
    unfold pn at hk
    rcases m9 N hb with⟨W,G,D⟩|⟨r,G,D⟩
    . rw [c1,G]at hk
      obtain⟨u,O,F⟩:=hk
      rcases D with D|D|⟨hw,v,D⟩
      . exact O D
      . omega
      . rcases F with F|F
        . rw[D]at F;cases F
        . rcases c3 with c3|c3
          . rw[F]at c3;cases c3
          . rw[hw]at c3;cases c3
    . rw[c1,G]at hk
      rcases D with⟨o,D⟩|D
      . exact hk.2 o D
      . have:=hk.1;omega
 . rcases Array.mem_append.1 C with C|C
   . exact MemAct.low_mono d.size (h.seen op C)
   . obtain⟨hg,e,P,L⟩:=H op C
     rw[L];exact vb (d.evs e P) (d.low e P)
 . obtain⟨x,A,B⟩:=touch_of T
   rcases getElem?_append_cases A with⟨b2,a9⟩|⟨_,al⟩
   . rcases h.acc n a (by rw[touchAt_of a9];exact B) hm with u|⟨j,k,u⟩|⟨p,hp,u⟩|u
     . exact .inl (u.app _)
     . exact .inr (.inl ⟨j,k,u.app _⟩)
     . exact .inr (.inr (.inl ⟨p,hp,u.app _⟩))
     . exact .inr (.inr (.inr ⟨u.1,u.2.1,λhc=>u.2.2 ((rD b2).1 hc)⟩))
   . obtain⟨hg,_⟩:=H x al
     have:=knows_own A;rw[hg]at this
     rcases hJ with rfl|hJ
     . exact .inl this
     . exact .inr (.inl ⟨i,hJ,this⟩)
 . obtain⟨u,O⟩:=h.kB a T
   refine⟨Nat.lt_of_lt_of_le u d.size,λj=>?_⟩
   by_cases k:j=i
   . subst k
     rw[au,au];refine⟨λhc=>?_,?_⟩
     . rcases U _ _ hc with hc|hc
       . exact(O j).1 hc
       . omega
     . cases q:k'.cell a.block a.off with
       |none=>rfl
       | some v=>
         rcases d.cell _ _ v q with F|F|F
         . rw[(O j).2]at F;cases F
         . exact absurd F (O j).1
         . omega
   . rw[az _ _ k,az _ _ k];exact O j
 . obtain⟨u,O⟩:=h.nN r hr
   refine⟨Nat.lt_of_lt_of_le u d.size,λj o S=>?_⟩
   by_cases k:j=i
   . subst k
     rw[au]at S
     rcases d.own r _ S with⟨y,K,V⟩|K
     . cases y with
       |obj o'=>exact O j o' K
       |tail m=>exact V.elim
       |part f=>exact V.elim
     . omega
   . rw[az _ _ k]at S;exact O j o S
 . by_cases k:j=i
   . subst k
     rw[au]at A
     rcases d.own b x A with⟨y,K,_⟩|K
     . exact h.mine j b y K
     . exact Nat.le_trans h.yT.size K
   . rw[az _ _ k]at A;exact h.mine j b x A
end
end Go.bd
