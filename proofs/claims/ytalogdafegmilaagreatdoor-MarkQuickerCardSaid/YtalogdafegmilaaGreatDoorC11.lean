/- Part 11 of the proof. -/
import Derived.Test.YtalogdafegmilaaGreatDoorC10
set_option linter.all false
namespace Go.aN
open Go.Conc
def nE(k:ag)(O:ah)(B:Nat)(a:Touch):Prop:=
 match a.loc with
 |.cell ad=>ad.block<B/\¬aP O ad.block ad.off/\(k.cell ad.block ad.off=none\/a.write=false)
 |.obj r=>r<B/\∀o,O r≠some (.obj o)
 |_=>True
def ag.bot:ag:=⟨λ_ _=>none,λ_=>none⟩
def ah.bot:ah:=λ_=>none
def ag.join(k k':ag):ag:=⟨λb i=>match k.cell b i with|some v=>some v|none=>k'.cell b i,λb=>match k.sh b with|some s=>some s|none=>k'.sh b⟩
theorem ag.lC(k k':ag):k.Le (k.join k'):=⟨λb i v h=>by simp[ag.join,h],λb s h=>by simp[ag.join,h]⟩
theorem ag.nZ{k k':ag}{O O':ah}{w:World}(h:Sat k O w)(h':Sat k' O' w):k'.Le (k.join k'):=⟨λb i v hv=>by
 simp only[ag.join];cases q:k.cell b i with
 |none=>exact hv
 |some u=>have:=h.cell b i u q;rw[h'.cell b i v hv]at this;simpa using this.symm,λb s hs=>by
 simp only[ag.join];cases q:k.sh b with
 |none=>exact hs
 |some u=>have:=h.sh b u q;rw[h'.sh b s hs]at this;simpa using this.symm⟩
theorem ag.kC{k k':ag}{b i:Nat}{v:Value}(h:(k.join k').cell b i=some v):k.cell b i=some v\/k'.cell b i=some v:=by
 simp only[ag.join]at h;cases q:k.cell b i with
 |none=>rw[q]at h;exact .inr h
 |some u=>rw[q]at h;exact .inl h
theorem ag.yA{k k':ag}{b:Nat}{s:TypeId × Nat}(h:(k.join k').sh b=some s):k.sh b=some s\/k'.sh b=some s:=by
 simp only[ag.join]at h;cases q:k.sh b with
 |none=>rw[q]at h;exact .inr h
 |some u=>rw[q]at h;exact .inl h
theorem aP.own{O:ah}{b i:Nat}(h:aP O b i):∃x,O b=some x:=by rcases h with⟨o,h⟩|⟨n,h,_⟩|⟨f,h,_⟩<;>exact⟨_,h⟩
theorem dH{O:ah}{b i:Nat}(h:O b=none):¬aP O b i:=λhc=>by obtain⟨x,hx⟩:=hc.own;rw[h]at hx;cases hx
structure Base where
 Shun:Loc->Prop
 N0:Nat
 lk:Nat
 la:Addr
 W0:World
def ED(Z:Base)(t:Trace)(i n:Nat):Prop:=if i=Z.lk then n<Z.N0\/∃p,Z.N0<=p/\t.act? p=some (.mark (.releaseMerge Z.la))/\t.heard p/\Before t n p else Knows t i n
theorem ED.app{Z:Base}{t:Trace}{i n:Nat}(h:ED Z t i n)(u:Trace):ED Z (t++u) i n:=by
 unfold ED at *;split at h
 . next e=>
   rw[if_pos e];rcases h with h|⟨p,h0,h1,h2,h3⟩
   . exact .inl h
   have hp:=lt_of_act? h1;exact .inr ⟨p,h0,by rw[act?_old hp];exact h1,(heard_old hp).2 h2,h3.app u⟩
 . next e=>rw[if_neg e];exact h.app u
theorem mR{Z:Base}{t:Trace}{i n:Nat}(hi:i≠Z.lk):ED Z t i n↔Knows t i n:=by unfold ED;rw[if_neg hi]
def Pl(Z:Base)(t:Trace)(i:Nat)(k:ag)(O:ah)(B:Nat):Prop:=∀n a,touchAt t n=some a->a.loc.isMemory=true->ED Z t i n\/nE k O B a
structure bV(Z:Base)(kk:Nat->ag)(OO:Nat->ah)(J M:Nat->Prop)(w:World)(t:Trace):Prop where
 sat:∀i,Sat (kk i) (OO i) w
 iV:∀i j b x,i≠j->OO i b=some x->OO j b=none
 my:∀i j b n v,i≠j->(kk j).cell b n=some v -> ¬aP (OO i) b n
 yB:∀i,Pl Z t i (kk i) (OO i) w.heap.size
 clean:∀said,¬Race said t
 seen:∀op∈t,op.act.low w.heap.size
 acc:∀n a,touchAt t n=some a->a.loc.isMemory=true->Knows t 0 n\/(∃j,J j/\Knows t j n)\/(∃p,M p/\Before t n p)\/(Z.Shun a.loc/\a.kind=.atomic/\(t.counts n->n<Z.N0))
 n0:Z.N0<=t.size
 u0:∀n g,n<Z.N0->t.g? n=some g->g≠0->t.counts n->∃j,t.g? j=some 0/\HappensBefore t n j
 jE:∀a,Z.Shun (.cell a)->a.block<w.heap.size/\∀i,¬aP (OO i) a.block a.off/\(kk i).cell a.block a.off=none
 mz:∀r,Z.Shun (.obj r)->r<w.heap.size/\∀i o,OO i r≠some (.obj o)
 wo:jx Z.W0 w
 mine:∀i b x,OO i b=some x->Z.W0.heap.size<=b
def bv{α:Type}(f:Nat->α)(i:Nat)(x:α):Nat->α:=λj=>if j=i then x else f j
theorem an{α:Type}(f:Nat->α)(i:Nat)(x:α):bv f i x i=x:=by simp[bv]
theorem ar{α:Type}(f:Nat->α){i j:Nat}(x:α)(h:j≠i):bv f i x j=f j:=by simp[bv,h]
theorem lR{k:ag}{O:ah}{B:Nat}{e:Event}{b:Touch}(he:iJ k O B e)(hb:(MemAct.ofEvent e).touch?=some b):
 (∃ad,b.loc=.cell ad/\(aP O ad.block ad.off\/B<=ad.block\/(b.write=false/\∃v,k.cell ad.block ad.off=some v)))\/∃r,b.loc=.obj r/\((∃o,O r=some (.obj o))\/B<=r):=by
 obtain⟨loc,wr,sy⟩:=e;cases loc with
 |cell ad=>simp only[iJ]at he;simp only[MemAct.ofEvent,MemAct.touch?,Option.some.injEq]at hb;subst hb;exact .inl ⟨ad,rfl,he⟩
 |obj r=>simp only[iJ]at he;cases wr<;>cases sy<;>simp only[MemAct.ofEvent,MemAct.touch?,Option.some.injEq,reduceCtorEq]at hb<;>subst hb<;>exact .inr ⟨r,rfl,he⟩
 |mark m=>simp only[iJ]at he;cases m<;>simp_all [js,lM,MemAct.ofEvent,MemAct.touch?]
 |_=>simp[iJ]at he
theorem ta{k:ag}{O:ah}{B B':Nat}{e:Event}(he:iJ k O B e)(hl:jd B' e):(MemAct.ofEvent e).low B':=by
 obtain⟨loc,wr,sy⟩:=e;cases loc with
 |cell ad=>simpa[MemAct.ofEvent,MemAct.low,Loc.low,jd]using hl
 |obj r=>simp only[jd]at hl;cases wr<;>cases sy<;>simpa[MemAct.ofEvent,MemAct.low,Loc.low]using hl
 |mark m=>simp only[iJ]at he;cases m<;>simp_all [js,lM,MemAct.ofEvent,MemAct.low,jd]
 |_=>simp[iJ]at he
theorem qa{t u:Trace}{n:Nat}(hn:n<t.size):(t++u).counts n↔t.counts n:=by unfold Trace.counts;rw[act?_old hn,heard_old hn]
section
variable{Z:Base}{kk:Nat->ag}{OO:Nat->ah}{J M:Nat->Prop}{w:World}{t:Trace}
theorem bV.An(h:bV Z kk OO J M w t)(u:Trace):∀n g,n<Z.N0->(t++u).g? n=some g->g≠0->(t++u).counts n->∃j,(t++u).g? j=some 0/\HappensBefore (t++u) n j:=λn g hn hg h0 hc=>by
 have hnt:n<t.size:=Nat.lt_of_lt_of_le hn h.n0;rw[g?_old hnt]at hg;rw[qa hnt]at hc;obtain⟨j,hj,hb⟩:=h.u0 n g hn hg h0 hc
 have hjt:j<t.size:=by unfold Trace.g? at hj;obtain⟨z,hz,_⟩:=Option.map_eq_some_iff.1 hj;exact lt_size_of_getElem? hz
 exact⟨j,by rw[g?_old hjt];exact hj,hb_app u hb⟩
theorem bV.own(h:bV Z kk OO J M w t){i:Nat}(hlk:i≠Z.lk)(hJ:i=0\/J i){k':ag}{O':ah}{w':World}{es:Array Event}{fn:FuncId}{pos:String}(he:Eff (kk i) (OO i) w k' O' w' es.toList)(hs:Sat k' O' w'):
 bV Z (bv kk i k') (bv OO i O') J M w' (t++MemOp.ofEvents i fn pos es):=by
 have hops:∀op∈MemOp.ofEvents i fn pos es,op.g=i/\∃e∈es.toList,op.act=.ofEvent e:=λop hop=>by obtain⟨e,he,rfl⟩:=Go.Conc.mem_ofEvents hop;exact⟨rfl,e,by simpa using he,rfl⟩
 have hcov:∀b n,aP O' b n->aP (OO i) b n\/w.heap.size<=b:=he.BO
 have hsat:∀j,j≠i->Sat (kk j) (OO j) w':=λj hj=>by
  have hold:∀b,b<w.heap.size->OO j b≠none->w'.heap[b]?=w.heap[b]?:=λb hb hn=>by
   cases q:OO j b with
   |none=>exact absurd q hn
   |some x=>exact he.keep b hb (h.iV j i b x hj q)
  refine⟨(h.sat j).apart,λb n v hv=>?_,λb s hs=>?_,λb o ho=>?_,λb n hn=>?_,λb f hn=>?_⟩
  . have hb:=(h.sat j).ou hv
    have hc:=(h.sat j).cell b n v hv;have hnc:=h.my i j b n v (Ne.symm hj) hv;cases q:OO i b with
    |none=>have:=he.keep b hb q;simpa only[World.cell?,this]using hc
    | some x=>
      cases x with
      |obj o=>exact absurd (.inl ⟨o,q⟩) hnc
      | tail m=>
        have hnm:n<m:=Nat.lt_of_not_le λhh=>hnc (.inr (.inl ⟨m,q,hh⟩))
        obtain⟨c,e,h1,_⟩:=(h.sat i).tail b m q;obtain⟨c',h2,h3,h4⟩:=he.tail b m hb q c e h1;simp only[World.cell?,h1,h2]at hc ⊢;rw[h4 n hnm];exact hc
      | part f=>
        have hnm:f n=none:=Classical.byContradiction λhh=>hnc (.inr (.inr ⟨f,q,hh⟩))
        obtain⟨c,e,h1,_⟩:=(h.sat i).part b f q;obtain⟨c',h2,h3,h4⟩:=he.part b f hb q c e h1;simp only[World.cell?,h1,h2]at hc ⊢;rw[h4 n hnm];exact hc
  . have hb:=(h.sat j).Gl hs
    rw[he.shape b hb];exact(h.sat j).sh b s hs
  . rw[hold b ((h.sat j).nH ho) (by rw[ho];simp)];exact(h.sat j).obj b o ho
  . rw[hold b ((h.sat j).nH hn) (by rw[hn];simp)];exact(h.sat j).tail b n hn
  . rw[hold b ((h.sat j).nH hn) (by rw[hn];simp)];exact(h.sat j).part b f hn
 have hfresh:∀j b x,OO j b=some x->b<w.heap.size:=λj b x hx=>(h.sat j).nH hx
 have hfreshc:∀j b n v,(kk j).cell b n=some v->b<w.heap.size:=λj b n v hv=>(h.sat j).ou hv
 refine⟨λj=>?_,λa b c x hab hx=>?_,λa b c n v hab hv=>?_,λj=>?_,λsaid=>?_,λop hop=>?_,λn a ha hm=>?_,by simp;exact Nat.le_trans h.n0 (Nat.le_add_right _ _),h.An _,λa ha=>?_,λr hr=>?_,h.wo.step (by rw[he.os];exact .refl _) he.output he.size (λb hb=>he.keep b (Nat.lt_of_lt_of_le hb h.wo.size) (Option.eq_none_iff_forall_ne_some.2 λx hx=>by have:=h.mine i b x hx;omega)),λj b x hx=>?_⟩
 . by_cases hj:j=i
   . subst hj;rw[an,an];exact hs
   . rw[ar _ _ hj,ar _ _ hj];exact hsat j hj
 . by_cases ha:a=i
   . subst ha
     rw[an]at hx;rw[ar _ _ (Ne.symm hab)]
     rcases he.own c x hx with⟨y,hy,_⟩|hy
     . exact h.iV a b c y hab hy
     . cases q:OO b c with
       |none=>rfl
       |some z=>have:=hfresh b c z q;omega
   . rw [ar _ _ ha]at hx
     by_cases hb:b=i
     . subst hb
       rw[an];cases q:O' c with
       |none=>rfl
       | some z=>
         rcases he.own c z q with⟨y,hy,_⟩|hy
         . have:=h.iV a b c x hab hx;rw[hy]at this;cases this
         . have:=hfresh a c x hx;omega
     . rw[ar _ _ hb];exact h.iV a b c x hab hx
 . by_cases ha:a=i
   . subst ha
     rw[an];rw[ar _ _ (Ne.symm hab)]at hv;intro hc
     rcases hcov c n hc with hc|hc
     . exact h.my a b c n v hab hv hc
     . have:=hfreshc b c n v hv;omega
   . rw [ar _ _ ha]
     by_cases hb:b=i
     . subst hb
       rw[an]at hv;intro hc
       rcases he.cell c n v hv with h1|h1|h1
       . exact h.my a b c n v hab h1 hc
       . obtain⟨x,hx⟩:=h1.own
         have:=h.iV b a c x (Ne.symm hab) hx;exact dH this hc
       . obtain⟨x,hx⟩:=hc.own
         have:=hfresh a c _ hx;omega
     . rw[ar _ _ hb]at hv;exact h.my a b c n v hab hv
 ·
  intro n a ha hm;obtain⟨x,hx,hxa⟩:=touch_of ha
  rcases getElem?_append_cases hx with⟨_,hx'⟩|⟨_,hxu⟩
  . rcases h.yB j n a (by rw[touchAt_of hx'];exact hxa) hm with hk|hk
    . exact .inl (hk.app _)
    . refine .inr ?_
      by_cases hj:j=i
      . subst hj
        rw[an,an];unfold nE at hk ⊢;split
        . next ad hl=>
          rw[hl]at hk;obtain⟨h1,h2,h3⟩:=hk;refine⟨Nat.lt_of_lt_of_le h1 he.size,λhc=>?_,?_⟩
          . rcases hcov _ _ hc with hc|hc
            . exact h2 hc
            . omega
          . rcases h3 with h3|h3
            . cases q:k'.cell ad.block ad.off with
              |none=>exact .inl rfl
              | some v=>
                rcases he.cell _ _ v q with h4|h4|h4
                . rw[h3]at h4;cases h4
                . exact absurd h4 h2
                . omega
            . exact .inr h3
        . next r hl=>
          rw[hl]at hk;refine⟨Nat.lt_of_lt_of_le hk.1 he.size,λo ho=>?_⟩
          rcases he.own r _ ho with⟨y,hy,hbc⟩|hy
          . cases y with
            |obj o'=>exact hk.2 o' hy
            |tail m=>exact hbc.elim
            |part f=>exact hbc.elim
          . have:=hk.1;omega
        . trivial
      . rw[ar _ _ hj,ar _ _ hj]
        unfold nE at hk ⊢;split
        . next ad hl=>rw[hl]at hk;exact⟨Nat.lt_of_lt_of_le hk.1 he.size,hk.2⟩
        . next r hl=>rw[hl]at hk;exact⟨Nat.lt_of_lt_of_le hk.1 he.size,hk.2⟩
        . trivial
  . obtain ⟨hg,e,hel,hact⟩:=hops x hxu
    by_cases hj:j=i
    . subst hj
      have:=knows_own hx;rw[hg]at this;exact .inl ((mR hlk).2 this)
    . refine .inr ?_
      rw[ar _ _ hj,ar _ _ hj];rw[hact]at hxa;have hev:=he.evs e hel;have hlow:=he.low e hel
      rcases lR hev hxa with⟨ad,hl,hc⟩|⟨r,hl,hc⟩
      . unfold nE;rw[hl]
        have hlb:ad.block<w'.heap.size:=by
         have:=ta hev hlow;obtain⟨loc,wr,sy⟩:=e;cases loc with
         |cell ad'=>simp only[MemAct.ofEvent,MemAct.touch?,Option.some.injEq]at hxa;subst hxa;simp only[Loc.cell.injEq]at hl;subst hl;simpa[jd]using hlow
         |obj r=>cases wr<;>cases sy<;>simp only[MemAct.ofEvent,MemAct.touch?,Option.some.injEq,reduceCtorEq]at hxa<;>subst hxa<;>cases hl
         |mark m=>simp only[iJ]at hev;cases m<;>simp_all [js,lM,MemAct.ofEvent,MemAct.touch?]
         |_=>simp[iJ]at hev
        refine⟨hlb,λhcj=>?_,?_⟩
        . rcases hc with hc|hc|⟨_,v,hc⟩
          . obtain⟨y,hy⟩:=hc.own
            have:=h.iV i j _ y (Ne.symm hj) hy;exact dH this hcj
          . obtain⟨x,hx⟩:=hcj.own
            have:=hfresh j _ _ hx;omega
          . exact h.my j i _ _ v hj hc hcj
        . rcases hc with hc|hc|⟨hc,_⟩
          . cases q:(kk j).cell ad.block ad.off with
            |none=>exact .inl rfl
            |some v=>exact absurd hc (h.my i j _ _ v (Ne.symm hj) q)
          . cases q:(kk j).cell ad.block ad.off with
            |none=>exact .inl rfl
            |some v=>have:=hfreshc j _ _ v q;omega
          . exact .inr hc
      . unfold nE;rw[hl]
        have hlb:r<w'.heap.size:=by
         obtain⟨loc,wr,sy⟩:=e;cases loc with
         |cell ad'=>simp only[MemAct.ofEvent,MemAct.touch?,Option.some.injEq]at hxa;subst hxa;cases hl
         |obj r'=>simp only[jd]at hlow;cases wr<;>cases sy<;>simp only[MemAct.ofEvent,MemAct.touch?,Option.some.injEq,reduceCtorEq]at hxa<;>subst hxa<;>cases hl<;>exact hlow
         |mark m=>simp only[iJ]at hev;cases m<;>simp_all [js,lM,MemAct.ofEvent,MemAct.touch?]
         |_=>simp[iJ]at hev
        refine⟨hlb,λo ho=>?_⟩
        rcases hc with⟨o',hc⟩|hc
        . have:=h.iV j i r _ hj ho
          rw[hc]at this;cases this
        . have:=hfresh j r _ ho;omega
 ·
  refine noRace_append (h.clean said) (λop hop=>(hops op hop).1) λn a ha op hop b hb hc=>?_
  obtain⟨hg,e,hel,hact⟩:=hops op hop;rw[hact]at hb;have hev:=he.evs e hel;obtain⟨c1,c2,c3,c4⟩:=hc
  rcases h.yB i n a ha c2 with hk|hk
  . exact(mR hlk).1 hk
  . exfalso
    unfold nE at hk
    rcases lR hev hb with⟨ad,hl,hcc⟩|⟨r,hl,hcc⟩
    . rw [c1,hl]at hk
      obtain⟨h1,h2,h3⟩:=hk
      rcases hcc with hcc|hcc|⟨hw,v,hcc⟩
      . exact h2 hcc
      . omega
      . rcases h3 with h3|h3
        . rw[hcc]at h3;cases h3
        . rcases c3 with c3|c3
          . rw[h3]at c3;cases c3
          . rw[hw]at c3;cases c3
    . rw[c1,hl]at hk
      rcases hcc with⟨o,hcc⟩|hcc
      . exact hk.2 o hcc
      . have:=hk.1;omega
 . rcases Array.mem_append.1 hop with hop|hop
   . exact MemAct.low_mono he.size (h.seen op hop)
   . obtain⟨hg,e,hel,hact⟩:=hops op hop
     rw[hact];exact ta (he.evs e hel) (he.low e hel)
 . obtain⟨x,hx,hxa⟩:=touch_of ha
   rcases getElem?_append_cases hx with⟨hlt,hx'⟩|⟨_,hxu⟩
   . rcases h.acc n a (by rw[touchAt_of hx'];exact hxa) hm with h1|⟨j,hj,h1⟩|⟨p,hp,h1⟩|h1
     . exact .inl (h1.app _)
     . exact .inr (.inl ⟨j,hj,h1.app _⟩)
     . exact .inr (.inr (.inl ⟨p,hp,h1.app _⟩))
     . exact .inr (.inr (.inr ⟨h1.1,h1.2.1,λhc=>h1.2.2 ((qa hlt).1 hc)⟩))
   . obtain⟨hg,_⟩:=hops x hxu
     have:=knows_own hx;rw[hg]at this
     rcases hJ with rfl|hJ
     . exact .inl this
     . exact .inr (.inl ⟨i,hJ,this⟩)
 . obtain⟨h1,h2⟩:=h.jE a ha
   refine⟨Nat.lt_of_lt_of_le h1 he.size,λj=>?_⟩
   by_cases hj:j=i
   . subst hj
     rw[an,an];refine⟨λhc=>?_,?_⟩
     . rcases hcov _ _ hc with hc|hc
       . exact(h2 j).1 hc
       . omega
     . cases q:k'.cell a.block a.off with
       |none=>rfl
       | some v=>
         rcases he.cell _ _ v q with h3|h3|h3
         . rw[(h2 j).2]at h3;cases h3
         . exact absurd h3 (h2 j).1
         . omega
   . rw[ar _ _ hj,ar _ _ hj];exact h2 j
 . obtain⟨h1,h2⟩:=h.mz r hr
   refine⟨Nat.lt_of_lt_of_le h1 he.size,λj o ho=>?_⟩
   by_cases hj:j=i
   . subst hj
     rw[an]at ho
     rcases he.own r _ ho with⟨y,hy,hbc⟩|hy
     . cases y with
       |obj o'=>exact h2 j o' hy
       |tail m=>exact hbc.elim
       |part f=>exact hbc.elim
     . omega
   . rw[ar _ _ hj]at ho;exact h2 j o ho
 . by_cases hj:j=i
   . subst hj
     rw[an]at hx
     rcases he.own b x hx with⟨y,hy,_⟩|hy
     . exact h.mine j b y hy
     . exact Nat.le_trans h.wo.size hy
   . rw[ar _ _ hj]at hx;exact h.mine j b x hx
end
end Go.aN
