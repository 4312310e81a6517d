/- Part 10 of the proof. -/
import Derived.Test.YtibjfmfdjncniaaGreatDoorC9
set_option linter.all false
namespace Go.Pal
open Go.Conc
def Away (k:Know) (O:OwnM) (B:Nat) (a:Touch):Prop:=
  match a.loc with
  | .cell ad=>ad.block<B ∧ ¬ Covers O ad.block ad.off∧(k.cell ad.block ad.off=none∨a.write=false)
  | .obj r=>r<B∧∀ o,O r≠some (.obj o)
  | _=>True
def Know.bot:Know:=⟨fun _ _=>none,fun _=>none⟩
def OwnM.bot:OwnM:=fun _=>none
def Know.join (k k':Know):Know:=⟨fun b i=>match k.cell b i with|some v=>some v|none=>k'.cell b i,fun b=>match k.sh b with|some s=>some s|none=>k'.sh b⟩
theorem Know.le_join (k k':Know):k.Le (k.join k'):=⟨fun b i v h=>by simp[Know.join,h],fun b s h=>by simp[Know.join,h]⟩
theorem Know.le_join' {k k':Know} {O O':OwnM} {w:World} (h:Sat k O w) (h':Sat k' O' w):k'.Le (k.join k'):=⟨fun b i v hv=>by
    simp only[Know.join];cases q:k.cell b i with
    | none=>exact hv
    | some u=>
      have:=h.cell b i u q;rw[h'.cell b i v hv] at this;simpa using this.symm,fun b s hs=>by
    simp only[Know.join];cases q:k.sh b with
    | none=>exact hs
    | some u=>
      have:=h.sh b u q;rw[h'.sh b s hs] at this;simpa using this.symm⟩
theorem Know.join_cell {k k':Know} {b i:Nat} {v:Value} (h:(k.join k').cell b i=some v):k.cell b i=some v∨k'.cell b i=some v:=by
  simp only[Know.join] at h;cases q:k.cell b i with
  | none=>rw[q] at h;exact .inr h
  | some u=>rw[q] at h;exact .inl h
theorem Know.join_sh {k k':Know} {b:Nat} {s:TypeId × Nat} (h:(k.join k').sh b=some s):k.sh b=some s∨k'.sh b=some s:=by
  simp only[Know.join] at h;cases q:k.sh b with
  | none=>rw[q] at h;exact .inr h
  | some u=>rw[q] at h;exact .inl h
theorem Covers.own {O:OwnM} {b i:Nat} (h:Covers O b i):∃ x,O b=some x:=by
  rcases h with ⟨o,h⟩|⟨n,h,_⟩|⟨f,h,_⟩ <;> exact⟨_,h⟩
theorem not_covers {O:OwnM} {b i:Nat} (h:O b=none) : ¬ Covers O b i:=fun hc=>by
  obtain⟨x,hx⟩:=hc.own;rw[h] at hx;cases hx
structure Base where
  Shun:Loc->Prop
  N0:Nat
  lk:Nat
  la:Addr
  W0:World
def Kno (Z:Base) (t:Trace) (i n:Nat):Prop:=if i=Z.lk then n<Z.N0∨∃ p,Z.N0≤p∧t.act? p=some (.mark (.releaseMerge Z.la))∧t.heard p∧Before t n p else Knows t i n
theorem Kno.app {Z:Base} {t:Trace} {i n:Nat} (h:Kno Z t i n) (u:Trace):Kno Z (t ++ u) i n:=by
  unfold Kno at *;split at h
  . next e=>
    rw[if_pos e]
    rcases h with h|⟨p,h0,h1,h2,h3⟩
    . exact .inl h
    have hp:=lt_of_act? h1;exact .inr ⟨p,h0,by rw[act?_old hp];exact h1,(heard_old hp).2 h2,h3.app u⟩
  . next e=>rw[if_neg e];exact h.app u
theorem kno_of {Z:Base} {t:Trace} {i n:Nat} (hi:i≠Z.lk):Kno Z t i n ↔ Knows t i n:=by unfold Kno;rw[if_neg hi]
def Sees (Z:Base) (t:Trace) (i:Nat) (k:Know) (O:OwnM) (B:Nat):Prop := ∀ n a,touchAt t n=some a->a.loc.isMemory=true->Kno Z t i n∨Away k O B a
structure Pool (Z:Base) (kk:Nat->Know) (OO:Nat->OwnM) (J M:Nat->Prop) (w:World) (t:Trace):Prop where
  sat:∀ i,Sat (kk i) (OO i) w
  dis:∀ i j b x,i≠j->OO i b=some x->OO j b=none
  cross:∀ i j b n v,i≠j->(kk j).cell b n=some v -> ¬ Covers (OO i) b n
  sees:∀ i,Sees Z t i (kk i) (OO i) w.heap.size
  clean:∀ said,¬ Race said t
  seen:∀ op∈t,op.act.low w.heap.size
  acc:∀ n a,touchAt t n=some a->a.loc.isMemory=true->Knows t 0 n∨(∃ j,J j∧Knows t j n)∨(∃ p,M p∧Before t n p)∨(Z.Shun a.loc∧a.kind = .atomic∧(t.counts n->n<Z.N0))
  n0:Z.N0≤t.size
  over0:∀ n g,n<Z.N0->t.g? n=some g->g≠0->t.counts n->∃ j,t.g? j=some 0∧HappensBefore t n j
  shunC:∀ a,Z.Shun (.cell a)->a.block<w.heap.size∧∀ i,¬ Covers (OO i) a.block a.off∧(kk i).cell a.block a.off=none
  shunO:∀ r,Z.Shun (.obj r)->r<w.heap.size∧∀ i o,OO i r≠some (.obj o)
  fram:Fram Z.W0 w
  mine:∀ i b x,OO i b=some x->Z.W0.heap.size≤b
def updK {α:Type} (f:Nat->α) (i:Nat) (x:α):Nat->α:=fun j=>if j=i then x else f j
theorem updK_same {α:Type} (f:Nat->α) (i:Nat) (x:α):updK f i x i=x:=by simp[updK]
theorem updK_ne {α:Type} (f:Nat->α) {i j:Nat} (x:α) (h:j≠i):updK f i x j=f j:=by simp[updK,h]
theorem touch_ofEvent {k:Know} {O:OwnM} {B:Nat} {e:Event} {b:Touch} (he:EvOK k O B e) (hb:(MemAct.ofEvent e).touch? = some b) :
    (∃ ad,b.loc = .cell ad∧(Covers O ad.block ad.off∨B≤ad.block∨(b.write=false∧∃ v,k.cell ad.block ad.off=some v)))∨∃ r,b.loc = .obj r∧((∃ o,O r=some (.obj o))∨B≤r):=by
  obtain⟨loc,wr,sy⟩:=e;cases loc with
  | cell ad=>
    simp only[EvOK] at he;simp only[MemAct.ofEvent,MemAct.touch?,Option.some.injEq] at hb;subst hb;exact .inl ⟨ad,rfl,he⟩
  | obj r=>
    simp only[EvOK] at he;cases wr <;> cases sy <;> simp only[MemAct.ofEvent,MemAct.touch?,Option.some.injEq,reduceCtorEq] at hb <;> subst hb <;> exact .inr ⟨r,rfl,he⟩
  | mark m=>
    simp only[EvOK] at he;cases m <;> simp_all [markOwn,markOK,MemAct.ofEvent,MemAct.touch?]
  | _=>simp[EvOK] at he
theorem low_ofEvent {k:Know} {O:OwnM} {B B':Nat} {e:Event} (he:EvOK k O B e) (hl:EvLow B' e):(MemAct.ofEvent e).low B':=by
  obtain⟨loc,wr,sy⟩:=e;cases loc with
  | cell ad=>simpa[MemAct.ofEvent,MemAct.low,Loc.low,EvLow] using hl
  | obj r=>
    simp only[EvLow] at hl;cases wr <;> cases sy <;> simpa[MemAct.ofEvent,MemAct.low,Loc.low] using hl
  | mark m=>
    simp only[EvOK] at he;cases m <;> simp_all [markOwn,markOK,MemAct.ofEvent,MemAct.low,EvLow]
  | _=>simp[EvOK] at he
theorem counts_app {t u:Trace} {n:Nat} (hn:n<t.size):(t ++ u).counts n ↔ t.counts n:=by
  unfold Trace.counts;rw[act?_old hn,heard_old hn]
section
variable {Z:Base} {kk:Nat->Know} {OO:Nat->OwnM} {J M:Nat->Prop} {w:World} {t:Trace}
theorem Pool.over0App (h:Pool Z kk OO J M w t) (u:Trace):∀ n g,n<Z.N0->(t ++ u).g? n=some g->g≠0->(t ++ u).counts n->∃ j,(t ++ u).g? j=some 0∧HappensBefore (t ++ u) n j:=fun n g hn hg h0 hc=>by
  have hnt:n<t.size:=Nat.lt_of_lt_of_le hn h.n0;rw[g?_old hnt] at hg;rw[counts_app hnt] at hc;obtain⟨j,hj,hb⟩:=h.over0 n g hn hg h0 hc
  have hjt:j<t.size:=by
    unfold Trace.g? at hj;obtain⟨z,hz,_⟩:=Option.map_eq_some_iff.1 hj;exact lt_size_of_getElem? hz
  exact⟨j,by rw[g?_old hjt];exact hj,hb_app u hb⟩
theorem Pool.own (h:Pool Z kk OO J M w t) {i:Nat} (hlk:i≠Z.lk) (hJ:i=0∨J i) {k':Know} {O':OwnM} {w':World} {es:Array Event} {fn:FuncId} {pos:String} (he:Eff (kk i) (OO i) w k' O' w' es.toList) (hs:Sat k' O' w') :
    Pool Z (updK kk i k') (updK OO i O') J M w' (t ++ MemOp.ofEvents i fn pos es):=by
  have hops:∀ op∈MemOp.ofEvents i fn pos es,op.g=i∧∃ e∈es.toList,op.act = .ofEvent e:=fun op hop=>by
    obtain⟨e,he,rfl⟩:=Go.Conc.mem_ofEvents hop;exact⟨rfl,e,by simpa using he,rfl⟩
  have hcov:∀ b n,Covers O' b n->Covers (OO i) b n∨w.heap.size≤b:=he.covers
  have hsat:∀ j,j≠i->Sat (kk j) (OO j) w':=fun j hj=>by
    have hold:∀ b,b<w.heap.size->OO j b≠none->w'.heap[b]? = w.heap[b]?:=fun b hb hn=>by
      cases q:OO j b with
      | none=>exact absurd q hn
      | some x=>exact he.keep b hb (h.dis j i b x hj q)
    refine⟨(h.sat j).apart,fun b n v hv=>?_,fun b s hs=>?_,fun b o ho=>?_,fun b n hn=>?_,fun b f hn=>?_⟩
    . have hb:=(h.sat j).lt_cell hv
      have hc:=(h.sat j).cell b n v hv;have hnc:=h.cross i j b n v (Ne.symm hj) hv;cases q:OO i b with
      | none=>
        have:=he.keep b hb q;simpa only [World.cell?,this] using hc
      | some x=>
        cases x with
        | obj o=>exact absurd (.inl ⟨o,q⟩) hnc
        | tail m=>
          have hnm:n<m:=Nat.lt_of_not_le fun hh=>hnc (.inr (.inl ⟨m,q,hh⟩))
          obtain⟨c,e,h1,_⟩:=(h.sat i).tail b m q;obtain⟨c',h2,h3,h4⟩:=he.tail b m hb q c e h1;simp only[World.cell?,h1,h2] at hc ⊢;rw[h4 n hnm];exact hc
        | part f=>
          have hnm:f n=none:=Classical.byContradiction fun hh=>hnc (.inr (.inr ⟨f,q,hh⟩))
          obtain⟨c,e,h1,_⟩:=(h.sat i).part b f q;obtain⟨c',h2,h3,h4⟩:=he.part b f hb q c e h1;simp only[World.cell?,h1,h2] at hc ⊢;rw[h4 n hnm];exact hc
    . have hb:=(h.sat j).lt_sh hs
      rw[he.shape b hb];exact (h.sat j).sh b s hs
    . rw[hold b ((h.sat j).lt_own ho) (by rw[ho];simp)];exact (h.sat j).obj b o ho
    . rw[hold b ((h.sat j).lt_own hn) (by rw[hn];simp)];exact (h.sat j).tail b n hn
    . rw[hold b ((h.sat j).lt_own hn) (by rw[hn];simp)];exact (h.sat j).part b f hn
  have hfresh:∀ j b x,OO j b=some x->b<w.heap.size:=fun j b x hx=>(h.sat j).lt_own hx
  have hfreshc:∀ j b n v,(kk j).cell b n=some v->b<w.heap.size:=fun j b n v hv=>(h.sat j).lt_cell hv
  refine⟨fun j=>?_,fun a b c x hab hx=>?_,fun a b c n v hab hv=>?_,fun j=>?_,fun said=>?_,fun op hop=>?_,fun n a ha hm=>?_,by simp;exact Nat.le_trans h.n0 (Nat.le_add_right _ _),h.over0App _,fun a ha=>?_,fun r hr=>?_,h.fram.step (by rw[he.os];exact .refl _) he.output he.size (fun b hb=>he.keep b (Nat.lt_of_lt_of_le hb h.fram.size) (Option.eq_none_iff_forall_ne_some.2 fun x hx=>by have:=h.mine i b x hx;omega)),fun j b x hx=>?_⟩
  . by_cases hj:j=i
    . subst hj;rw[updK_same,updK_same];exact hs
    . rw[updK_ne _ _ hj,updK_ne _ _ hj];exact hsat j hj
  . by_cases ha:a=i
    . subst ha
      rw[updK_same] at hx;rw[updK_ne _ _ (Ne.symm hab)]
      rcases he.own c x hx with ⟨y,hy,_⟩|hy
      . exact h.dis a b c y hab hy
      . cases q:OO b c with
        | none=>rfl
        | some z=>have:=hfresh b c z q;omega
    . rw [updK_ne _ _ ha] at hx
      by_cases hb:b=i
      . subst hb
        rw[updK_same];cases q:O' c with
        | none=>rfl
        | some z=>
          rcases he.own c z q with ⟨y,hy,_⟩|hy
          . have:=h.dis a b c x hab hx;rw[hy] at this;cases this
          . have:=hfresh a c x hx;omega
      . rw[updK_ne _ _ hb];exact h.dis a b c x hab hx
  . by_cases ha:a=i
    . subst ha
      rw[updK_same];rw[updK_ne _ _ (Ne.symm hab)] at hv;intro hc
      rcases hcov c n hc with hc|hc
      . exact h.cross a b c n v hab hv hc
      . have:=hfreshc b c n v hv;omega
    . rw [updK_ne _ _ ha]
      by_cases hb:b=i
      . subst hb
        rw[updK_same] at hv;intro hc
        rcases he.cell c n v hv with h1|h1|h1
        . exact h.cross a b c n v hab h1 hc
        . obtain⟨x,hx⟩:=h1.own
          have:=h.dis b a c x (Ne.symm hab) hx;exact not_covers this hc
        . obtain⟨x,hx⟩:=hc.own
          have:=hfresh a c _ hx;omega
      . rw[updK_ne _ _ hb] at hv;exact h.cross a b c n v hab hv
  ·
    intro n a ha hm;obtain⟨x,hx,hxa⟩:=touch_of ha
    rcases getElem?_append_cases hx with ⟨_,hx'⟩|⟨_,hxu⟩
    . rcases h.sees j n a (by rw[touchAt_of hx'];exact hxa) hm with hk|hk
      . exact .inl (hk.app _)
      . refine .inr ?_
        by_cases hj:j=i
        . subst hj
          rw[updK_same,updK_same];unfold Away at hk ⊢;split
          . next ad hl=>
            rw[hl] at hk;obtain⟨h1,h2,h3⟩:=hk;refine⟨Nat.lt_of_lt_of_le h1 he.size,fun hc=>?_,?_⟩
            . rcases hcov _ _ hc with hc|hc
              . exact h2 hc
              . omega
            . rcases h3 with h3|h3
              . cases q:k'.cell ad.block ad.off with
                | none=>exact .inl rfl
                | some v=>
                  rcases he.cell _ _ v q with h4|h4|h4
                  . rw[h3] at h4;cases h4
                  . exact absurd h4 h2
                  . omega
              . exact .inr h3
          . next r hl=>
            rw[hl] at hk;refine⟨Nat.lt_of_lt_of_le hk.1 he.size,fun o ho=>?_⟩
            rcases he.own r _ ho with ⟨y,hy,hbc⟩|hy
            . cases y with
              | obj o'=>exact hk.2 o' hy
              | tail m=>exact hbc.elim
              | part f=>exact hbc.elim
            . have:=hk.1;omega
          . trivial
        . rw[updK_ne _ _ hj,updK_ne _ _ hj]
          unfold Away at hk ⊢;split
          . next ad hl=>rw[hl] at hk;exact⟨Nat.lt_of_lt_of_le hk.1 he.size,hk.2⟩
          . next r hl=>rw[hl] at hk;exact⟨Nat.lt_of_lt_of_le hk.1 he.size,hk.2⟩
          . trivial
    . obtain ⟨hg,e,hel,hact⟩:=hops x hxu
      by_cases hj:j=i
      . subst hj
        have:=knows_own hx;rw[hg] at this;exact .inl ((kno_of hlk).2 this)
      . refine .inr ?_
        rw[updK_ne _ _ hj,updK_ne _ _ hj];rw[hact] at hxa;have hev:=he.evs e hel;have hlow:=he.low e hel
        rcases touch_ofEvent hev hxa with ⟨ad,hl,hc⟩|⟨r,hl,hc⟩
        . unfold Away;rw[hl]
          have hlb:ad.block<w'.heap.size:=by
            have:=low_ofEvent hev hlow;obtain⟨loc,wr,sy⟩:=e;cases loc with
            | cell ad'=>
              simp only[MemAct.ofEvent,MemAct.touch?,Option.some.injEq] at hxa;subst hxa;simp only[Loc.cell.injEq] at hl;subst hl;simpa[EvLow] using hlow
            | obj r=>cases wr <;> cases sy <;> simp only[MemAct.ofEvent,MemAct.touch?,Option.some.injEq,reduceCtorEq] at hxa <;> subst hxa <;> cases hl
            | mark m=>simp only[EvOK] at hev;cases m <;> simp_all [markOwn,markOK,MemAct.ofEvent,MemAct.touch?]
            | _=>simp[EvOK] at hev
          refine⟨hlb,fun hcj=>?_,?_⟩
          . rcases hc with hc|hc|⟨_,v,hc⟩
            . obtain⟨y,hy⟩:=hc.own
              have:=h.dis i j _ y (Ne.symm hj) hy;exact not_covers this hcj
            . obtain⟨x,hx⟩:=hcj.own
              have:=hfresh j _ _ hx;omega
            . exact h.cross j i _ _ v hj hc hcj
          . rcases hc with hc|hc|⟨hc,_⟩
            . cases q:(kk j).cell ad.block ad.off with
              | none=>exact .inl rfl
              | some v=>exact absurd hc (h.cross i j _ _ v (Ne.symm hj) q)
            . cases q:(kk j).cell ad.block ad.off with
              | none=>exact .inl rfl
              | some v=>have:=hfreshc j _ _ v q;omega
            . exact .inr hc
        . unfold Away;rw[hl]
          have hlb:r<w'.heap.size:=by
            obtain⟨loc,wr,sy⟩:=e;cases loc with
            | cell ad'=>
              simp only[MemAct.ofEvent,MemAct.touch?,Option.some.injEq] at hxa;subst hxa;cases hl
            | obj r'=>
              simp only[EvLow] at hlow;cases wr <;> cases sy <;> simp only[MemAct.ofEvent,MemAct.touch?,Option.some.injEq,reduceCtorEq] at hxa <;> subst hxa <;> cases hl <;> exact hlow
            | mark m=>simp only[EvOK] at hev;cases m <;> simp_all [markOwn,markOK,MemAct.ofEvent,MemAct.touch?]
            | _=>simp[EvOK] at hev
          refine⟨hlb,fun o ho=>?_⟩
          rcases hc with ⟨o',hc⟩|hc
          . have:=h.dis j i r _ hj ho
            rw[hc] at this;cases this
          . have:=hfresh j r _ ho;omega
  ·
    refine noRace_append (h.clean said) (fun op hop=>(hops op hop).1) fun n a ha op hop b hb hc=>?_
    obtain⟨hg,e,hel,hact⟩:=hops op hop;rw[hact] at hb;have hev:=he.evs e hel;obtain⟨c1,c2,c3,c4⟩:=hc
    rcases h.sees i n a ha c2 with hk|hk
    . exact (kno_of hlk).1 hk
    . exfalso
      unfold Away at hk
      rcases touch_ofEvent hev hb with ⟨ad,hl,hcc⟩|⟨r,hl,hcc⟩
      . rw [c1,hl] at hk
        obtain⟨h1,h2,h3⟩:=hk
        rcases hcc with hcc|hcc|⟨hw,v,hcc⟩
        . exact h2 hcc
        . omega
        . rcases h3 with h3|h3
          . rw[hcc] at h3;cases h3
          . rcases c3 with c3|c3
            . rw[h3] at c3;cases c3
            . rw[hw] at c3;cases c3
      . rw[c1,hl] at hk
        rcases hcc with ⟨o,hcc⟩|hcc
        . exact hk.2 o hcc
        . have:=hk.1;omega
  . rcases Array.mem_append.1 hop with hop|hop
    . exact MemAct.low_mono he.size (h.seen op hop)
    . obtain⟨hg,e,hel,hact⟩:=hops op hop
      rw[hact];exact low_ofEvent (he.evs e hel) (he.low e hel)
  . obtain⟨x,hx,hxa⟩:=touch_of ha
    rcases getElem?_append_cases hx with ⟨hlt,hx'⟩|⟨_,hxu⟩
    . rcases h.acc n a (by rw[touchAt_of hx'];exact hxa) hm with h1|⟨j,hj,h1⟩|⟨p,hp,h1⟩|h1
      . exact .inl (h1.app _)
      . exact .inr (.inl ⟨j,hj,h1.app _⟩)
      . exact .inr (.inr (.inl ⟨p,hp,h1.app _⟩))
      . exact .inr (.inr (.inr ⟨h1.1,h1.2.1,fun hc=>h1.2.2 ((counts_app hlt).1 hc)⟩))
    . obtain⟨hg,_⟩:=hops x hxu
      have:=knows_own hx;rw[hg] at this
      rcases hJ with rfl|hJ
      . exact .inl this
      . exact .inr (.inl ⟨i,hJ,this⟩)
  . obtain⟨h1,h2⟩:=h.shunC a ha
    refine⟨Nat.lt_of_lt_of_le h1 he.size,fun j=>?_⟩
    by_cases hj:j=i
    . subst hj
      rw[updK_same,updK_same];refine⟨fun hc=>?_,?_⟩
      . rcases hcov _ _ hc with hc|hc
        . exact (h2 j).1 hc
        . omega
      . cases q:k'.cell a.block a.off with
        | none=>rfl
        | some v=>
          rcases he.cell _ _ v q with h3|h3|h3
          . rw[(h2 j).2] at h3;cases h3
          . exact absurd h3 (h2 j).1
          . omega
    . rw[updK_ne _ _ hj,updK_ne _ _ hj];exact h2 j
  . obtain⟨h1,h2⟩:=h.shunO r hr
    refine⟨Nat.lt_of_lt_of_le h1 he.size,fun j o ho=>?_⟩
    by_cases hj:j=i
    . subst hj
      rw[updK_same] at ho
      rcases he.own r _ ho with ⟨y,hy,hbc⟩|hy
      . cases y with
        | obj o'=>exact h2 j o' hy
        | tail m=>exact hbc.elim
        | part f=>exact hbc.elim
      . omega
    . rw[updK_ne _ _ hj] at ho;exact h2 j o ho
  . by_cases hj:j=i
    . subst hj
      rw[updK_same] at hx
      rcases he.own b x hx with ⟨y,hy,_⟩|hy
      . exact h.mine j b y hy
      . exact Nat.le_trans h.fram.size hy
    . rw[updK_ne _ _ hj] at hx;exact h.mine j b x hx
end
end Go.Pal
