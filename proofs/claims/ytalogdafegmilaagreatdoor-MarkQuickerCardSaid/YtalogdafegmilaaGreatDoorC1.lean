/- Part 1 of the proof. -/
import Derived.Conc.LeavingOf
set_option linter.all false
namespace Go.aN
structure ag where
 cell:Nat->Nat->Option Value
 sh:Nat->Option (TypeId × Nat)
inductive Own where
 |obj (o:Obj)
 |tail (n:Nat)
 |part (f:Nat->Option Value)
abbrev ah:=Nat->Option Own
def Own.iI:Own->Own->Prop
 |.obj _,_=>True
 |.tail n,.tail m=>n<=m
 |.part f,.part g=>∀i,g i≠none->f i≠none
 |_,_=>False
theorem Own.iI.refl(x:Own):x.iI x:=by cases x<;>simp[Own.iI]
theorem Own.iI.trans{x y z:Own}(h:x.iI y)(h':y.iI z):x.iI z:=by cases x<;>cases y<;>cases z<;>simp_all [Own.iI]<;>omega
def ah.set(O:ah)(b:Nat)(x:Own):ah:=λc=>if c=b then some x else O c
def ag.dN(k:ag)(b:Nat)(s:TypeId × Nat):ag:={k with sh:=λc=>if c=b then some s else k.sh c}
def ag.put(k:ag)(b i:Nat)(v:Value):ag:={k with cell:=λc j=>if c=b/\j=i then some v else k.cell c j}
structure ag.Le(k k':ag):Prop where
 cell:∀b i v,k.cell b i=some v->k'.cell b i=some v
 sh:∀b s,k.sh b=some s->k'.sh b=some s
theorem ag.Le.refl(k:ag):k.Le k:=⟨λ_ _ _ h=>h,λ_ _ h=>h⟩
theorem ag.Le.trans{a b c:ag}(h:a.Le b)(h':b.Le c):a.Le c:=⟨λ_ _ _ x=>h'.cell _ _ _ (h.cell _ _ _ x),λ_ _ x=>h'.sh _ _ (h.sh _ _ x)⟩
def aP(O:ah)(b i:Nat):Prop:=(∃o,O b=some (.obj o))\/(∃n,O b=some (.tail n)/\n<=i)\/∃f,O b=some (.part f)/\f i≠none
def Apart(k:ag)(O:ah):Prop:=∀b i v,k.cell b i=some v -> ¬aP O b i
structure Sat(k:ag)(O:ah)(w:World):Prop where
 apart:Apart k O
 cell:∀b i v,k.cell b i=some v->w.cell? ⟨b,i,none⟩=some v
 sh:∀b s,k.sh b=some s->w.shape? b=some s
 obj:∀b o,O b=some (.obj o)->w.heap[b]?=some o
 tail:∀b n,O b=some (.tail n)->∃c e,w.heap[b]?=some (.cells c e (0,0))/\k.sh b=some (e,c.size)
 part:∀b f,O b=some (.part f)->∃c e,w.heap[b]?=some (.cells c e (0,0))/\k.sh b=some (e,c.size)/\∀i v,f i=some v->c[i]?=some v
def gY:Obj->Bool
 |.cells ..=>true
 |_=>false
def lM:Mark->Bool
 |.noRoom=>true
 |.extern _=>true
 |_=>false
def js:Mark->Bool
 |.acquire _=>true
 |.releaseMerge _=>true
 |m=>lM m
def iJ(k:ag)(O:ah)(size:Nat)(e:Event):Prop:=
 match e.loc with
 |.cell a=>aP O a.block a.off\/size<=a.block\/(e.write=false/\∃v,k.cell a.block a.off=some v)
 |.obj r=>(∃o,O r=some (.obj o))\/size<=r
 |.mark m=>js m=true
 |_=>False
def jd(B:Nat)(e:Event):Prop:=
 match e.loc with
 |.cell a=>a.block<B
 |.obj r=>r<B
 |.mark (.acquire a)=>a.block<B
 |.mark (.releaseMerge a)=>a.block<B
 |_=>True
theorem jd.mono{B B':Nat}{e:Event}(h:jd B e)(hB:B<=B'):jd B' e:=by unfold jd at *;split<;>simp_all<;>omega
def ll(o o':Os):Prop:=∃d:Nat,o'={o with wall:=o.wall+d,mono:=o.mono+d}
theorem ll.refl(o:Os):ll o o:=⟨0,rfl⟩
theorem ll.trans{a b c:Os}(h:ll a b)(h':ll b c):ll a c:=by obtain⟨d,rfl⟩:=h;obtain⟨e,rfl⟩:=h';exact⟨d+e,by simp[Nat.add_assoc]⟩
structure jx(W w:World):Prop where
 os:ll W.os w.os
 output:w.output=W.output
 size:W.heap.size<=w.heap.size
 block:∀b,b<W.heap.size->w.heap[b]?=W.heap[b]?
theorem jx.refl(W:World):jx W W:=⟨.refl _,rfl,Nat.le_refl _,λ_ _=>rfl⟩
theorem jx.step{W w w':World}(h:jx W w)(hos:ll w.os w'.os)(hout:w'.output=w.output)(hs:w.heap.size<=w'.heap.size)(hb:∀b,b<W.heap.size->w'.heap[b]?=w.heap[b]?):jx W w':=⟨h.os.trans hos,hout.trans h.output,Nat.le_trans h.size hs,λb hlt=>(hb b hlt).trans (h.block b hlt)⟩
structure Eff(k:ag)(O:ah)(w:World)(k':ag)(O':ah)(w':World)(es:List Event):Prop where
 le:k.Le k'
 size:w.heap.size<=w'.heap.size
 keep:∀b,b<w.heap.size->O b=none->w'.heap[b]?=w.heap[b]?
 tail:∀b n,b<w.heap.size->O b=some (.tail n)->∀c e,w.heap[b]?=some (.cells c e (0,0)) ->
  ∃c',w'.heap[b]?=some (.cells c' e (0,0))/\c'.size=c.size/\∀i,i<n->c'[i]?=c[i]?
 part:∀b f,b<w.heap.size->O b=some (.part f)->∀c e,w.heap[b]?=some (.cells c e (0,0)) ->
  ∃c',w'.heap[b]?=some (.cells c' e (0,0))/\c'.size=c.size/\∀i,f i=none->c'[i]?=c[i]?
 shape:∀b,b<w.heap.size->w'.shape? b=w.shape? b
 own:∀b x,O' b=some x->(∃y,O b=some y/\y.iI x)\/w.heap.size<=b
 cell:∀b i v,k'.cell b i=some v->k.cell b i=some v\/aP O b i\/w.heap.size<=b
 sh:∀b s,k'.sh b=some s->k.sh b=some s\/(∃y,O b=some y)\/w.heap.size<=b
 evs:∀e∈es,iJ k O w.heap.size e
 tape:w'.tape=w.tape
 output:w'.output=w.output
 os:w'.os=w.os
 low:∀e∈es,jd w'.heap.size e
 tok:∀b f,O b=some (.part f)->∃f',O' b=some (.part f')
theorem Eff.BO{k:ag}{O:ah}{w:World}{k':ag}{O':ah}{w':World}{es:List Event}(h:Eff k O w k' O' w' es)(b i:Nat)(hc:aP O' b i):
 aP O b i\/w.heap.size<=b:=by
 rcases hc with⟨o,hc⟩|⟨n,hc,hn⟩|⟨f,hc,hn⟩
 . rcases h.own b _ hc with⟨y,hy,hb⟩|h1
   . cases y with
     |obj o'=>exact .inl (.inl ⟨o',hy⟩)
     |tail m=>exact hb.elim
     |part f=>exact hb.elim
   . exact .inr h1
 . rcases h.own b _ hc with⟨y,hy,hb⟩|h1
   . cases y with
     |obj o'=>exact .inl (.inl ⟨o',hy⟩)
     |tail m=>exact .inl (.inr (.inl ⟨m,hy,Nat.le_trans hb hn⟩))
     |part f=>exact hb.elim
   . exact .inr h1
 . rcases h.own b _ hc with⟨y,hy,hb⟩|h1
   . cases y with
     |obj o'=>exact .inl (.inl ⟨o',hy⟩)
     |tail m=>exact hb.elim
     |part g=>exact .inl (.inr (.inr ⟨g,hy,hb i hn⟩))
   . exact .inr h1
theorem Sat.x5{k:ag}{O:ah}{w:World}(h:Sat k O w){b:Nat}{o:Obj}(e:O b=some (.obj o)):b<w.heap.size:=by have:=h.obj b o e;exact(Array.getElem?_eq_some_iff.1 this).1
theorem Sat.nH{k:ag}{O:ah}{w:World}(h:Sat k O w){b:Nat}{x:Own}(e:O b=some x):b<w.heap.size:=by
 cases x with
 |obj o=>exact h.x5 e
 |tail n=>obtain⟨c,t,h1,_⟩:=h.tail b n e;exact(Array.getElem?_eq_some_iff.1 h1).1
 |part f=>obtain⟨c,t,h1,_⟩:=h.part b f e;exact(Array.getElem?_eq_some_iff.1 h1).1
theorem Sat.ou{k:ag}{O:ah}{w:World}(h:Sat k O w){b i:Nat}{v:Value}(e:k.cell b i=some v):b<w.heap.size:=by
 have:=h.cell b i v e;unfold World.cell? at this;split at this
 . next h1=>exact(Array.getElem?_eq_some_iff.1 h1).1
 . cases this
theorem Sat.Gl{k:ag}{O:ah}{w:World}(h:Sat k O w){b:Nat}{s:TypeId × Nat}(e:k.sh b=some s):b<w.heap.size:=by
 have:=h.sh b s e;unfold World.shape? at this;split at this
 . next h1=>exact(Array.getElem?_eq_some_iff.1 h1).1
 . cases this
theorem iJ.weaken{k k1:ag}{O O1:ah}{n n1:Nat}{e:Event}(h:iJ k1 O1 n1 e)(hc:∀b i,aP O1 b i->aP O b i\/n<=b)
 (hn:n<=n1) (ho:∀b x,O1 b=some x->(∃y,O b=some y/\y.iI x)\/n<=b)
 (hk:∀b i v,k1.cell b i=some v->k.cell b i=some v\/aP O b i\/n<=b):iJ k O n e:=by
 unfold iJ at h ⊢;split at h
 . next a ha=>
   rcases h with h|h|⟨h,v,hv⟩
   . rcases hc _ _ h with h|h
     . exact .inl h
     . exact .inr (.inl h)
   . exact .inr (.inl (by omega))
   . rcases hk _ _ _ hv with h'|h'|h'
     . exact .inr (.inr ⟨h,v,h'⟩)
     . exact .inl h'
     . exact .inr (.inl h')
 . next r hr=>
   rcases h with⟨o,h⟩|h
   . rcases ho _ _ h with⟨y,h1,h2⟩|h1
     . cases y with
       |obj o'=>exact .inl ⟨o',h1⟩
       |tail m=>exact h2.elim
       |part f=>exact h2.elim
     . exact .inr h1
   . exact .inr (by omega)
 . exact h
 . exact h
theorem Eff.refl(k:ag)(O:ah)(w:World):Eff k O w k O w []:=⟨.refl k,Nat.le_refl _,λ_ _ _=>rfl,λ_ _ _ _ c _ h=>⟨c,h,rfl,λ_ _=>rfl⟩,λ_ _ _ _ c _ h=>⟨c,h,rfl,λ_ _=>rfl⟩,λ_ _=>rfl,λ_ _ h=>.inl ⟨_,h,.refl _⟩,λ_ _ _ h=>.inl h,λ_ _ h=>.inl h,by simp,rfl,rfl,rfl,by simp,λ_ f h=>⟨f,h⟩⟩
theorem Eff.trans{k k1 k2:ag}{O O1 O2:ah}{w w1 w2:World}{l1 l2:List Event}(h:Eff k O w k1 O1 w1 l1)(h':Eff k1 O1 w1 k2 O2 w2 l2):
 Eff k O w k2 O2 w2 (l1++l2) where
 le:=h.le.trans h'.le
 size:=Nat.le_trans h.size h'.size
 keep:=fun b hb ho=>by
  have h1:O1 b=none:=by
   cases e:O1 b with
   |none=>rfl
   | some x => rcases h.own b x e with⟨y,hy,_⟩|hy
               . rw[ho]at hy;cases hy
               . omega
  rw[h'.keep b (Nat.lt_of_lt_of_le hb h.size) h1,h.keep b hb ho]
 tail :=λb n hb ho c e hc=>by
  obtain⟨c1,h1,z1,q1⟩:=h.tail b n hb ho c e hc;have hb1:=Nat.lt_of_lt_of_le hb h.size;cases e1:O1 b with
  |none=>exact⟨c1,by rw[h'.keep b hb1 e1];exact h1,z1,q1⟩
  | some x=>
    rcases h.own b x e1 with⟨y,hy,hbc⟩|hy
    . rw[ho]at hy
      cases hy;cases x with
      |obj o=>exact hbc.elim
      |tail m=>obtain⟨c2,h2,z2,q2⟩:=h'.tail b m hb1 e1 c1 e h1;exact⟨c2,h2,z2.trans z1,λi hi=>(q2 i (Nat.lt_of_lt_of_le hi hbc)).trans (q1 i hi)⟩
      |part f=>exact hbc.elim
    . omega
 part :=λb f hb ho c e hc=>by
  obtain⟨c1,h1,z1,q1⟩:=h.part b f hb ho c e hc;have hb1:=Nat.lt_of_lt_of_le hb h.size;cases e1:O1 b with
  |none=>exact⟨c1,by rw[h'.keep b hb1 e1];exact h1,z1,q1⟩
  | some x=>
    rcases h.own b x e1 with⟨y,hy,hbc⟩|hy
    . rw[ho]at hy
      cases hy;cases x with
      |obj o=>exact hbc.elim
      |tail m=>exact hbc.elim
      |part g=>obtain⟨c2,h2,z2,q2⟩:=h'.part b g hb1 e1 c1 e h1;exact⟨c2,h2,z2.trans z1,λi hi=>(q2 i (Classical.byContradiction λx=>hbc i x hi)).trans (q1 i hi)⟩
    . omega
 shape:=λb hb=>(h'.shape b (Nat.lt_of_lt_of_le hb h.size)).trans (h.shape b hb)
 own:=λb x hx=>by
  rcases h'.own b x hx with⟨y,h1,b1⟩|h1
  . rcases h.own b y h1 with⟨z,h2,b2⟩|h2
    . exact .inl ⟨z,h2,b2.trans b1⟩
    . exact .inr h2
  . exact .inr (Nat.le_trans h.size h1)
 cell:=λb i v hv=>by
  rcases h'.cell b i v hv with h1|h1|h1
  . exact h.cell b i v h1
  . rcases h.BO b i h1 with h2|h2
    . exact .inr (.inl h2)
    . exact .inr (.inr h2)
  . exact .inr (.inr (Nat.le_trans h.size h1))
 sh:=λb s hs=>by
  rcases h'.sh b s hs with h1|⟨y,h1⟩|h1
  . exact h.sh b s h1
  . rcases h.own b y h1 with⟨z,h2,_⟩|h2
    . exact .inr (.inl ⟨z,h2⟩)
    . exact .inr (.inr h2)
  . exact .inr (.inr (Nat.le_trans h.size h1))
 evs:=λe he=>by
  rcases List.mem_append.1 he with h1|h1
  . exact h.evs e h1
  . exact(h'.evs e h1).weaken h.BO h.size h.own h.cell
 tape:=h'.tape.trans h.tape
 output:=h'.output.trans h.output
 os:=h'.os.trans h.os
 low:=λe he=>by
  rcases List.mem_append.1 he with h1|h1
  . exact(h.low e h1).mono h'.size
  . exact h'.low e h1
 tok:=λb f hb=>by obtain⟨f1,h1⟩:=h.tok b f hb;exact h'.tok b f1 h1
section prim
variable{k:ag}{O:ah}{w:World}
theorem jt(a:Addr)(v:Value)(b:Nat):(w.setCell a v).shape? b=w.shape? b:=by
 unfold World.shape? World.setCell;by_cases h:b=a.block
 . subst h
   simp only[Array.getElem?_modify];cases e:w.heap[a.block]? with
   |none=>simp
   |some o=>cases o<;>simp<;>split<;>simp
 . simp only[Array.getElem?_modify,if_neg (Ne.symm h)]
theorem dQ{a:Addr}{v:Value}{b i:Nat}(h:¬(b=a.block/\i=a.off)):(w.setCell a v).cell? ⟨b,i,none⟩=w.cell? ⟨b,i,none⟩:=by
 unfold World.cell? World.setCell;by_cases hb:b=a.block
 . subst hb
   have hi:i≠a.off:=λe=>h ⟨rfl,e⟩
   simp only[Array.getElem?_modify];cases e:w.heap[a.block]? with
   |none=>simp
   | some o=>
     cases o<;>simp;split
     . rfl
     . rw[Array.getElem?_setIfInBounds_ne (Ne.symm hi)]
 . simp only[Array.getElem?_modify,if_neg (Ne.symm hb)]
theorem v8{a:Addr}{v:Value}{c:Array Value}{e:TypeId}(h:Sat k O w)(ha:a.spot=none)(ho:O a.block=some (.obj (.cells c e (0,0)))):
 Sat k (O.set a.block (.obj (.cells (c.setIfInBounds a.off v) e (0,0)))) (w.setCell a v)/\
 Eff k O w k (O.set a.block (.obj (.cells (c.setIfInBounds a.off v) e (0,0)))) (w.setCell a v) [⟨.cell a,true,false⟩]:=by
 have hw:=h.obj _ _ ho;have hb:=(Array.getElem?_eq_some_iff.1 hw).1;have hw':(w.setCell a v).heap[a.block]?=some (.cells (c.setIfInBounds a.off v) e (0,0)):=by simp[World.setCell,Array.getElem?_modify,hw,ha]
 have hne:∀b,b≠a.block->(w.setCell a v).heap[b]?=w.heap[b]?:=λb hb=>by simp[World.setCell,Array.getElem?_modify,Ne.symm hb]
 have hcov:∀b i,aP (O.set a.block (.obj (.cells (c.setIfInBounds a.off v) e (0,0)))) b i->aP O b i:=λb i hc=>by
  by_cases hbe:b=a.block
  . subst hbe;exact .inl ⟨_,ho⟩
  . simpa[aP,ah.set,hbe]using hc
 refine⟨⟨λb i u hu hc=>h.apart b i u hu (hcov b i hc),λb i u hu=>?_,λb s hs=>by rw[jt];exact h.sh b s hs,λb o hbo=>?_,λb n hbn=>?_,λb f hbn=>?_⟩,?_⟩
 . rw[dQ]
   . exact h.cell b i u hu
   . rintro⟨rfl,rfl⟩
     exact h.apart _ _ _ hu (.inl ⟨_,ho⟩)
 . by_cases hbe:b=a.block
   . subst hbe
     simp only[ah.set,if_true,Option.some.injEq,Own.obj.injEq]at hbo;subst hbo;exact hw'
   . rw[hne b hbe];exact h.obj b o (by simpa[ah.set,hbe]using hbo)
 . by_cases hbe:b=a.block
   . subst hbe;simp[ah.set]at hbn
   . rw[hne b hbe];exact h.tail b n (by simpa[ah.set,hbe]using hbn)
 . by_cases hbe:b=a.block
   . subst hbe;simp[ah.set]at hbn
   . rw[hne b hbe];exact h.part b f (by simpa[ah.set,hbe]using hbn)
 . refine⟨.refl k,by simp[World.setCell],λb _ hn=>hne b (λe=>by rw[e,ho]at hn;cases hn),λb n _ hbn c' e' hc'=>?_,λb n _ hbn c' e' hc'=>?_,λb _=>jt a v b,λb x hx=>?_,λ_ _ _ h=>.inl h,λ_ _ h=>.inl h,?_,rfl,rfl,rfl,?_,λb f hb=>⟨f,by rw[show(O.set a.block _) b=O b from by simp only[ah.set];rw[if_neg (λe=>by rw[e,ho]at hb;cases hb)]];exact hb⟩⟩
   . have hbe:b≠a.block:=λe=>by rw[e,ho]at hbn;cases hbn
     exact⟨c',by rw[hne b hbe];exact hc',rfl,λ_ _=>rfl⟩
   . have hbe:b≠a.block:=λe=>by rw[e,ho]at hbn;cases hbn
     exact⟨c',by rw[hne b hbe];exact hc',rfl,λ_ _=>rfl⟩
   . by_cases hbe:b=a.block
     . subst hbe;exact .inl ⟨_,ho,trivial⟩
     . exact .inl ⟨x,by simpa[ah.set,hbe]using hx,.refl x⟩
   . intro ev hev
     simp only[List.mem_singleton]at hev;subst hev;exact .inl (.inl ⟨_,ho⟩)
   . intro ev hev
     simp only[List.mem_singleton]at hev;subst hev;simpa[jd,World.setCell]using hb
theorem ug{a:Addr}{v:Value}{e:TypeId}{N:Nat}(h:Sat k O w)(ha:a.spot=none)(ho:O a.block=some (.tail a.off))(hs:k.sh a.block=some (e,N))(hN:a.off<N):
 Sat (k.put a.block a.off v) (O.set a.block (.tail (a.off+1))) (w.setCell a v)/\
 Eff k O w (k.put a.block a.off v) (O.set a.block (.tail (a.off+1))) (w.setCell a v) [⟨.cell a,true,false⟩]:=by
 obtain⟨c,e',hw,hs'⟩:=h.tail _ _ ho;rw[hs]at hs';simp only[Option.some.injEq,Prod.mk.injEq]at hs';obtain⟨rfl,rfl⟩:=hs';have hb:=(Array.getElem?_eq_some_iff.1 hw).1
 have hw':(w.setCell a v).heap[a.block]?=some (.cells (c.setIfInBounds a.off v) e (0,0)):=by simp[World.setCell,Array.getElem?_modify,hw,ha]
 have hne:∀b,b≠a.block->(w.setCell a v).heap[b]?=w.heap[b]?:=λb hb=>by simp[World.setCell,Array.getElem?_modify,Ne.symm hb]
 have hcov:∀b i,aP (O.set a.block (.tail (a.off+1))) b i->aP O b i/\¬(b=a.block/\i=a.off):=λb i hc=>by
  by_cases hbe:b=a.block
  . subst hbe
    rcases hc with⟨o,hc⟩|⟨n,hc,hn⟩|⟨f,hc,_⟩
    . simp[ah.set]at hc
    . simp only[ah.set,if_true,Option.some.injEq,Own.tail.injEq]at hc
      subst hc;exact⟨.inr (.inl ⟨_,ho,by omega⟩),λx=>by omega⟩
    . simp[ah.set]at hc
  . exact⟨by simpa[aP,ah.set,hbe]using hc,λx=>hbe x.1⟩
 have hfree:k.cell a.block a.off=none:=by
  cases e:k.cell a.block a.off with
  |none=>rfl
  |some u=>exact(h.apart _ _ _ e (.inr (.inl ⟨_,ho,Nat.le_refl _⟩))).elim
 refine⟨⟨λb i u hu hc=>?_,λb i u hu=>?_,λb s hs=>by rw[jt];exact h.sh b s hs,λb o hbo=>?_,λb n hbn=>?_,λb f hbn=>?_⟩,?_⟩
 . obtain⟨h1,h2⟩:=hcov b i hc
   refine h.apart b i u ?_ h1;simpa[ag.put,h2]using hu
 . by_cases hbi:b=a.block/\i=a.off
   . obtain⟨rfl,rfl⟩:=hbi
     simp only[ag.put,and_self,if_true,Option.some.injEq]at hu;subst hu;simp[World.cell?,hw',hN]
   . rw[dQ hbi]
     exact h.cell b i u (by simpa[ag.put,hbi]using hu)
 . by_cases hbe:b=a.block
   . subst hbe;simp[ah.set]at hbo
   . rw[hne b hbe];exact h.obj b o (by simpa[ah.set,hbe]using hbo)
 . by_cases hbe:b=a.block
   . subst hbe
     exact⟨_,_,hw',by simpa[ag.put]using hs⟩
   . rw[hne b hbe];exact h.tail b n (by simpa[ah.set,hbe]using hbn)
 . by_cases hbe:b=a.block
   . subst hbe;simp[ah.set]at hbn
   . rw[hne b hbe];exact h.part b f (by simpa[ah.set,hbe]using hbn)
 . refine⟨⟨λb i u hu=>?_,λ_ _ h=>h⟩,by simp[World.setCell],λb _ hn=>hne b (λe=>by rw[e,ho]at hn;cases hn),λb n _ hbn c' e' hc'=>?_,λb n _ hbn c' e' hc'=>(by
    have hbe:b≠a.block:=λe=>by rw[e,ho]at hbn;cases hbn
    exact⟨c',by rw[hne b hbe];exact hc',rfl,λ_ _=>rfl⟩),λb _=>jt a v b,λb x hx=>?_,λb i u hu=>?_,λ_ _ h=>.inl h,?_,rfl,rfl,rfl,?_,λb f hb=>⟨f,by rw[show(O.set a.block _) b=O b from by simp only[ah.set];rw[if_neg (λe=>by rw[e,ho]at hb;cases hb)]];exact hb⟩⟩
   . simp only[ag.put]
     split
     . next hx=>obtain⟨rfl,rfl⟩:=hx;rw[hfree]at hu;cases hu
     . exact hu
   . by_cases hbe:b=a.block
     . subst hbe
       rw[ho]at hbn;simp only[Option.some.injEq,Own.tail.injEq]at hbn;subst hbn;rw[hw]at hc';simp only[Option.some.injEq,Obj.cells.injEq,and_true]at hc';obtain⟨rfl,rfl⟩:=hc';exact⟨_,hw',by simp,λi hi=>by rw[Array.getElem?_setIfInBounds_ne (by omega)]⟩
     . exact⟨c',by rw[hne b hbe];exact hc',rfl,λ_ _=>rfl⟩
   . by_cases hbe:b=a.block
     . subst hbe
       simp only[ah.set,if_true,Option.some.injEq]at hx;subst hx;exact .inl ⟨_,ho,by simp[Own.iI]⟩
     . exact .inl ⟨x,by simpa[ah.set,hbe]using hx,.refl x⟩
   . by_cases hbi:b=a.block/\i=a.off
     . obtain⟨rfl,rfl⟩:=hbi
       exact .inr (.inl (.inr (.inl ⟨_,ho,Nat.le_refl _⟩)))
     . exact .inl (by simpa[ag.put,hbi]using hu)
   . intro ev hev
     simp only[List.mem_singleton]at hev;subst hev;exact .inl (.inr (.inl ⟨_,ho,Nat.le_refl _⟩))
   . intro ev hev
     simp only[List.mem_singleton]at hev;subst hev;simpa[jd,World.setCell]using hb
def ag.made(k:ag)(r:Nat):Obj->ag
 |.cells c e _=>k.dN r (e,c.size)
 |_=>k
def De(k:ag)(O:ah)(r:Nat):Prop:=O r=none/\(∀i,k.cell r i=none)/\k.sh r=none
theorem uh(h:Sat k O w):De k O w.heap.size:=by
 refine⟨?_,λi=>?_,?_⟩
 . cases e:O w.heap.size with
   |none=>rfl
   |some x=>have:=h.nH e;omega
 . cases e:k.cell w.heap.size i with
   |none=>rfl
   |some x=>have:=h.ou e;omega
 . cases e:k.sh w.heap.size with
   |none=>rfl
   |some x=>have:=h.Gl e;omega
theorem JC{o:Obj}(h:Sat k O w)(hfz:∀c e fz,o=.cells c e fz->fz=(0,0)):
 Sat (k.made w.heap.size o) (O.set w.heap.size (.obj o)) {w with heap:=w.heap.push o}/\
 Eff k O w (k.made w.heap.size o) (O.set w.heap.size (.obj o)) {w with heap:=w.heap.push o} []:=by
 obtain⟨f1,f2,f3⟩:=uh h
 have hold:∀b,b<w.heap.size->(w.heap.push o)[b]?=w.heap[b]?:=λb hb=>by rw[Array.getElem?_push,if_neg (by omega)]
 have hnew:(w.heap.push o)[w.heap.size]?=some o:=by simp
 have hshold:∀b,b<w.heap.size->World.shape? {w with heap:=w.heap.push o} b=w.shape? b:=λb hb=>by simp only[World.shape?,hold b hb]
 have hcell:(k.made w.heap.size o).cell=k.cell:=by cases o<;>rfl
 refine⟨⟨λb i u hu hc=>?_,λb i u hu=>?_,λb s hs=>?_,λb o' hbo=>?_,λb n hbn=>?_,λb f hbn=>?_⟩,?_⟩
 . rw[hcell]at hu
   have hb:=h.ou hu;have hbe:b≠w.heap.size:=by omega
   exact h.apart b i u hu (by simpa[aP,ah.set,hbe]using hc)
 . rw[hcell]at hu
   have hb:=h.ou hu;have:=h.cell b i u hu;simpa only[World.cell?,hold b hb]using this
 . by_cases hb:b=w.heap.size
   . subst hb
     cases o with
     |cells c e fz=>simp only[ag.made,ag.dN,if_true,Option.some.injEq]at hs;subst hs;simp only[World.shape?,hnew]
     |_=>simp only[ag.made,f3]at hs;cases hs
   . have hs':k.sh b=some s:=by
      cases o<;>simp_all [ag.made,ag.dN]
     rw[hshold b (h.Gl hs')];exact h.sh b s hs'
 . by_cases hb:b=w.heap.size
   . subst hb
     simp only[ah.set,if_true,Option.some.injEq,Own.obj.injEq]at hbo;subst hbo;exact hnew
   . have hb':O b=some (.obj o'):=by simpa[ah.set,hb]using hbo
     rw[hold b (h.x5 hb')];exact h.obj b o' hb'
 . by_cases hb:b=w.heap.size
   . subst hb;simp[ah.set]at hbn
   . have hb':O b=some (.tail n):=by simpa[ah.set,hb]using hbn
     obtain⟨c,e,h1,h2⟩:=h.tail b n hb';refine⟨c,e,by rw[hold b (h.nH hb')];exact h1,?_⟩
     cases o<;>simp_all [ag.made,ag.dN]
 . by_cases hb:b=w.heap.size
   . subst hb;simp[ah.set]at hbn
   . have hb':O b=some (.part f):=by simpa[ah.set,hb]using hbn
     obtain⟨c,e,h1,h2,h3⟩:=h.part b f hb';refine⟨c,e,by rw[hold b (h.nH hb')];exact h1,?_,h3⟩
     cases o<;>simp_all [ag.made,ag.dN]
 . refine⟨⟨λb i u hu=>by rw[hcell];exact hu,λb s hs=>?_⟩,by simp,λb hb _=>hold b hb,λb n hb _ c e hc=>⟨c,by rw[hold b hb];exact hc,rfl,λ_ _=>rfl⟩,λb n hb _ c e hc=>⟨c,by rw[hold b hb];exact hc,rfl,λ_ _=>rfl⟩,hshold,λb x hx=>?_,λb i u hu=>.inl (by rw[hcell]at hu;exact hu),λb s hs=>?_,by simp,rfl,rfl,rfl,by simp,λb f hb=>⟨f,by rw[show(O.set w.heap.size (.obj o)) b=O b from by simp only[ah.set];rw[if_neg (λe=>by rw[e,f1]at hb;cases hb)]];exact hb⟩⟩
   . have hb:b≠w.heap.size:=λe=>by rw[e,f3]at hs;cases hs
     cases o<;>simp_all [ag.made,ag.dN]
   . by_cases hb:b=w.heap.size
     . exact .inr (by omega)
     . exact .inl ⟨x,by simpa[ah.set,hb]using hx,.refl x⟩
   . by_cases hb:b=w.heap.size
     . exact .inr (.inr (by omega))
     . refine .inl ?_
       cases o<;>simp_all [ag.made,ag.dN]
theorem BP{r:Nat}{o o':Obj}(h:Sat k O w)(ho:O r=some (.obj o))(c1:gY o=false)(c2:gY o'=false):
 Sat k (O.set r (.obj o')) {w with heap:=w.heap.setIfInBounds r o'}/\
 Eff k O w k (O.set r (.obj o')) {w with heap:=w.heap.setIfInBounds r o'} [⟨.obj r,true,o'.isChan⟩]:=by
 have hw:=h.obj _ _ ho;have hr:=(Array.getElem?_eq_some_iff.1 hw).1;have hw':(w.heap.setIfInBounds r o')[r]?=some o':=by simp[hr]
 have hne:∀b,b≠r->(w.heap.setIfInBounds r o')[b]?=w.heap[b]?:=λb hb=>by rw[Array.getElem?_setIfInBounds_ne (Ne.symm hb)]
 have hsh:∀b,World.shape? {w with heap:=w.heap.setIfInBounds r o'} b=w.shape? b:=λb=>by
  by_cases hb:b=r
  . subst hb
    simp only[World.shape?,hw',hw];cases o<;>cases o'<;>simp_all [gY]
  . simp only[World.shape?,hne b hb]
 have hcov:∀b i,aP (O.set r (.obj o')) b i->aP O b i:=λb i hc=>by
  by_cases hbe:b=r
  . subst hbe;exact .inl ⟨_,ho⟩
  . simpa[aP,ah.set,hbe]using hc
 refine⟨⟨λb i u hu hc=>h.apart b i u hu (hcov b i hc),λb i u hu=>?_,λb s hs=>by rw[hsh];exact h.sh b s hs,λb x hbo=>?_,λb n hbn=>?_,λb f hbn=>?_⟩,?_⟩
 . have hb:b≠r:=λe=>by subst e;exact h.apart _ _ _ hu (.inl ⟨_,ho⟩)
   have:=h.cell b i u hu;simpa only[World.cell?,hne b hb]using this
 . by_cases hbe:b=r
   . subst hbe
     simp only[ah.set,if_true,Option.some.injEq,Own.obj.injEq]at hbo;subst hbo;exact hw'
   . show(w.heap.setIfInBounds r o')[b]?=_
     rw[hne b hbe];exact h.obj b x (by simpa[ah.set,hbe]using hbo)
 . by_cases hbe:b=r
   . subst hbe;simp[ah.set]at hbn
   . obtain⟨c,e,h1,h2⟩:=h.tail b n (by simpa[ah.set,hbe]using hbn)
     exact⟨c,e,by show(w.heap.setIfInBounds r o')[b]?=_;rw[hne b hbe];exact h1,h2⟩
 . by_cases hbe:b=r
   . subst hbe;simp[ah.set]at hbn
   . obtain⟨c,e,h1,h2⟩:=h.part b f (by simpa[ah.set,hbe]using hbn)
     exact⟨c,e,by show(w.heap.setIfInBounds r o')[b]?=_;rw[hne b hbe];exact h1,h2⟩
 . refine⟨.refl k,by simp,λb _ hn=>hne b (λe=>by rw[e,ho]at hn;cases hn),λb n _ hbn c' e' hc'=>?_,λb n _ hbn c' e' hc'=>?_,λb _=>hsh b,λb x hx=>?_,λ_ _ _ h=>.inl h,λ_ _ h=>.inl h,?_,rfl,rfl,rfl,?_,λb f hb=>⟨f,by rw[show(O.set r _) b=O b from by simp only[ah.set];rw[if_neg (λe=>by rw[e,ho]at hb;cases hb)]];exact hb⟩⟩
   . have hbe:b≠r:=λe=>by rw[e,ho]at hbn;cases hbn
     exact⟨c',by show(w.heap.setIfInBounds r o')[b]?=_;rw[hne b hbe];exact hc',rfl,λ_ _=>rfl⟩
   . have hbe:b≠r:=λe=>by rw[e,ho]at hbn;cases hbn
     exact⟨c',by show(w.heap.setIfInBounds r o')[b]?=_;rw[hne b hbe];exact hc',rfl,λ_ _=>rfl⟩
   . by_cases hbe:b=r
     . subst hbe;exact .inl ⟨_,ho,trivial⟩
     . exact .inl ⟨x,by simpa[ah.set,hbe]using hx,.refl x⟩
   . intro ev hev
     simp only[List.mem_singleton]at hev;subst hev;exact .inl ⟨_,ho⟩
   . intro ev hev
     simp only[List.mem_singleton]at hev;subst hev;simpa[jd]using hr
theorem Gm{n:Nat}(h:Sat k O w):Sat k O {w with drawn:=n}/\Eff k O w k O {w with drawn:=n} []:=⟨⟨h.apart,h.cell,h.sh,h.obj,h.tail,h.part⟩,⟨.refl k,Nat.le_refl _,λ_ _ _=>rfl,λ_ _ _ _ c _ h=>⟨c,h,rfl,λ_ _=>rfl⟩,λ_ _ _ _ c _ h=>⟨c,h,rfl,λ_ _=>rfl⟩,λ_ _=>rfl,λ_ _ h=>.inl ⟨_,h,.refl _⟩,λ_ _ _ h=>.inl h,λ_ _ h=>.inl h,by simp,rfl,rfl,rfl,by simp,λ_ f h=>⟨f,h⟩⟩⟩
theorem ui{l:List Event}(hl:∀e∈l,iJ k O w.heap.size e)(hw:∀e∈l,jd w.heap.size e):Eff k O w k O w l:=⟨.refl k,Nat.le_refl _,λ_ _ _=>rfl,λ_ _ _ _ c _ h=>⟨c,h,rfl,λ_ _=>rfl⟩,λ_ _ _ _ c _ h=>⟨c,h,rfl,λ_ _=>rfl⟩,λ_ _=>rfl,λ_ _ h=>.inl ⟨_,h,.refl _⟩,λ_ _ _ h=>.inl h,λ_ _ h=>.inl h,hl,rfl,rfl,rfl,hw,λ_ f h=>⟨f,h⟩⟩
end prim
def Reads(k:ag)(O:ah)(a:Addr)(v:Value):Prop:=a.spot=none/\(k.cell a.block a.off=some v\/∃c e fz,O a.block=some (.obj (.cells c e fz))/\c[a.off]?=some v)
def Df(k:ag)(O:ah)(r:Nat)(s:Option (TypeId × Nat)):Prop:=(∃x,s=some x/\k.sh r=some x)\/(∃c e fz,O r=some (.obj (.cells c e fz))/\s=some (e,c.size))\/(∃o,O r=some (.obj o)/\gY o=false/\s=none)
def flat:Value->Bool
 |.agg _=>false
 |.tuple _=>false
 |_=>true
def KZ:Obj->Bool
 |.cells _ _ fz=>fz==(0,0)
 |_=>true
def eE(P:Program){α:Type}:Sem α->ag->ah->(α->ag->ah->Prop)->(Value->ag->ah->Prop)->Prop
 |.pure a,k,O,K,_=>K a k O
 |.load m a f,k,O,K,Kp=>m=.plain/\∃v,Reads k O a v/\eE P (f v) k O K Kp
 | .store m a v f,k,O,K,Kp=>m=.plain/\flat v=true/\a.spot=none/\
    ((∃c e,O a.block=some (.obj (.cells c e (0,0)))/\a.off<c.size/\eE P f k (O.set a.block (.obj (.cells (c.setIfInBounds a.off v) e (0,0)))) K Kp)\/
     (∃e N,O a.block=some (.tail a.off)/\k.sh a.block=some (e,N)/\a.off<N/\(k.cell a.block a.off=none->eE P f (k.put a.block a.off v) (O.set a.block (.tail (a.off+1))) K Kp)))
 |.new o f,k,O,K,Kp=>KZ o=true/\∀r,De k O r->eE P (f r) (k.made r o) (O.set r (.obj o)) K Kp
 |.shape r f,k,O,K,Kp=>∃s,Df k O r s/\eE P (f s) k O K Kp
 |.freeze _ _ _,_,_,_,_=>False
 |.frozen a f,k,O,K,Kp=>((∃c e,O a.block=some (.obj (.cells c e (0,0))))\/∃n,O a.block=some (.tail n))/\eE P (f false) k O K Kp
 |.getObj r f,k,O,K,Kp=>∃o,O r=some (.obj o)/\gY o=false/\eE P (f o) k O K Kp
 |.setObj r o f,k,O,K,Kp=>(∃o',O r=some (.obj o')/\gY o'=false)/\gY o=false/\eE P f k (O.set r (.obj o)) K Kp
 |.choose q f,k,O,K,Kp=>∀t,eE P (f (if q.forced then 0 else q.cut t)) k O K Kp
 |.sys _ _,_,_,_,_=>False
 |.program f,k,O,K,Kp=>eE P (f P) k O K Kp
 |.mark m f,k,O,K,Kp=>lM m=true/\eE P f k O K Kp
 |.halt (.panic v),k,O,_,Kp=>Kp v k O
 |.halt _,_,_,_,_=>False
theorem BQ{k:ag}{O:ah}{w:World}{a:Addr}{v:Value}(h:Sat k O w)(hr:Reads k O a v):w.cell? a=some v:=by
 obtain⟨hs,hr⟩:=hr;obtain⟨b,i,s⟩:=a;simp only at hs hr;subst hs;rcases hr with hr|⟨c,e,fz,ho,hc⟩
 . exact h.cell _ _ _ hr
 . have:=h.obj _ _ ho
   simp[World.cell?,this,hc]
theorem v9{k:ag}{O:ah}{w:World}{r:Nat}{s:Option (TypeId × Nat)}(h:Sat k O w)(hr:Df k O r s):w.shape? r=s:=by
 rcases hr with⟨x,rfl,hx⟩|⟨c,e,fz,ho,rfl⟩|⟨o,ho,hc,rfl⟩
 . exact h.sh _ _ hx
 . simp[World.shape?,h.obj _ _ ho]
 . rw[World.shape?,h.obj _ _ ho]
   cases o<;>simp_all [gY]
def Comes{α:Type}(K:α->ag->ah->Prop)(Kp:Value->ag->ah->Prop)(k':ag)(O':ah)(w':World)(r:Result α):Prop:=(∃a,r=.ok a w'/\K a k' O')\/(∃v,r=.halt (.panic v) w'/\Kp v k' O')
theorem rL{P:Program}{α:Type}{K:α->ag->ah->Prop}{Kp:Value->ag->ah->Prop}(s:Sem α):∀{k:ag}{O:ah}{w:World}(es:Array Event),
 eE P s k O K Kp->Sat k O w->∃k' O' w' l,Eff k O w k' O' w' l/\Sat k' O' w'/\(s.runT P w es).2.toList=es.toList++l/\Comes K Kp k' O' w' (s.runT P w es).1:=by
 induction s with
 |pure a=>intro k O w es h hs;exact⟨k,O,w,[],.refl ..,hs,by simp[Sem.runT],.inl ⟨a,rfl,h⟩⟩
 | load m a f ih=>
   intro k O w es h hs;obtain⟨rfl,v,hr,h⟩:=h;have hc:=BQ hs hr;obtain⟨k',O',w',l,h1,h2,h3,h4⟩:=ih v (es.push ⟨.cell a,false,false⟩) h hs;refine⟨k',O',w',⟨.cell a,false,false⟩::l,?_,h2,?_,?_⟩
   . refine Eff.trans (ui ?_ ?_) h1 (l1:=[_])
     . intro e he
       simp only[List.mem_singleton]at he;subst he;rcases hr.2 with hr|⟨c,e,fz,ho,_⟩
       . exact .inr (.inr ⟨rfl,v,hr⟩)
       . exact .inl (.inl ⟨_,ho⟩)
     . intro e he
       simp only[List.mem_singleton]at he;subst he;rcases hr.2 with hr|⟨c,e,fz,ho,_⟩
       . exact hs.ou hr
       . exact hs.x5 ho
   . simp only[Sem.runT,hc];rw[show(Mode.plain==Mode.atomic)=false from rfl,h3];simp
   . simp only[Sem.runT,hc];exact h4
 | store m a v f ih=>
   intro k O w es h hs;obtain⟨rfl,hfl,hsp,h⟩:=h
   have hrun:∀c e,w.heap[a.block]?=some (.cells c e (0,0))->a.off<c.size ->
    (Sem.store Mode.plain a v f).runT P w es=f.runT P (w.setCell a v) (es.push ⟨.cell a,true,false⟩):=by
    intro c e hw hlt;have hc:w.cell? a=some c[a.off]:=by simp[World.cell?,hw,hsp,hlt]
    have hf:w.frozen? a=false:=by simp[World.frozen?,hw]
    cases v<;>first|exact Bool.noConfusion hfl|(rw[Sem.runT,hc]<;>first|(simp only[hf];rfl)|(intro _ hh;cases hh))
   rcases h with⟨c,e,ho,hlt,h⟩|⟨e,N,ho,hsh,hlt,h⟩
   . obtain⟨s1,e1⟩:=v8 (v:=v) hs hsp ho
     obtain⟨k',O',w',l,h1,h2,h3,h4⟩:=ih (es.push ⟨.cell a,true,false⟩) h s1;have hr:=hrun c e (hs.obj _ _ ho) hlt;exact⟨k',O',w',_::l,Eff.trans e1 h1,h2,by rw[hr,h3];simp,by rw[hr];exact h4⟩
   . have h:=h (by
      cases e:k.cell a.block a.off with
      |none=>rfl
      |some u=>exact(hs.apart _ _ _ e (.inr (.inl ⟨_,ho,Nat.le_refl _⟩))).elim)
     obtain⟨s1,e1⟩:=ug (v:=v) hs hsp ho hsh hlt;obtain⟨k',O',w',l,h1,h2,h3,h4⟩:=ih (es.push ⟨.cell a,true,false⟩) h s1;obtain⟨c,e',hw,hs'⟩:=hs.tail _ _ ho;rw[hsh]at hs';simp only[Option.some.injEq,Prod.mk.injEq]at hs';have hr:=hrun c e' hw (by omega);exact⟨k',O',w',_::l,Eff.trans e1 h1,h2,by rw[hr,h3];simp,by rw[hr];exact h4⟩
 | new o f ih=>
   intro k O w es h hs;obtain⟨hrow,h⟩:=h;have h:=h w.heap.size (uh hs);obtain⟨s1,e1⟩:=JC (o:=o) hs (λ_ _ _ he=>by subst he;simpa[KZ]using hrow);obtain⟨k',O',w',l,h1,h2,h3,h4⟩:=ih w.heap.size es h s1;exact⟨k',O',w',l,Eff.trans e1 h1,h2,by simp only[Sem.runT];exact h3,by simp only[Sem.runT];exact h4⟩
 |shape r f ih=>intro k O w es h hs;obtain⟨s,hsh,h⟩:=h;have:=v9 hs hsh;obtain⟨k',O',w',l,h1,h2,h3,h4⟩:=ih s es h hs;exact⟨k',O',w',l,h1,h2,by simp only[Sem.runT,this];exact h3,by simp only[Sem.runT,this];exact h4⟩
 |freeze a n f ih=>intro k O w es h hs;exact h.elim
 | frozen a f ih=>
   intro k O w es h hs;obtain⟨ho,h⟩:=h
   have:w.frozen? a=false:=by
    rcases ho with⟨c,e,ho⟩|⟨n,ho⟩
    . simp[World.frozen?,hs.obj _ _ ho]
    . obtain⟨c,e,hw,_⟩:=hs.tail _ _ ho
      simp[World.frozen?,hw]
   obtain⟨k',O',w',l,h1,h2,h3,h4⟩:=ih false es h hs;exact⟨k',O',w',l,h1,h2,by simp only[Sem.runT,this];exact h3,by simp only[Sem.runT,this];exact h4⟩
 | getObj r f ih=>
   intro k O w es h hs;obtain⟨o,ho,hc,h⟩:=h;have hw:=hs.obj _ _ ho;obtain⟨k',O',w',l,h1,h2,h3,h4⟩:=ih o (es.push ⟨.obj r,false,o.isChan⟩) h hs;have hr:(Sem.getObj r f).runT P w es=(f o).runT P w (es.push ⟨.obj r,false,o.isChan⟩):=by rw[Sem.runT,hw];cases o<;>first|rfl|cases hc
   refine⟨k',O',w',⟨.obj r,false,o.isChan⟩::l,Eff.trans (ui ?_ ?_) h1 (l1:=[_]),h2,by rw[hr,h3];simp,by rw[hr];exact h4⟩
   . intro e he
     simp only[List.mem_singleton]at he;subst he;exact .inl ⟨_,ho⟩
   . intro e he
     simp only[List.mem_singleton]at he;subst he;exact hs.x5 ho
 | setObj r o f ih=>
   intro k O w es h hs;obtain⟨⟨o',ho,hc'⟩,hc,h⟩:=h;have hw:=hs.obj _ _ ho;obtain⟨s1,e1⟩:=BP (o':=o) hs ho hc' hc;obtain⟨k',O',w',l,h1,h2,h3,h4⟩:=ih (es.push ⟨.obj r,true,o.isChan⟩) h s1;have hr:(Sem.setObj r o f).runT P w es=f.runT P {w with heap:=w.heap.setIfInBounds r o} (es.push ⟨.obj r,true,o.isChan⟩):=by rw[Sem.runT,hw];cases o'<;>first|rfl|cases hc'
   exact⟨k',O',w',_::l,Eff.trans e1 h1,h2,by rw[hr,h3];simp,by rw[hr];exact h4⟩
 | choose q f ih=>
   intro k O w es h hs;have h:=h (w.tape w.drawn q);by_cases hq:q.forced=true
   . simp only[hq,if_true]at h
     obtain⟨k',O',w',l,h1,h2,h3,h4⟩:=ih 0 es h hs;exact⟨k',O',w',l,h1,h2,by simp only[Sem.runT,hq,if_true];exact h3,by simp only[Sem.runT,hq,if_true];exact h4⟩
   . simp only[hq]at h
     obtain⟨s1,e1⟩:=Gm (n:=w.drawn+1) hs;obtain⟨k',O',w',l,h1,h2,h3,h4⟩:=ih _ es h s1;refine⟨k',O',w',l,Eff.trans e1 h1,h2,?_,?_⟩
     . simp only[Sem.runT,hq];exact h3
     . simp only[Sem.runT,hq];exact h4
 |sys c f ih=>intro k O w es h hs;exact h.elim
 |program f ih=>intro k O w es h hs;obtain⟨k',O',w',l,h1,h2,h3,h4⟩:=ih P es h hs;exact⟨k',O',w',l,h1,h2,by simp only[Sem.runT];exact h3,by simp only[Sem.runT];exact h4⟩
 | mark m f ih=>
   intro k O w es h hs;obtain⟨hm,h⟩:=h;obtain⟨k',O',w',l,h1,h2,h3,h4⟩:=ih (es.push ⟨.mark m,false,true⟩) h hs;refine⟨k',O',w',⟨.mark m,false,true⟩::l,Eff.trans (ui ?_ ?_) h1 (l1:=[_]),h2,by simp only[Sem.runT];rw[h3];simp,by simp only[Sem.runT];exact h4⟩
   . intro e he
     simp only[List.mem_singleton]at he;subst he;show js m=true;cases m<;>simp_all [lM,js]
   . intro e he
     simp only[List.mem_singleton]at he;subst he;cases m<;>simp_all [lM,jd]
 | halt x=>
   intro k O w es h hs;cases x with
   |panic v=>exact⟨k,O,w,[],.refl ..,hs,by simp[Sem.runT],.inr ⟨v,rfl,h⟩⟩
   |_=>exact h.elim
theorem Gn{P:Program}{α β:Type}{f:α->Sem β}{K:β->ag->ah->Prop}{Kp:Value->ag->ah->Prop}(s:Sem α):∀{k:ag}{O:ah},
 eE P s k O (λa k O=>eE P (f a) k O K Kp) Kp->eE P (s.bind f) k O K Kp:=by
 induction s with
 |pure a=>intro k O h;exact h
 |load m a g ih=>intro k O h;obtain⟨h1,v,h2,h3⟩:=h;exact⟨h1,v,h2,ih v h3⟩
 | store m a v g ih=>
   intro k O h;obtain⟨h1,h2,h3,h4⟩:=h;refine⟨h1,h2,h3,?_⟩;rcases h4 with⟨c,e,a1,a2,a3⟩|⟨e,N,a1,a2,a3,a4⟩
   . exact .inl ⟨c,e,a1,a2,ih a3⟩
   . exact .inr ⟨e,N,a1,a2,a3,λhn=>ih (a4 hn)⟩
 |new o g ih=>intro k O h;exact⟨h.1,λr hr=>ih r (h.2 r hr)⟩
 |shape r g ih=>intro k O h;obtain⟨s,h1,h2⟩:=h;exact⟨s,h1,ih s h2⟩
 |freeze a n g ih=>intro k O h;exact h.elim
 |frozen a g ih=>intro k O h;exact⟨h.1,ih false h.2⟩
 |getObj r g ih=>intro k O h;obtain⟨o,h1,h2,h3⟩:=h;exact⟨o,h1,h2,ih o h3⟩
 |setObj r o g ih=>intro k O h;exact⟨h.1,h.2.1,ih h.2.2⟩
 |choose q g ih=>intro k O h t;exact ih _ (h t)
 |sys c g ih=>intro k O h;exact h.elim
 |program g ih=>intro k O h;exact ih P h
 |mark m g ih=>intro k O h;exact⟨h.1,ih h.2⟩
 |halt x=>intro k O h;cases x<;>exact h
end Go.aN
