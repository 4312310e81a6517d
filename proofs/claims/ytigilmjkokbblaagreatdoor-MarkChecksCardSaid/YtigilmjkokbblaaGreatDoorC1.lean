/- Part 1 of the proof. -/
import Derived.Conc.LeavingOf
set_option linter.all false
namespace Go.bd
structure ah where
 cell:Nat->Nat->Option Value
 sh:Nat->Option (TypeId × Nat)
inductive Own where
 |obj (o:Obj)
 |tail (n:Nat)
 |part (f:Nat->Option Value)
abbrev ai:=Nat->Option Own
def Own.jb:Own->Own->Prop
 |.obj _,_=>True
 |.tail n,.tail m=>n<=m
 |.part f,.part g=>∀i,g i≠none->f i≠none
 |_,_=>False
theorem Own.jb.refl(x:Own):x.jb x:=by cases x<;>simp[Own.jb]
theorem Own.jb.trans{x y z:Own}(h:x.jb y)(a:y.jb z):x.jb z:=by cases x<;>cases y<;>cases z<;>simp_all [Own.jb]<;>omega
def ai.set(O:ai)(b:Nat)(x:Own):ai:=λc=>if c=b then some x else O c
def ah.eF(k:ah)(b:Nat)(s:TypeId × Nat):ah:={k with sh:=λc=>if c=b then some s else k.sh c}
def ah.put(k:ah)(b i:Nat)(v:Value):ah:={k with cell:=λc j=>if c=b/\j=i then some v else k.cell c j}
structure ah.Le(k k':ah):Prop where
 cell:∀b i v,k.cell b i=some v->k'.cell b i=some v
 sh:∀b s,k.sh b=some s->k'.sh b=some s
theorem ah.Le.refl(k:ah):k.Le k:=⟨λ_ _ _ h=>h,λ_ _ h=>h⟩
theorem ah.Le.trans{a b c:ah}(h:a.Le b)(d:b.Le c):a.Le c:=⟨λ_ _ _ x=>d.cell _ _ _ (h.cell _ _ _ x),λ_ _ x=>d.sh _ _ (h.sh _ _ x)⟩
def aY(O:ai)(b i:Nat):Prop:=(∃o,O b=some (.obj o))\/(∃n,O b=some (.tail n)/\n<=i)\/∃f,O b=some (.part f)/\f i≠none
def Apart(k:ah)(O:ai):Prop:=∀b i v,k.cell b i=some v -> ¬aY O b i
structure Sat(k:ah)(O:ai)(w:World):Prop where
 apart:Apart k O
 cell:∀b i v,k.cell b i=some v->w.cell? ⟨b,i,none⟩=some v
 sh:∀b s,k.sh b=some s->w.shape? b=some s
 obj:∀b o,O b=some (.obj o)->w.heap[b]?=some o
 tail:∀b n,O b=some (.tail n)->∃c e,w.heap[b]?=some (.cells c e (0,0))/\k.sh b=some (e,c.size)
 part:∀b f,O b=some (.part f)->∃c e,w.heap[b]?=some (.cells c e (0,0))/\k.sh b=some (e,c.size)/\∀i v,f i=some v->c[i]?=some v
def iB:Obj->Bool
 |.cells ..=>true
 |_=>false
def mY:Mark->Bool
 |.noRoom=>true
 |.extern _=>true
 |_=>false
def jX:Mark->Bool
 |.acquire _=>true
 |.releaseMerge _=>true
 |m=>mY m
def jc(k:ah)(O:ai)(size:Nat)(e:Event):Prop:=
 match e.loc with
 |.cell a=>aY O a.block a.off\/size<=a.block\/(e.write=false/\∃v,k.cell a.block a.off=some v)
 |.obj r=>(∃o,O r=some (.obj o))\/size<=r
 |.mark m=>jX m=true
 |_=>False
def jF(B:Nat)(e:Event):Prop:=
 match e.loc with
 |.cell a=>a.block<B
 |.obj r=>r<B
 |.mark (.acquire a)=>a.block<B
 |.mark (.releaseMerge a)=>a.block<B
 |_=>True
theorem jF.mono{B a:Nat}{e:Event}(h:jF B e)(b:B<=a):jF a e:=by unfold jF at *;split<;>simp_all<;>omega
def mD(o o':Os):Prop:=∃d:Nat,o'={o with wall:=o.wall+d,mono:=o.mono+d}
theorem mD.refl(o:Os):mD o o:=⟨0,rfl⟩
theorem mD.trans{a b c:Os}(h:mD a b)(f:mD b c):mD a c:=by obtain⟨d,rfl⟩:=h;obtain⟨e,rfl⟩:=f;exact⟨d+e,by simp[Nat.add_assoc]⟩
structure vr(W w:World):Prop where
 os:mD W.os w.os
 output:w.output=W.output
 size:W.heap.size<=w.heap.size
 block:∀b,b<W.heap.size->w.heap[b]?=W.heap[b]?
theorem vr.refl(W:World):vr W W:=⟨.refl _,rfl,Nat.le_refl _,λ_ _=>rfl⟩
theorem vr.step{W w w':World}(h:vr W w)(d:mD w.os w'.os)(a:w'.output=w.output)(e:w.heap.size<=w'.heap.size)(hb:∀b,b<W.heap.size->w'.heap[b]?=w.heap[b]?):vr W w':=⟨h.os.trans d,a.trans h.output,Nat.le_trans h.size e,λb c=>(hb b c).trans (h.block b c)⟩
structure Eff(k:ah)(O:ai)(w:World)(k':ah)(O':ai)(w':World)(es:List Event):Prop where
 le:k.Le k'
 size:w.heap.size<=w'.heap.size
 keep:∀b,b<w.heap.size->O b=none->w'.heap[b]?=w.heap[b]?
 tail:∀b n,b<w.heap.size->O b=some (.tail n)->∀c e,w.heap[b]?=some (.cells c e (0,0)) ->
  ∃c',w'.heap[b]?=some (.cells c' e (0,0))/\c'.size=c.size/\∀i,i<n->c'[i]?=c[i]?
 part:∀b f,b<w.heap.size->O b=some (.part f)->∀c e,w.heap[b]?=some (.cells c e (0,0)) ->
  ∃c',w'.heap[b]?=some (.cells c' e (0,0))/\c'.size=c.size/\∀i,f i=none->c'[i]?=c[i]?
 shape:∀b,b<w.heap.size->w'.shape? b=w.shape? b
 own:∀b x,O' b=some x->(∃y,O b=some y/\y.jb x)\/w.heap.size<=b
 cell:∀b i v,k'.cell b i=some v->k.cell b i=some v\/aY O b i\/w.heap.size<=b
 sh:∀b s,k'.sh b=some s->k.sh b=some s\/(∃y,O b=some y)\/w.heap.size<=b
 evs:∀e∈es,jc k O w.heap.size e
 tape:w'.tape=w.tape
 output:w'.output=w.output
 os:w'.os=w.os
 low:∀e∈es,jF w'.heap.size e
 tok:∀b f,O b=some (.part f)->∃f',O' b=some (.part f')
theorem Eff.El{k:ah}{O:ai}{w:World}{k':ah}{O':ai}{w':World}{es:List Event}(h:Eff k O w k' O' w' es)(b i:Nat)(a:aY O' b i):
 aY O b i\/w.heap.size<=b:=by
 rcases a with⟨o,a⟩|⟨n,a,j⟩|⟨f,a,j⟩
 . rcases h.own b _ a with⟨y,c,hb⟩|d
   . cases y with
     |obj e=>exact .inl (.inl ⟨e,c⟩)
     |tail m=>exact hb.elim
     |part f=>exact hb.elim
   . exact .inr d
 . rcases h.own b _ a with⟨y,c,hb⟩|d
   . cases y with
     |obj e=>exact .inl (.inl ⟨e,c⟩)
     |tail m=>exact .inl (.inr (.inl ⟨m,c,Nat.le_trans hb j⟩))
     |part f=>exact hb.elim
   . exact .inr d
 . rcases h.own b _ a with⟨y,c,hb⟩|d
   . cases y with
     |obj e=>exact .inl (.inl ⟨e,c⟩)
     |tail m=>exact hb.elim
     |part g=>exact .inl (.inr (.inr ⟨g,c,hb i j⟩))
   . exact .inr d
theorem Sat.AG{k:ah}{O:ai}{w:World}(h:Sat k O w){b:Nat}{o:Obj}(e:O b=some (.obj o)):b<w.heap.size:=by have:=h.obj b o e;exact(Array.getElem?_eq_some_iff.1 this).1
theorem Sat.pr{k:ah}{O:ai}{w:World}(h:Sat k O w){b:Nat}{x:Own}(e:O b=some x):b<w.heap.size:=by
 cases x with
 |obj o=>exact h.AG e
 |tail n=>obtain⟨c,t,a,_⟩:=h.tail b n e;exact(Array.getElem?_eq_some_iff.1 a).1
 |part f=>obtain⟨c,t,a,_⟩:=h.part b f e;exact(Array.getElem?_eq_some_iff.1 a).1
theorem Sat.qc{k:ah}{O:ai}{w:World}(h:Sat k O w){b i:Nat}{v:Value}(e:k.cell b i=some v):b<w.heap.size:=by
 have:=h.cell b i v e;unfold World.cell? at this;split at this
 . next a=>exact(Array.getElem?_eq_some_iff.1 a).1
 . cases this
theorem Sat.JG{k:ah}{O:ai}{w:World}(h:Sat k O w){b:Nat}{s:TypeId × Nat}(e:k.sh b=some s):b<w.heap.size:=by
 have:=h.sh b s e;unfold World.shape? at this;split at this
 . next a=>exact(Array.getElem?_eq_some_iff.1 a).1
 . cases this
theorem jc.weaken{k j:ah}{O d:ai}{n l:Nat}{e:Event}(h:jc j d l e)(q:∀b i,aY d b i->aY O b i\/n<=b)
 (z:n<=l) (s:∀b x,d b=some x->(∃y,O b=some y/\y.jb x)\/n<=b)
 (t:∀b i v,j.cell b i=some v->k.cell b i=some v\/aY O b i\/n<=b):jc k O n e:=by
 unfold jc at h ⊢;split at h
 . next a A=>
   rcases h with h|h|⟨h,v,u⟩
   . rcases q _ _ h with h|h
     . exact .inl h
     . exact .inr (.inl h)
   . exact .inr (.inl (by omega))
   . rcases t _ _ _ u with c|c|c
     . exact .inr (.inr ⟨h,v,c⟩)
     . exact .inl c
     . exact .inr (.inl c)
 . next r B=>
   rcases h with⟨o,h⟩|h
   . rcases s _ _ h with⟨y,g,p⟩|g
     . cases y with
       |obj w=>exact .inl ⟨w,g⟩
       |tail m=>exact p.elim
       |part f=>exact p.elim
     . exact .inr g
   . exact .inr (by omega)
 . exact h
 . exact h
theorem Eff.refl(k:ah)(O:ai)(w:World):Eff k O w k O w []:=⟨.refl k,Nat.le_refl _,λ_ _ _=>rfl,λ_ _ _ _ c _ h=>⟨c,h,rfl,λ_ _=>rfl⟩,λ_ _ _ _ c _ h=>⟨c,h,rfl,λ_ _=>rfl⟩,λ_ _=>rfl,λ_ _ h=>.inl ⟨_,h,.refl _⟩,λ_ _ _ h=>.inl h,λ_ _ h=>.inl h,by simp,rfl,rfl,rfl,by simp,λ_ f h=>⟨f,h⟩⟩
theorem Eff.trans{k k1 E:ah}{O t F:ai}{w w1 w2:World}{l1 G:List Event}(h:Eff k O w k1 t w1 l1)(d:Eff k1 t w1 E F w2 G):
 Eff k O w E F w2 (l1++G) where
 le:=h.le.trans d.le
 size:=Nat.le_trans h.size d.size
 keep:=fun b hb r=>by
  have a:t b=none:=by
   cases e:t b with
   |none=>rfl
   | some x => rcases h.own b x e with⟨y,p,_⟩|p
               . rw[r]at p;cases p
               . omega
  rw[d.keep b (Nat.lt_of_lt_of_le hb h.size) a,h.keep b hb r]
 tail :=λb n hb r c e hc=>by
  obtain⟨c1,a,u,A⟩:=h.tail b n hb r c e hc;have q:=Nat.lt_of_lt_of_le hb h.size;cases e1:t b with
  |none=>exact⟨c1,by rw[d.keep b q e1];exact a,u,A⟩
  | some x=>
    rcases h.own b x e1 with⟨y,p,j⟩|p
    . rw[r]at p
      cases p;cases x with
      |obj o=>exact j.elim
      |tail m=>obtain⟨c2,l,C,D⟩:=d.tail b m q e1 c1 e a;exact⟨c2,l,C.trans u,λi B=>(D i (Nat.lt_of_lt_of_le B j)).trans (A i B)⟩
      |part f=>exact j.elim
    . omega
 part :=λb f hb r c e hc=>by
  obtain⟨c1,a,u,A⟩:=h.part b f hb r c e hc;have q:=Nat.lt_of_lt_of_le hb h.size;cases e1:t b with
  |none=>exact⟨c1,by rw[d.keep b q e1];exact a,u,A⟩
  | some x=>
    rcases h.own b x e1 with⟨y,p,j⟩|p
    . rw[r]at p
      cases p;cases x with
      |obj o=>exact j.elim
      |tail m=>exact j.elim
      |part g=>obtain⟨c2,l,C,D⟩:=d.part b g q e1 c1 e a;exact⟨c2,l,C.trans u,λi B=>(D i (Classical.byContradiction λx=>j i x B)).trans (A i B)⟩
    . omega
 shape:=λb hb=>(d.shape b (Nat.lt_of_lt_of_le hb h.size)).trans (h.shape b hb)
 own:=λb x H=>by
  rcases d.own b x H with⟨y,a,I⟩|a
  . rcases h.own b y a with⟨z,l,J⟩|l
    . exact .inl ⟨z,l,J.trans I⟩
    . exact .inr l
  . exact .inr (Nat.le_trans h.size a)
 cell:=λb i v K=>by
  rcases d.cell b i v K with a|a|a
  . exact h.cell b i v a
  . rcases h.El b i a with l|l
    . exact .inr (.inl l)
    . exact .inr (.inr l)
  . exact .inr (.inr (Nat.le_trans h.size a))
 sh:=λb s hs=>by
  rcases d.sh b s hs with a|⟨y,a⟩|a
  . exact h.sh b s a
  . rcases h.own b y a with⟨z,l,_⟩|l
    . exact .inr (.inl ⟨z,l⟩)
    . exact .inr (.inr l)
  . exact .inr (.inr (Nat.le_trans h.size a))
 evs:=λe he=>by
  rcases List.mem_append.1 he with a|a
  . exact h.evs e a
  . exact(d.evs e a).weaken h.El h.size h.own h.cell
 tape:=d.tape.trans h.tape
 output:=d.output.trans h.output
 os:=d.os.trans h.os
 low:=λe he=>by
  rcases List.mem_append.1 he with a|a
  . exact(h.low e a).mono d.size
  . exact d.low e a
 tok:=λb f hb=>by obtain⟨f1,a⟩:=h.tok b f hb;exact d.tok b f1 a
section prim
variable{k:ah}{O:ai}{w:World}
theorem jY(a:Addr)(v:Value)(b:Nat):(w.setCell a v).shape? b=w.shape? b:=by
 unfold World.shape? World.setCell;by_cases h:b=a.block
 . subst h
   simp only[Array.getElem?_modify];cases e:w.heap[a.block]? with
   |none=>simp
   |some o=>cases o<;>simp<;>split<;>simp
 . simp only[Array.getElem?_modify,if_neg (Ne.symm h)]
theorem eE{a:Addr}{v:Value}{b i:Nat}(h:¬(b=a.block/\i=a.off)):(w.setCell a v).cell? ⟨b,i,none⟩=w.cell? ⟨b,i,none⟩:=by
 unfold World.cell? World.setCell;by_cases hb:b=a.block
 . subst hb
   have c:i≠a.off:=λe=>h ⟨rfl,e⟩
   simp only[Array.getElem?_modify];cases e:w.heap[a.block]? with
   |none=>simp
   | some o=>
     cases o<;>simp;split
     . rfl
     . rw[Array.getElem?_setIfInBounds_ne (Ne.symm c)]
 . simp only[Array.getElem?_modify,if_neg (Ne.symm hb)]
theorem yF{a:Addr}{v:Value}{c:Array Value}{e:TypeId}(h:Sat k O w)(D:a.spot=none)(m:O a.block=some (.obj (.cells c e (0,0)))):
 Sat k (O.set a.block (.obj (.cells (c.setIfInBounds a.off v) e (0,0)))) (w.setCell a v)/\
 Eff k O w k (O.set a.block (.obj (.cells (c.setIfInBounds a.off v) e (0,0)))) (w.setCell a v) [⟨.cell a,true,false⟩]:=by
 have B:=h.obj _ _ m;have hb:=(Array.getElem?_eq_some_iff.1 B).1;have y:(w.setCell a v).heap[a.block]?=some (.cells (c.setIfInBounds a.off v) e (0,0)):=by simp[World.setCell,Array.getElem?_modify,B,D]
 have j:∀b,b≠a.block->(w.setCell a v).heap[b]?=w.heap[b]?:=λb hb=>by simp[World.setCell,Array.getElem?_modify,Ne.symm hb]
 have r:∀b i,aY (O.set a.block (.obj (.cells (c.setIfInBounds a.off v) e (0,0)))) b i->aY O b i:=λb i z=>by
  by_cases d:b=a.block
  . subst d;exact .inl ⟨_,m⟩
  . simpa[aY,ai.set,d]using z
 refine⟨⟨λb i u t z=>h.apart b i u t (r b i z),λb i u t=>?_,λb s E=>by rw[jY];exact h.sh b s E,λb o p=>?_,λb n g=>?_,λb f g=>?_⟩,?_⟩
 . rw[eE]
   . exact h.cell b i u t
   . rintro⟨rfl,rfl⟩
     exact h.apart _ _ _ t (.inl ⟨_,m⟩)
 . by_cases d:b=a.block
   . subst d
     simp only[ai.set,if_true,Option.some.injEq,Own.obj.injEq]at p;subst p;exact y
   . rw[j b d];exact h.obj b o (by simpa[ai.set,d]using p)
 . by_cases d:b=a.block
   . subst d;simp[ai.set]at g
   . rw[j b d];exact h.tail b n (by simpa[ai.set,d]using g)
 . by_cases d:b=a.block
   . subst d;simp[ai.set]at g
   . rw[j b d];exact h.part b f (by simpa[ai.set,d]using g)
 . refine⟨.refl k,by simp[World.setCell],λb _ C=>j b (λe=>by rw[e,m]at C;cases C),λb n _ g A F q=>?_,λb n _ g A F q=>?_,λb _=>jY a v b,λb x G=>?_,λ_ _ _ h=>.inl h,λ_ _ h=>.inl h,?_,rfl,rfl,rfl,?_,λb f hb=>⟨f,by rw[show(O.set a.block _) b=O b from by simp only[ai.set];rw[if_neg (λe=>by rw[e,m]at hb;cases hb)]];exact hb⟩⟩
   . have d:b≠a.block:=λe=>by rw[e,m]at g;cases g
     exact⟨A,by rw[j b d];exact q,rfl,λ_ _=>rfl⟩
   . have d:b≠a.block:=λe=>by rw[e,m]at g;cases g
     exact⟨A,by rw[j b d];exact q,rfl,λ_ _=>rfl⟩
   . by_cases d:b=a.block
     . subst d;exact .inl ⟨_,m,trivial⟩
     . exact .inl ⟨x,by simpa[ai.set,d]using G,.refl x⟩
   . intro H l
     simp only[List.mem_singleton]at l;subst l;exact .inl (.inl ⟨_,m⟩)
   . intro H l
     simp only[List.mem_singleton]at l;subst l;simpa[jF,World.setCell]using hb
theorem vT{a:Addr}{v:Value}{e:TypeId}{N:Nat}(h:Sat k O w)(J:a.spot=none)(t:O a.block=some (.tail a.off))(E:k.sh a.block=some (e,N))(K:a.off<N):
 Sat (k.put a.block a.off v) (O.set a.block (.tail (a.off+1))) (w.setCell a v)/\
 Eff k O w (k.put a.block a.off v) (O.set a.block (.tail (a.off+1))) (w.setCell a v) [⟨.cell a,true,false⟩]:=by
 obtain⟨c,I,F,y⟩:=h.tail _ _ t;rw[E]at y;simp only[Option.some.injEq,Prod.mk.injEq]at y;obtain⟨rfl,rfl⟩:=y;have hb:=(Array.getElem?_eq_some_iff.1 F).1
 have z:(w.setCell a v).heap[a.block]?=some (.cells (c.setIfInBounds a.off v) e (0,0)):=by simp[World.setCell,Array.getElem?_modify,F,J]
 have j:∀b,b≠a.block->(w.setCell a v).heap[b]?=w.heap[b]?:=λb hb=>by simp[World.setCell,Array.getElem?_modify,Ne.symm hb]
 have B:∀b i,aY (O.set a.block (.tail (a.off+1))) b i->aY O b i/\¬(b=a.block/\i=a.off):=λb i p=>by
  by_cases d:b=a.block
  . subst d
    rcases p with⟨o,p⟩|⟨n,p,G⟩|⟨f,p,_⟩
    . simp[ai.set]at p
    . simp only[ai.set,if_true,Option.some.injEq,Own.tail.injEq]at p
      subst p;exact⟨.inr (.inl ⟨_,t,by omega⟩),λx=>by omega⟩
    . simp[ai.set]at p
  . exact⟨by simpa[aY,ai.set,d]using p,λx=>d x.1⟩
 have A:k.cell a.block a.off=none:=by
  cases e:k.cell a.block a.off with
  |none=>rfl
  |some u=>exact(h.apart _ _ _ e (.inr (.inl ⟨_,t,Nat.le_refl _⟩))).elim
 refine⟨⟨λb i u q p=>?_,λb i u q=>?_,λb s E=>by rw[jY];exact h.sh b s E,λb o C=>?_,λb n g=>?_,λb f g=>?_⟩,?_⟩
 . obtain⟨L,M⟩:=B b i p
   refine h.apart b i u ?_ L;simpa[ah.put,M]using q
 . by_cases l:b=a.block/\i=a.off
   . obtain⟨rfl,rfl⟩:=l
     simp only[ah.put,and_self,if_true,Option.some.injEq]at q;subst q;simp[World.cell?,z,K]
   . rw[eE l]
     exact h.cell b i u (by simpa[ah.put,l]using q)
 . by_cases d:b=a.block
   . subst d;simp[ai.set]at C
   . rw[j b d];exact h.obj b o (by simpa[ai.set,d]using C)
 . by_cases d:b=a.block
   . subst d
     exact⟨_,_,z,by simpa[ah.put]using E⟩
   . rw[j b d];exact h.tail b n (by simpa[ai.set,d]using g)
 . by_cases d:b=a.block
   . subst d;simp[ai.set]at g
   . rw[j b d];exact h.part b f (by simpa[ai.set,d]using g)
 . refine⟨⟨λb i u q=>?_,λ_ _ h=>h⟩,by simp[World.setCell],λb _ G=>j b (λe=>by rw[e,t]at G;cases G),λb n _ g H I m=>?_,λb n _ g H I m=>(by
    have d:b≠a.block:=λe=>by rw[e,t]at g;cases g
    exact⟨H,by rw[j b d];exact m,rfl,λ_ _=>rfl⟩),λb _=>jY a v b,λb x D=>?_,λb i u q=>?_,λ_ _ h=>.inl h,?_,rfl,rfl,rfl,?_,λb f hb=>⟨f,by rw[show(O.set a.block _) b=O b from by simp only[ai.set];rw[if_neg (λe=>by rw[e,t]at hb;cases hb)]];exact hb⟩⟩
   . simp only[ah.put]
     split
     . next D=>obtain⟨rfl,rfl⟩:=D;rw[A]at q;cases q
     . exact q
   . by_cases d:b=a.block
     . subst d
       rw[t]at g;simp only[Option.some.injEq,Own.tail.injEq]at g;subst g;rw[F]at m;simp only[Option.some.injEq,Obj.cells.injEq,and_true]at m;obtain⟨rfl,rfl⟩:=m;exact⟨_,z,by simp,λi Q=>by rw[Array.getElem?_setIfInBounds_ne (by omega)]⟩
     . exact⟨H,by rw[j b d];exact m,rfl,λ_ _=>rfl⟩
   . by_cases d:b=a.block
     . subst d
       simp only[ai.set,if_true,Option.some.injEq]at D;subst D;exact .inl ⟨_,t,by simp[Own.jb]⟩
     . exact .inl ⟨x,by simpa[ai.set,d]using D,.refl x⟩
   . by_cases l:b=a.block/\i=a.off
     . obtain⟨rfl,rfl⟩:=l
       exact .inr (.inl (.inr (.inl ⟨_,t,Nat.le_refl _⟩)))
     . exact .inl (by simpa[ah.put,l]using q)
   . intro P r
     simp only[List.mem_singleton]at r;subst r;exact .inl (.inr (.inl ⟨_,t,Nat.le_refl _⟩))
   . intro P r
     simp only[List.mem_singleton]at r;subst r;simpa[jF,World.setCell]using hb
def ah.made(k:ah)(r:Nat):Obj->ah
 |.cells c e _=>k.eF r (e,c.size)
 |_=>k
def Gb(k:ah)(O:ai)(r:Nat):Prop:=O r=none/\(∀i,k.cell r i=none)/\k.sh r=none
theorem vU(h:Sat k O w):Gb k O w.heap.size:=by
 refine⟨?_,λi=>?_,?_⟩
 . cases e:O w.heap.size with
   |none=>rfl
   |some x=>have:=h.pr e;omega
 . cases e:k.cell w.heap.size i with
   |none=>rfl
   |some x=>have:=h.qc e;omega
 . cases e:k.sh w.heap.size with
   |none=>rfl
   |some x=>have:=h.JG e;omega
theorem Ns{o:Obj}(h:Sat k O w)(B:∀c e fz,o=.cells c e fz->fz=(0,0)):
 Sat (k.made w.heap.size o) (O.set w.heap.size (.obj o)) {w with heap:=w.heap.push o}/\
 Eff k O w (k.made w.heap.size o) (O.set w.heap.size (.obj o)) {w with heap:=w.heap.push o} []:=by
 obtain⟨f1,F,z⟩:=vU h
 have hold:∀b,b<w.heap.size->(w.heap.push o)[b]?=w.heap[b]?:=λb hb=>by rw[Array.getElem?_push,if_neg (by omega)]
 have m:(w.heap.push o)[w.heap.size]?=some o:=by simp
 have g:∀b,b<w.heap.size->World.shape? {w with heap:=w.heap.push o} b=w.shape? b:=λb hb=>by simp only[World.shape?,hold b hb]
 have a:(k.made w.heap.size o).cell=k.cell:=by cases o<;>rfl
 refine⟨⟨λb i u j r=>?_,λb i u j=>?_,λb s p=>?_,λb A q=>?_,λb n l=>?_,λb f l=>?_⟩,?_⟩
 . rw[a]at j
   have hb:=h.qc j;have v:b≠w.heap.size:=by omega
   exact h.apart b i u j (by simpa[aY,ai.set,v]using r)
 . rw[a]at j
   have hb:=h.qc j;have:=h.cell b i u j;simpa only[World.cell?,hold b hb]using this
 . by_cases hb:b=w.heap.size
   . subst hb
     cases o with
     |cells c e fz=>simp only[ah.made,ah.eF,if_true,Option.some.injEq]at p;subst p;simp only[World.shape?,m]
     |_=>simp only[ah.made,z]at p;cases p
   . have t:k.sh b=some s:=by
      cases o<;>simp_all [ah.made,ah.eF]
     rw[g b (h.JG t)];exact h.sh b s t
 . by_cases hb:b=w.heap.size
   . subst hb
     simp only[ai.set,if_true,Option.some.injEq,Own.obj.injEq]at q;subst q;exact m
   . have d:O b=some (.obj A):=by simpa[ai.set,hb]using q
     rw[hold b (h.AG d)];exact h.obj b A d
 . by_cases hb:b=w.heap.size
   . subst hb;simp[ai.set]at l
   . have d:O b=some (.tail n):=by simpa[ai.set,hb]using l
     obtain⟨c,e,y,C⟩:=h.tail b n d;refine⟨c,e,by rw[hold b (h.pr d)];exact y,?_⟩
     cases o<;>simp_all [ah.made,ah.eF]
 . by_cases hb:b=w.heap.size
   . subst hb;simp[ai.set]at l
   . have d:O b=some (.part f):=by simpa[ai.set,hb]using l
     obtain⟨c,e,y,C,D⟩:=h.part b f d;refine⟨c,e,by rw[hold b (h.pr d)];exact y,?_,D⟩
     cases o<;>simp_all [ah.made,ah.eF]
 . refine⟨⟨λb i u j=>by rw[a];exact j,λb s p=>?_⟩,by simp,λb hb _=>hold b hb,λb n hb _ c e r=>⟨c,by rw[hold b hb];exact r,rfl,λ_ _=>rfl⟩,λb n hb _ c e r=>⟨c,by rw[hold b hb];exact r,rfl,λ_ _=>rfl⟩,g,λb x E=>?_,λb i u j=>.inl (by rw[a]at j;exact j),λb s p=>?_,by simp,rfl,rfl,rfl,by simp,λb f hb=>⟨f,by rw[show(O.set w.heap.size (.obj o)) b=O b from by simp only[ai.set];rw[if_neg (λe=>by rw[e,f1]at hb;cases hb)]];exact hb⟩⟩
   . have hb:b≠w.heap.size:=λe=>by rw[e,z]at p;cases p
     cases o<;>simp_all [ah.made,ah.eF]
   . by_cases hb:b=w.heap.size
     . exact .inr (by omega)
     . exact .inl ⟨x,by simpa[ai.set,hb]using E,.refl x⟩
   . by_cases hb:b=w.heap.size
     . exact .inr (.inr (by omega))
     . refine .inl ?_
       cases o<;>simp_all [ah.made,ah.eF]
theorem Em{r:Nat}{o o':Obj}(h:Sat k O w)(l:O r=some (.obj o))(K:iB o=false)(L:iB o'=false):
 Sat k (O.set r (.obj o')) {w with heap:=w.heap.setIfInBounds r o'}/\
 Eff k O w k (O.set r (.obj o')) {w with heap:=w.heap.setIfInBounds r o'} [⟨.obj r,true,o'.isChan⟩]:=by
 have D:=h.obj _ _ l;have E:=(Array.getElem?_eq_some_iff.1 D).1;have q:(w.heap.setIfInBounds r o')[r]?=some o':=by simp[E]
 have g:∀b,b≠r->(w.heap.setIfInBounds r o')[b]?=w.heap[b]?:=λb hb=>by rw[Array.getElem?_setIfInBounds_ne (Ne.symm hb)]
 have t:∀b,World.shape? {w with heap:=w.heap.setIfInBounds r o'} b=w.shape? b:=λb=>by
  by_cases hb:b=r
  . subst hb
    simp only[World.shape?,q,D];cases o<;>cases o'<;>simp_all [iB]
  . simp only[World.shape?,g b hb]
 have v:∀b i,aY (O.set r (.obj o')) b i->aY O b i:=λb i z=>by
  by_cases a:b=r
  . subst a;exact .inl ⟨_,l⟩
  . simpa[aY,ai.set,a]using z
 refine⟨⟨λb i u y z=>h.apart b i u y (v b i z),λb i u y=>?_,λb s G=>by rw[t];exact h.sh b s G,λb x m=>?_,λb n d=>?_,λb f d=>?_⟩,?_⟩
 . have hb:b≠r:=λe=>by subst e;exact h.apart _ _ _ y (.inl ⟨_,l⟩)
   have:=h.cell b i u y;simpa only[World.cell?,g b hb]using this
 . by_cases a:b=r
   . subst a
     simp only[ai.set,if_true,Option.some.injEq,Own.obj.injEq]at m;subst m;exact q
   . show(w.heap.setIfInBounds r o')[b]?=_
     rw[g b a];exact h.obj b x (by simpa[ai.set,a]using m)
 . by_cases a:b=r
   . subst a;simp[ai.set]at d
   . obtain⟨c,e,A,B⟩:=h.tail b n (by simpa[ai.set,a]using d)
     exact⟨c,e,by show(w.heap.setIfInBounds r o')[b]?=_;rw[g b a];exact A,B⟩
 . by_cases a:b=r
   . subst a;simp[ai.set]at d
   . obtain⟨c,e,A,B⟩:=h.part b f (by simpa[ai.set,a]using d)
     exact⟨c,e,by show(w.heap.setIfInBounds r o')[b]?=_;rw[g b a];exact A,B⟩
 . refine⟨.refl k,by simp,λb _ F=>g b (λe=>by rw[e,l]at F;cases F),λb n _ d C H p=>?_,λb n _ d C H p=>?_,λb _=>t b,λb x I=>?_,λ_ _ _ h=>.inl h,λ_ _ h=>.inl h,?_,rfl,rfl,rfl,?_,λb f hb=>⟨f,by rw[show(O.set r _) b=O b from by simp only[ai.set];rw[if_neg (λe=>by rw[e,l]at hb;cases hb)]];exact hb⟩⟩
   . have a:b≠r:=λe=>by rw[e,l]at d;cases d
     exact⟨C,by show(w.heap.setIfInBounds r o')[b]?=_;rw[g b a];exact p,rfl,λ_ _=>rfl⟩
   . have a:b≠r:=λe=>by rw[e,l]at d;cases d
     exact⟨C,by show(w.heap.setIfInBounds r o')[b]?=_;rw[g b a];exact p,rfl,λ_ _=>rfl⟩
   . by_cases a:b=r
     . subst a;exact .inl ⟨_,l,trivial⟩
     . exact .inl ⟨x,by simpa[ai.set,a]using I,.refl x⟩
   . intro J j
     simp only[List.mem_singleton]at j;subst j;exact .inl ⟨_,l⟩
   . intro J j
     simp only[List.mem_singleton]at j;subst j;simpa[jF]using E
theorem JH{n:Nat}(h:Sat k O w):Sat k O {w with drawn:=n}/\Eff k O w k O {w with drawn:=n} []:=⟨⟨h.apart,h.cell,h.sh,h.obj,h.tail,h.part⟩,⟨.refl k,Nat.le_refl _,λ_ _ _=>rfl,λ_ _ _ _ c _ h=>⟨c,h,rfl,λ_ _=>rfl⟩,λ_ _ _ _ c _ h=>⟨c,h,rfl,λ_ _=>rfl⟩,λ_ _=>rfl,λ_ _ h=>.inl ⟨_,h,.refl _⟩,λ_ _ _ h=>.inl h,λ_ _ h=>.inl h,by simp,rfl,rfl,rfl,by simp,λ_ f h=>⟨f,h⟩⟩⟩
theorem vV{l:List Event}(a:∀e∈l,jc k O w.heap.size e)(b:∀e∈l,jF w.heap.size e):Eff k O w k O w l:=⟨.refl k,Nat.le_refl _,λ_ _ _=>rfl,λ_ _ _ _ c _ h=>⟨c,h,rfl,λ_ _=>rfl⟩,λ_ _ _ _ c _ h=>⟨c,h,rfl,λ_ _=>rfl⟩,λ_ _=>rfl,λ_ _ h=>.inl ⟨_,h,.refl _⟩,λ_ _ _ h=>.inl h,λ_ _ h=>.inl h,a,rfl,rfl,rfl,b,λ_ f h=>⟨f,h⟩⟩
end prim
def Reads(k:ah)(O:ai)(a:Addr)(v:Value):Prop:=a.spot=none/\(k.cell a.block a.off=some v\/∃c e fz,O a.block=some (.obj (.cells c e fz))/\c[a.off]?=some v)
def Gc(k:ah)(O:ai)(r:Nat)(s:Option (TypeId × Nat)):Prop:=(∃x,s=some x/\k.sh r=some x)\/(∃c e fz,O r=some (.obj (.cells c e fz))/\s=some (e,c.size))\/(∃o,O r=some (.obj o)/\iB o=false/\s=none)
def flat:Value->Bool
 |.agg _=>false
 |.tuple _=>false
 |_=>true
def Pa:Obj->Bool
 |.cells _ _ fz=>fz==(0,0)
 |_=>true
def eh(P:Program){α:Type}:Sem α->ah->ai->(α->ah->ai->Prop)->(Value->ah->ai->Prop)->Prop
 |.pure a,k,O,K,_=>K a k O
 |.load m a f,k,O,K,b=>m=.plain/\∃v,Reads k O a v/\eh P (f v) k O K b
 | .store m a v f,k,O,K,b=>m=.plain/\flat v=true/\a.spot=none/\
    ((∃c e,O a.block=some (.obj (.cells c e (0,0)))/\a.off<c.size/\eh P f k (O.set a.block (.obj (.cells (c.setIfInBounds a.off v) e (0,0)))) K b)\/
     (∃e N,O a.block=some (.tail a.off)/\k.sh a.block=some (e,N)/\a.off<N/\(k.cell a.block a.off=none->eh P f (k.put a.block a.off v) (O.set a.block (.tail (a.off+1))) K b)))
 |.new o f,k,O,K,b=>Pa o=true/\∀r,Gb k O r->eh P (f r) (k.made r o) (O.set r (.obj o)) K b
 |.shape r f,k,O,K,b=>∃s,Gc k O r s/\eh P (f s) k O K b
 |.freeze _ _ _,_,_,_,_=>False
 |.frozen a f,k,O,K,b=>((∃c e,O a.block=some (.obj (.cells c e (0,0))))\/∃n,O a.block=some (.tail n))/\eh P (f false) k O K b
 |.getObj r f,k,O,K,b=>∃o,O r=some (.obj o)/\iB o=false/\eh P (f o) k O K b
 |.setObj r o f,k,O,K,b=>(∃d,O r=some (.obj d)/\iB d=false)/\iB o=false/\eh P f k (O.set r (.obj o)) K b
 |.choose q f,k,O,K,b=>∀t,eh P (f (if q.forced then 0 else q.cut t)) k O K b
 |.sys _ _,_,_,_,_=>False
 |.program f,k,O,K,b=>eh P (f P) k O K b
 |.mark m f,k,O,K,b=>mY m=true/\eh P f k O K b
 |.halt (.panic v),k,O,_,b=>b v k O
 |.halt _,_,_,_,_=>False
theorem En{k:ah}{O:ai}{w:World}{a:Addr}{v:Value}(h:Sat k O w)(d:Reads k O a v):w.cell? a=some v:=by
 obtain⟨f,d⟩:=d;obtain⟨b,i,s⟩:=a;simp only at f d;subst f;rcases d with d|⟨c,e,fz,g,j⟩
 . exact h.cell _ _ _ d
 . have:=h.obj _ _ g
   simp[World.cell?,this,j]
theorem yG{k:ah}{O:ai}{w:World}{r:Nat}{s:Option (TypeId × Nat)}(h:Sat k O w)(b:Gc k O r s):w.shape? r=s:=by
 rcases b with⟨x,rfl,d⟩|⟨c,e,fz,a,rfl⟩|⟨o,a,f,rfl⟩
 . exact h.sh _ _ d
 . simp[World.shape?,h.obj _ _ a]
 . rw[World.shape?,h.obj _ _ a]
   cases o<;>simp_all [iB]
def Comes{α:Type}(K:α->ah->ai->Prop)(Kp:Value->ah->ai->Prop)(k':ah)(O':ai)(w':World)(r:Result α):Prop:=(∃a,r=.ok a w'/\K a k' O')\/(∃v,r=.halt (.panic v) w'/\Kp v k' O')
theorem tz{P:Program}{α:Type}{K:α->ah->ai->Prop}{Kp:Value->ah->ai->Prop}(s:Sem α):∀{k:ah}{O:ai}{w:World}(es:Array Event),
 eh P s k O K Kp->Sat k O w->∃k' O' w' l,Eff k O w k' O' w' l/\Sat k' O' w'/\(s.runT P w es).2.toList=es.toList++l/\Comes K Kp k' O' w' (s.runT P w es).1:=by
 induction s with
 |pure a=>intro k O w es h b;exact⟨k,O,w,[],.refl ..,b,by simp[Sem.runT],.inl ⟨a,rfl,h⟩⟩
 | load m a f d=>
   intro k O w es h b;obtain⟨rfl,v,y,h⟩:=h;have F:=En b y;obtain⟨k',O',w',l,g,i,j,p⟩:=d v (es.push ⟨.cell a,false,false⟩) h b;refine⟨k',O',w',⟨.cell a,false,false⟩::l,?_,i,?_,?_⟩
   . refine Eff.trans (vV ?_ ?_) g (l1:=[_])
     . intro e z
       simp only[List.mem_singleton]at z;subst z;rcases y.2 with y|⟨c,e,fz,t,_⟩
       . exact .inr (.inr ⟨rfl,v,y⟩)
       . exact .inl (.inl ⟨_,t⟩)
     . intro e z
       simp only[List.mem_singleton]at z;subst z;rcases y.2 with y|⟨c,e,fz,t,_⟩
       . exact b.qc y
       . exact b.AG t
   . simp only[Sem.runT,F];rw[show(Mode.plain==Mode.atomic)=false from rfl,j];simp
   . simp only[Sem.runT,F];exact p
 | store m a v f d=>
   intro k O w es h b;obtain⟨rfl,Q,H,h⟩:=h
   have G:∀c e,w.heap[a.block]?=some (.cells c e (0,0))->a.off<c.size ->
    (Sem.store Mode.plain a v f).runT P w es=f.runT P (w.setCell a v) (es.push ⟨.cell a,true,false⟩):=by
    intro c e B A;have F:w.cell? a=some c[a.off]:=by simp[World.cell?,B,H,A]
    have R:w.frozen? a=false:=by simp[World.frozen?,B]
    cases v<;>first|exact Bool.noConfusion Q|(rw[Sem.runT,F]<;>first|(simp only[R];rfl)|(intro _ S;cases S))
   rcases h with⟨c,e,t,A,h⟩|⟨e,N,t,C,A,h⟩
   . obtain⟨D,E⟩:=yF (v:=v) b H t
     obtain⟨k',O',w',l,g,i,j,p⟩:=d (es.push ⟨.cell a,true,false⟩) h D;have y:=G c e (b.obj _ _ t) A;exact⟨k',O',w',_::l,Eff.trans E g,i,by rw[y,j];simp,by rw[y];exact p⟩
   . have h:=h (by
      cases e:k.cell a.block a.off with
      |none=>rfl
      |some u=>exact(b.apart _ _ _ e (.inr (.inl ⟨_,t,Nat.le_refl _⟩))).elim)
     obtain⟨D,E⟩:=vT (v:=v) b H t C A;obtain⟨k',O',w',l,g,i,j,p⟩:=d (es.push ⟨.cell a,true,false⟩) h D;obtain⟨c,T,B,J⟩:=b.tail _ _ t;rw[C]at J;simp only[Option.some.injEq,Prod.mk.injEq]at J;have y:=G c T B (by omega);exact⟨k',O',w',_::l,Eff.trans E g,i,by rw[y,j];simp,by rw[y];exact p⟩
 | new o f d=>
   intro k O w es h b;obtain⟨L,h⟩:=h;have h:=h w.heap.size (vU b);obtain⟨D,E⟩:=Ns (o:=o) b (λ_ _ _ z=>by subst z;simpa[Pa]using L);obtain⟨k',O',w',l,g,i,j,p⟩:=d w.heap.size es h D;exact⟨k',O',w',l,Eff.trans E g,i,by simp only[Sem.runT];exact j,by simp only[Sem.runT];exact p⟩
 |shape r f d=>intro k O w es h b;obtain⟨s,C,h⟩:=h;have:=yG b C;obtain⟨k',O',w',l,g,i,j,p⟩:=d s es h b;exact⟨k',O',w',l,g,i,by simp only[Sem.runT,this];exact j,by simp only[Sem.runT,this];exact p⟩
 |freeze a n f d=>intro k O w es h b;exact h.elim
 | frozen a f d=>
   intro k O w es h b;obtain⟨t,h⟩:=h
   have:w.frozen? a=false:=by
    rcases t with⟨c,e,t⟩|⟨n,t⟩
    . simp[World.frozen?,b.obj _ _ t]
    . obtain⟨c,e,B,_⟩:=b.tail _ _ t
      simp[World.frozen?,B]
   obtain⟨k',O',w',l,g,i,j,p⟩:=d false es h b;exact⟨k',O',w',l,g,i,by simp only[Sem.runT,this];exact j,by simp only[Sem.runT,this];exact p⟩
 | getObj r f d=>
   intro k O w es h b;obtain⟨o,t,F,h⟩:=h;have B:=b.obj _ _ t;obtain⟨k',O',w',l,g,i,j,p⟩:=d o (es.push ⟨.obj r,false,o.isChan⟩) h b;have y:(Sem.getObj r f).runT P w es=(f o).runT P w (es.push ⟨.obj r,false,o.isChan⟩):=by rw[Sem.runT,B];cases o<;>first|rfl|cases F
   refine⟨k',O',w',⟨.obj r,false,o.isChan⟩::l,Eff.trans (vV ?_ ?_) g (l1:=[_]),i,by rw[y,j];simp,by rw[y];exact p⟩
   . intro e z
     simp only[List.mem_singleton]at z;subst z;exact .inl ⟨_,t⟩
   . intro e z
     simp only[List.mem_singleton]at z;subst z;exact b.AG t
 | setObj r o f d=>
   intro k O w es h b;obtain⟨⟨o',t,M⟩,F,h⟩:=h;have B:=b.obj _ _ t;obtain⟨D,E⟩:=Em (o':=o) b t M F;obtain⟨k',O',w',l,g,i,j,p⟩:=d (es.push ⟨.obj r,true,o.isChan⟩) h D;have y:(Sem.setObj r o f).runT P w es=f.runT P {w with heap:=w.heap.setIfInBounds r o} (es.push ⟨.obj r,true,o.isChan⟩):=by rw[Sem.runT,B];cases o'<;>first|rfl|cases M
   exact⟨k',O',w',_::l,Eff.trans E g,i,by rw[y,j];simp,by rw[y];exact p⟩
 | choose q f d=>
   intro k O w es h b;have h:=h (w.tape w.drawn q);by_cases I:q.forced=true
   . simp only[I,if_true]at h
     obtain⟨k',O',w',l,g,i,j,p⟩:=d 0 es h b;exact⟨k',O',w',l,g,i,by simp only[Sem.runT,I,if_true];exact j,by simp only[Sem.runT,I,if_true];exact p⟩
   . simp only[I]at h
     obtain⟨D,E⟩:=JH (n:=w.drawn+1) b;obtain⟨k',O',w',l,g,i,j,p⟩:=d _ es h D;refine⟨k',O',w',l,Eff.trans E g,i,?_,?_⟩
     . simp only[Sem.runT,I];exact j
     . simp only[Sem.runT,I];exact p
 |sys c f d=>intro k O w es h b;exact h.elim
 |program f d=>intro k O w es h b;obtain⟨k',O',w',l,g,i,j,p⟩:=d P es h b;exact⟨k',O',w',l,g,i,by simp only[Sem.runT];exact j,by simp only[Sem.runT];exact p⟩
 | mark m f d=>
   intro k O w es h b;obtain⟨U,h⟩:=h;obtain⟨k',O',w',l,g,i,j,p⟩:=d (es.push ⟨.mark m,false,true⟩) h b;refine⟨k',O',w',⟨.mark m,false,true⟩::l,Eff.trans (vV ?_ ?_) g (l1:=[_]),i,by simp only[Sem.runT];rw[j];simp,by simp only[Sem.runT];exact p⟩
   . intro e z
     simp only[List.mem_singleton]at z;subst z;show jX m=true;cases m<;>simp_all [mY,jX]
   . intro e z
     simp only[List.mem_singleton]at z;subst z;cases m<;>simp_all [mY,jF]
 | halt x=>
   intro k O w es h b;cases x with
   |panic v=>exact⟨k,O,w,[],.refl ..,b,by simp[Sem.runT],.inr ⟨v,rfl,h⟩⟩
   |_=>exact h.elim
theorem JI{P:Program}{α β:Type}{f:α->Sem β}{K:β->ah->ai->Prop}{Kp:Value->ah->ai->Prop}(s:Sem α):∀{k:ah}{O:ai},
 eh P s k O (λa k O=>eh P (f a) k O K Kp) Kp->eh P (s.bind f) k O K Kp:=by
 induction s with
 |pure a=>intro k O h;exact h
 |load m a g b=>intro k O h;obtain⟨d,v,i,j⟩:=h;exact⟨d,v,i,b v j⟩
 | store m a v g b=>
   intro k O h;obtain⟨d,i,j,w⟩:=h;refine⟨d,i,j,?_⟩;rcases w with⟨c,e,l,p,u⟩|⟨e,N,l,p,u,y⟩
   . exact .inl ⟨c,e,l,p,b u⟩
   . exact .inr ⟨e,N,l,p,u,λz=>b (y z)⟩
 |new o g b=>intro k O h;exact⟨h.1,λr A=>b r (h.2 r A)⟩
 |shape r g b=>intro k O h;obtain⟨s,d,i⟩:=h;exact⟨s,d,b s i⟩
 |freeze a n g b=>intro k O h;exact h.elim
 |frozen a g b=>intro k O h;exact⟨h.1,b false h.2⟩
 |getObj r g b=>intro k O h;obtain⟨o,d,i,j⟩:=h;exact⟨o,d,i,b o j⟩
 |setObj r o g b=>intro k O h;exact⟨h.1,h.2.1,b h.2.2⟩
 |choose q g b=>intro k O h t;exact b _ (h t)
 |sys c g b=>intro k O h;exact h.elim
 |program g b=>intro k O h;exact b P h
 |mark m g b=>intro k O h;exact⟨h.1,b h.2⟩
 |halt x=>intro k O h;cases x<;>exact h
end Go.bd
