import Derived.Conc.LeavingOf
set_option linter.all false
namespace Go.cG
def kn:=@Option.some.injEq
def lb:=@List.mem_singleton
def za:=@Ne.symm
def zj:=@Bool.and_eq_true
def zs:=@Array.getElem?_eq_some_iff
def zA:=@List.getD_eq_getElem?_getD
def zD:=@List.take_succ_eq_append_getElem
def zG:=@List.getElem_mem
def zH:=@Prod.mk.injEq
def zU:=@List.getElem?_eq_getElem
def KD:=@decide_eq_true_eq
def LF:=@Array.getElem?_setIfInBounds_self_of_lt
def LK:=@Bool.false_eq_true
def Rp:=@if_false
def aax:=@List.mem_range
def aay:=@if_neg
def aaz:=@Array.getElem?_setIfInBounds_ne
def aaA:=@if_true
def aaB:=@if_pos
def aaC:=@List.mem_append
def aaD:=@List.all_eq_true
def aaE:=@Nat.le_refl
def aaF:=@List.length_append
def aaG:=@Nat.le_trans
def aaH:=@Option.map_eq_some_iff
def aaI:=@List.getElem?_eq_some_iff
def aaJ:=@List.take_length
def aaK:=@Array.all_eq_true_iff_forall_mem
def aaL:=@List.mem_map
def aaM:=@Array.getElem?_eq_getElem
def aaN:=@List.map_append
def aaO:=@List.range_succ
def aaP:=@List.length_map
def aaQ:=@List.mem_cons
def aaR:=@Iff.rfl
def aaS:=@Option.some.inj
def aaT:=@List.getElem?_append_right
def aaU:=@Nat.lt_of_lt_of_le
def aaV:=@List.mem_iff_getElem
def aaW:=@List.length_cons
def aaX:=@Option.map_some
def aaY:=@List.getElem?_map
def aaZ:=@List.mem_filter
def aba:=@List.any_eq_true
def abb:=@List.pairwise_cons
def abc:=@List.drop_eq_getElem_cons
def abd:=@Array.mem_of_getElem?
def abe:=@Nat.lt_or_ge
def abf:=@List.foldl_append
def abg:=@Array.getElem?_modify
def abh:=@List.append_nil
def abi:=@decide_eq_false_iff_not
def abj:=@List.all_cons
def abk:=@Classical.byContradiction
def abl:=@List.getElem?_append_left
def abm:=@Array.size_setIfInBounds
def abn:=@Option.getD_some
def abo:=@List.length_filter_le
def abp:=@List.getElem?_set_ne
def abq:=@Nat.mul_le_mul_right
def abr:=@List.foldl_cons
def abt:=@List.take_of_length_le
def abu:=@Nat.le_add_right
def abv:=@List.getElem?_eq_none
def abw:=@List.length_singleton
def abx:=@List.length_nil
def aby:=@List.nodup_cons
def abz:=@List.length_take
def abA:=@Int.toNat_natCast
def abB:=@List.getElem?_set_self
def abC:=@List.mem_flatMap
def abD:=@List.mem_cons_of_mem
def abE:=@Nat.testBit_two_pow_mul_add
def abF:=@Int.le_refl
def abG:=@Array.getElem?_map
def abH:=@List.filter_append
def abI:=@beq_iff_eq
def abJ:=@List.append_assoc
def abK:=@List.filter_congr
def abL:=@Nat.zero_add
def abM:=@of_decide_eq_true
def abN:=@List.flatMap_append
def abO:=@Array.getElem?_append_right
def abP:=@List.any_eq_false
def abQ:=@List.range_eq_range'
def abR:=@List.not_mem_nil
def abS:=@List.exists_mem_of_ne_nil
def abT:=@List.mem_or_eq_of_mem_set
def abU:=@List.map_congr_left
def abV:=@List.forIn_cons
def abW:=@List.length_set
def abX:=@Bool.true_eq_false
def abY:=@List.forIn_toArray
def abZ:=@List.ne_nil_of_mem
def aca:=@decide_eq_true_iff
def acb:=@List.getElem?_cons_zero
def acd:=@List.length_eq_zero_iff
def ace:=@Option.bind_eq_some_iff
def acf:=@Bool.not_eq_true'
def acg:=@List.drop_zero
def ach:=@List.flatMap_cons
def aci:=@List.forIn_nil
def acj:=@List.length_range
def ack:=@List.getElem?_toArray
def acm:=@List.drop_length
def acn:=@Bool.or_eq_false_iff
def aco:=@List.mem_of_mem_take
def acp:=@Nat.add_mul
def acr:=@Bool.or_eq_true
def acs:=@List.nil_append
def acu:=@Array.getD_eq_getD_getElem?
def acv:=@List.map_set
def acw:=@Array.ext_getElem?
def acx:=@Array.getElem?_append_left
def acy:=@List.mem_cons_self
def acz:=@List.nodup_nil
def acA:=@List.nodup_append
def acB:=@List.map_cons
def acC:=@List.getElem?_cons_succ
def acD:=@List.perm_middle
def acE:=@List.take_append
def acF:=@Int.add_zero
def acG:=@List.filter_eq_nil_iff
def acH:=@List.flatMap_singleton
def acI:=@List.map_map
def acJ:=@Bool.eq_iff_iff
def acK:=@List.range_zero
def acL:=@Array.getElem?_toList
def acM:=@List.singleton_append
abbrev acQ:=Array (Nat × Operand)
abbrev acS:=Option (Nat × Nat)
abbrev acV:=List (Int × Int)
abbrev acW:=List (List Int)
abbrev acX:=Array Goroutine
abbrev adb:=List ResultVar
abbrev ade:=Int->Int->Bool
abbrev adf:=Operand->Value
abbrev adg:=Option Operand
abbrev adi:=Array Operand
abbrev adj:=List Deferred
abbrev adk:=Int->Int->Int
abbrev adn:=Option Value
abbrev ado:=Array TypeId
abbrev adq:=Array Value
abbrev adr:=World->Prop
abbrev ads:=Array Event
abbrev adt:=List Frame
abbrev adu:=Array Oper
abbrev adw:=Option Nat
abbrev adx:=List Value
abbrev ady:=Option Tmp
abbrev adz:=List Event
abbrev adA:=Nat->Value
abbrev adB:=Option Int
abbrev adC:=Nat->Prop
abbrev adD:=List Item
abbrev adF:=Goroutine
abbrev adG:=List Int
abbrev adH:=List Nat
abbrev adI:=Nat->Nat
abbrev adK:=CallKind
abbrev adS:=Program
abbrev adT:=Operand
structure aj where
 cell:Nat->Nat->adn
 sh:Nat->Option (TypeId × Nat)
inductive Own where
 |obj (o:Obj)
 |tail (n:Nat)
 |part (f:Nat->adn)
abbrev ak:=Nat->Option Own
def Own.js:Own->Own->Prop
 |.obj _,_=>True
 |.tail n,.tail m=>n<=m
 |.part f,.part g=>∀i,g i≠none->f i≠none
 |_,_=>False
def Own.js.refl(x:Own):x.js x:=by cases x<;>simp[Own.js]
def Own.js.trans{x y z:Own}(h:x.js y)(h':y.js z):x.js z:=by cases x<;>cases y<;>cases z<;>simp_all [Own.js]<;>omega
def ak.set(O:ak)(b:Nat)(x:Own):ak:=λc=>if c=b then some x else O c
def aj.eH(k:aj)(b:Nat)(s:TypeId × Nat):aj:={k with sh:=λc=>if c=b then some s else k.sh c}
def aj.put(k:aj)(b i:Nat)(v:Value):aj:={k with cell:=λc j=>if c=b/\j=i then some v else k.cell c j}
structure aj.Le(k k':aj):Prop where
 cell:∀b i v,k.cell b i=some v->k'.cell b i=some v
 sh:∀b s,k.sh b=some s->k'.sh b=some s
def aj.Le.refl(k:aj):k.Le k:=⟨λ_ _ _ h=>h,λ_ _ h=>h⟩
def aj.Le.trans{a b c:aj}(h:a.Le b)(h':b.Le c):a.Le c:=⟨λ_ _ _ x=>h'.cell _ _ _ (h.cell _ _ _ x),λ_ _ x=>h'.sh _ _ (h.sh _ _ x)⟩
def aV(O:ak)(b i:Nat):Prop:=(∃o,O b=some (.obj o))\/(∃n,O b=some (.tail n)/\n<=i)\/∃f,O b=some (.part f)/\f i≠none
def Apart(k:aj)(O:ak):Prop:=∀b i v,k.cell b i=some v -> ¬aV O b i
structure Sat(k:aj)(O:ak)(w:World):Prop where
 apart:Apart k O
 cell:∀b i v,k.cell b i=some v->w.cell? ⟨b,i,none⟩=some v
 sh:∀b s,k.sh b=some s->w.shape? b=some s
 obj:∀b o,O b=some (.obj o)->w.heap[b]?=some o
 tail:∀b n,O b=some (.tail n)->∃c e,w.heap[b]?=some (.cells c e (0,0))/\k.sh b=some (e,c.size)
 part:∀b f,O b=some (.part f)->∃c e,w.heap[b]?=some (.cells c e (0,0))/\k.sh b=some (e,c.size)/\∀i v,f i=some v->c[i]?=some v
def iT:Obj->Bool
 |.cells ..=>true
 |_=>false
def nk:Mark->Bool
 |.noRoom=>true
 |.extern _=>true
 |_=>false
def j9:Mark->Bool
 |.acquire _=>true
 |.releaseMerge _=>true
 |m=>nk m
def jm(k:aj)(O:ak)(size:Nat)(e:Event):Prop:=
 match e.loc with
 |.cell a=>aV O a.block a.off\/size<=a.block\/(e.write=false/\∃v,k.cell a.block a.off=some v)
 |.obj r=>(∃o,O r=some (.obj o))\/size<=r
 |.mark m=>j9 m=true
 |_=>False
def jf(B:Nat)(e:Event):Prop:=
 match e.loc with
 |.cell a=>a.block<B
 |.obj r=>r<B
 |.mark (.acquire a)=>a.block<B
 |.mark (.releaseMerge a)=>a.block<B
 |_=>True
def jf.mono{B a:Nat}{e:Event}(h:jf B e)(b:B<=a):jf a e:=by
 unfold jf at *
 grind
def mK(o o':Os):Prop:=∃d:Nat,o'={o with wall:=o.wall+d,mono:=o.mono+d}
def mK.refl(o:Os):mK o o:=⟨0,rfl⟩
def mK.trans{a b c:Os}(h:mK a b)(h':mK b c):mK a c:=by obtain⟨d,rfl⟩:=h;obtain⟨e,rfl⟩:=h';exact⟨d+e,by grind⟩
structure wZ(W w:World):Prop where
 os:mK W.os w.os
 output:w.output=W.output
 size:W.heap.size<=w.heap.size
 block:∀b,b<W.heap.size->w.heap[b]?=W.heap[b]?
def wZ.refl(W:World):wZ W W:=⟨.refl _,rfl,aaE _,λ_ _=>rfl⟩
def wZ.step{W w w':World}(h:wZ W w)(d:mK w.os w'.os)(a:w'.output=w.output)(e:w.heap.size<=w'.heap.size)(hb:∀b,b<W.heap.size->w'.heap[b]?=w.heap[b]?):wZ W w':=⟨h.os.trans d,a.trans h.output,aaG h.size e,λb c=>(hb b c).trans (h.block b c)⟩
structure Eff(k:aj)(O:ak)(w:World)(k':aj)(O':ak)(w':World)(es:adz):Prop where
 le:k.Le k'
 size:w.heap.size<=w'.heap.size
 keep:∀b,b<w.heap.size->O b=none->w'.heap[b]?=w.heap[b]?
 tail:∀b n,b<w.heap.size->O b=some (.tail n)->∀c e,w.heap[b]?=some (.cells c e (0,0)) ->
  ∃c',w'.heap[b]?=some (.cells c' e (0,0))/\c'.size=c.size/\∀i,i<n->c'[i]?=c[i]?
 part:∀b f,b<w.heap.size->O b=some (.part f)->∀c e,w.heap[b]?=some (.cells c e (0,0)) ->
  ∃c',w'.heap[b]?=some (.cells c' e (0,0))/\c'.size=c.size/\∀i,f i=none->c'[i]?=c[i]?
 shape:∀b,b<w.heap.size->w'.shape? b=w.shape? b
 own:∀b x,O' b=some x->(∃y,O b=some y/\y.js x)\/w.heap.size<=b
 cell:∀b i v,k'.cell b i=some v->k.cell b i=some v\/aV O b i\/w.heap.size<=b
 sh:∀b s,k'.sh b=some s->k.sh b=some s\/(∃y,O b=some y)\/w.heap.size<=b
 evs:∀e∈es,jm k O w.heap.size e
 tape:w'.tape=w.tape
 output:w'.output=w.output
 os:w'.os=w.os
 low:∀e∈es,jf w'.heap.size e
 tok:∀b f,O b=some (.part f)->∃f',O' b=some (.part f')
def Eff.Fg{k:aj}{O:ak}{w:World}{k':aj}{O':ak}{w':World}{es:adz}(h:Eff k O w k' O' w' es)(b i:Nat)(a:aV O' b i):
 aV O b i\/w.heap.size<=b:=by
 rcases a with⟨o,a⟩|⟨n,a,e⟩|⟨f,a,e⟩
 . rcases h.own b _ a with⟨y,c,hb⟩|j
   . cases y with
     |obj d=>exact .inl (.inl ⟨d,c⟩)
     |tail m=>exact hb.elim
     |part f=>exact hb.elim
   omega
 . rcases h.own b _ a with⟨y,c,hb⟩|j
   . cases y with
     |obj d=>exact .inl (.inl ⟨d,c⟩)
     |tail m=>exact .inl (.inr (.inl ⟨m,c,aaG hb e⟩))
     |part f=>exact hb.elim
   omega
 . rcases h.own b _ a with⟨y,c,hb⟩|j
   . cases y with
     |obj d=>exact .inl (.inl ⟨d,c⟩)
     |tail m=>exact hb.elim
     |part g=>exact .inl (.inr (.inr ⟨g,c,hb i e⟩))
   omega
def Sat.Bm{k:aj}{O:ak}{w:World}(h:Sat k O w){b:Nat}{o:Obj}(e:O b=some (.obj o)):b<w.heap.size:=by
 have:=h.obj b o e
 grind
def Sat.uy{k:aj}{O:ak}{w:World}(h:Sat k O w){b:Nat}{x:Own}(e:O b=some x):b<w.heap.size:=by
 cases x with
 |obj o=>exact h.Bm e
 | tail n=>
   obtain⟨c,t,a,_⟩:=h.tail b n e
   grind
 | part f=>
   obtain⟨c,t,a,_⟩:=h.part b f e
   grind
def Sat.qM{k:aj}{O:ak}{w:World}(h:Sat k O w){b i:Nat}{v:Value}(e:k.cell b i=some v):b<w.heap.size:=by
 have:=h.cell b i v e;unfold World.cell? at this
 grind
def Sat.KL{k:aj}{O:ak}{w:World}(h:Sat k O w){b:Nat}{s:TypeId × Nat}(e:k.sh b=some s):b<w.heap.size:=by
 have:=h.sh b s e;unfold World.shape? at this
 grind
def jm.weaken{k c:aj}{O a:ak}{n d:Nat}{e:Event}(h:jm c a d e)(p:∀b i,aV a b i->aV O b i\/n<=b)
 (q:n<=d) (j:∀b x,a b=some x->(∃y,O b=some y/\y.js x)\/n<=b)
 (s:∀b i v,c.cell b i=some v->k.cell b i=some v\/aV O b i\/n<=b):jm k O n e:=by
 unfold jm at h ⊢;split at h
 . grind
 . next r t=>
   rcases h with⟨o,h⟩|h
   . rcases j _ _ h with⟨y,l,g⟩|l
     . cases y with
       |obj u=>simp_all
       |tail m=>exact g.elim
       |part f=>exact g.elim
     omega
   omega
 . exact h
 . exact h
def Eff.refl(k:aj)(O:ak)(w:World):Eff k O w k O w []:=⟨.refl k,aaE _,λ_ _ _=>rfl,λ_ _ _ _ c _ h=>⟨c,h,rfl,λ_ _=>rfl⟩,λ_ _ _ _ c _ h=>⟨c,h,rfl,λ_ _=>rfl⟩,λ_ _=>rfl,λ_ _ h=>.inl ⟨_,h,.refl _⟩,λ_ _ _ h=>.inl h,λ_ _ h=>.inl h,by simp,rfl,rfl,rfl,by simp,λ_ f h=>⟨f,h⟩⟩
def Eff.trans{k k1 C:aj}{O q D:ak}{w w1 w2:World}{l1 l2:adz}(h:Eff k O w k1 q w1 l1)(h':Eff k1 q w1 C D w2 l2):
 Eff k O w C D w2 (l1++l2) where
 le:=h.le.trans h'.le
 size:=aaG h.size h'.size
 keep:=fun b hb p=>by
  have a:q b=none:=by
   cases e:q b with
   |none=>rfl
   | some x => rcases h.own b x e with⟨y,hy,_⟩|hy
               . simp_all
               . omega
  rw[h'.keep b (aaU hb h.size) a,h.keep b hb p]
 tail :=λb n hb p c e hc=>by
  obtain⟨c1,a,r,t⟩:=h.tail b n hb p c e hc;have j:=aaU hb h.size;cases e1:q b with
  |none=>exact⟨c1,by rw[h'.keep b j e1];exact a,r,t⟩
  | some x=>
    rcases h.own b x e1 with⟨y,hy,d⟩|hy
    . rw[p]at hy
      cases hy;cases x with
      |obj o=>exact d.elim
      |tail m=>obtain⟨c2,l,A,B⟩:=h'.tail b m j e1 c1 e a;exact⟨c2,l,A.trans r,λi u=>(B i (aaU u d)).trans (t i u)⟩
      |part f=>exact d.elim
    . omega
 part :=λb f hb p c e hc=>by
  obtain⟨c1,a,r,t⟩:=h.part b f hb p c e hc;have j:=aaU hb h.size;cases e1:q b with
  |none=>exact⟨c1,by rw[h'.keep b j e1];exact a,r,t⟩
  | some x=>
    rcases h.own b x e1 with⟨y,hy,d⟩|hy
    . rw[p]at hy
      cases hy;cases x with
      |obj o=>exact d.elim
      |tail m=>exact d.elim
      |part g=>obtain⟨c2,l,A,B⟩:=h'.part b g j e1 c1 e a;exact⟨c2,l,A.trans r,λi u=>(B i (abk λx=>d i x u)).trans (t i u)⟩
    . omega
 shape:=λb hb=>(h'.shape b (aaU hb h.size)).trans (h.shape b hb)
 own:=λb x hx=>by
  rcases h'.own b x hx with⟨y,a,E⟩|a
  . rcases h.own b y a with⟨z,l,F⟩|l
    . exact .inl ⟨z,l,F.trans E⟩
    omega
  . exact .inr (aaG h.size a)
 cell:=λb i v G=>by
  rcases h'.cell b i v G with a|a|a
  . exact h.cell b i v a
  . rcases h.Fg b i a with l|l
    . simp_all
    omega
  . exact .inr (.inr (aaG h.size a))
 sh:=λb s hs=>by
  rcases h'.sh b s hs with a|⟨y,a⟩|a
  . exact h.sh b s a
  . rcases h.own b y a with⟨z,l,_⟩|l
    . simp_all
    omega
  . exact .inr (.inr (aaG h.size a))
 evs:=λe he=>by
  rcases aaC.1 he with a|a
  . exact h.evs e a
  . exact(h'.evs e a).weaken h.Fg h.size h.own h.cell
 tape:=h'.tape.trans h.tape
 output:=h'.output.trans h.output
 os:=h'.os.trans h.os
 low:=λe he=>by
  rcases aaC.1 he with a|a
  . exact(h.low e a).mono h'.size
  . exact h'.low e a
 tok:=λb f hb=>by obtain⟨f1,a⟩:=h.tok b f hb;exact h'.tok b f1 a
section prim
variable{k:aj}{O:ak}{w:World}
def gh(a:Addr)(v:Value)(b:Nat):(w.setCell a v).shape? b=w.shape? b:=by
 unfold World.shape? World.setCell
 grind
def dG{a:Addr}{v:Value}{b i:Nat}(h:¬(b=a.block/\i=a.off)):(w.setCell a v).cell? ⟨b,i,none⟩=w.cell? ⟨b,i,none⟩:=by
 unfold World.cell? World.setCell
 grind
def zn{a:Addr}{v:Value}{c:adq}{e:TypeId}{sy:Bool}(h:Sat k O w)(A:a.spot=none)(m:O a.block=some (.obj (.cells c e (0,0)))):
 Sat k (O.set a.block (.obj (.cells (c.setIfInBounds a.off v) e (0,0)))) (w.setCell a v)/\
 Eff k O w k (O.set a.block (.obj (.cells (c.setIfInBounds a.off v) e (0,0)))) (w.setCell a v) [⟨.cell a,true,sy⟩]:=by
 have z:=h.obj _ _ m;have hb:=(zs.1 z).1;have B:(w.setCell a v).heap[a.block]?=some (.cells (c.setIfInBounds a.off v) e (0,0)):=by simp[World.setCell,abg,z,A]
 have l:∀b,b≠a.block->(w.setCell a v).heap[b]?=w.heap[b]?:=λb hb=>by simp[World.setCell,abg,za hb]
 have p:∀b i,aV (O.set a.block (.obj (.cells (c.setIfInBounds a.off v) e (0,0)))) b i->aV O b i:=λb i t=>by
  by_cases d:b=a.block
  . subst d;exact .inl ⟨_,m⟩
  . simpa[aV,ak.set,d]using t
 refine⟨⟨λb i u r t=>h.apart b i u r (p b i t),λb i u r=>?_,λb s C=>by rw[gh];exact h.sh b s C,λb o q=>?_,λb n g=>?_,λb f g=>?_⟩,?_⟩
 . rw[dG]
   . exact h.cell b i u r
   . rintro⟨rfl,rfl⟩
     exact h.apart _ _ _ r (.inl ⟨_,m⟩)
 . by_cases d:b=a.block
   . subst d
     simp only[ak.set,aaA,kn,Own.obj.injEq]at q
     simp_all
   . rw[l b d];exact h.obj b o (by simpa[ak.set,d]using q)
 . by_cases d:b=a.block
   . subst d;simp[ak.set]at g
   . rw[l b d];exact h.tail b n (by simpa[ak.set,d]using g)
 . by_cases d:b=a.block
   . subst d;simp[ak.set]at g
   . rw[l b d];exact h.part b f (by simpa[ak.set,d]using g)
 . refine⟨.refl k,by simp_all,λb _ H=>l b (λe=>by simp_all),λb n _ g D E y=>?_,λb n _ g D E y=>?_,λb _=>gh a v b,λb x F=>?_,λ_ _ _ h=>.inl h,λ_ _ h=>.inl h,?_,rfl,rfl,rfl,?_,λb f hb=>⟨f,by rw[show(O.set a.block _) b=O b from by simp only[ak.set];grind];exact hb⟩⟩
   . grind
   . grind
   . by_cases d:b=a.block
     . subst d;exact .inl ⟨_,m,trivial⟩
     . exact .inl ⟨x,by simpa[ak.set,d]using F,.refl x⟩
   . intro G j
     simp only[lb]at j;subst j;exact .inl (.inl ⟨_,m⟩)
   . intro G j
     simp only[lb]at j;subst j;simpa[jf,World.setCell]using hb
def xa{a:Addr}{v v0:Value}{f:Nat->adn}{sy:Bool}(h:Sat k O w)(J:a.spot=none)(A:O a.block=some (.part f))(K:f a.off=some v0):
 Sat k (O.set a.block (.part λi=>if i=a.off then some v else f i)) (w.setCell a v)/\
 Eff k O w k (O.set a.block (.part λi=>if i=a.off then some v else f i)) (w.setCell a v) [⟨.cell a,true,sy⟩]:=by
 obtain⟨c,e,E,F,r⟩:=h.part _ _ A;have L:a.off<c.size:=(zs.1 (r _ _ K)).1;have hb:=(zs.1 E).1;have M:(w.setCell a v).heap[a.block]?=some (.cells (c.setIfInBounds a.off v) e (0,0)):=by simp[World.setCell,abg,E,J]
 have l:∀b,b≠a.block->(w.setCell a v).heap[b]?=w.heap[b]?:=λb hb=>by simp[World.setCell,abg,za hb]
 have t:aV O a.block a.off:=.inr (.inr ⟨f,A,by grind⟩);have y:∀i,(if i=a.off then some v else f i)≠none->f i≠none:=λi G=>by grind
 have H:∀b,b≠a.block->(O.set a.block (.part λi=>if i=a.off then some v else f i)) b=O b:=λb d=>by simp[ak.set,d]
 have z:∀b i,aV (O.set a.block (.part λi=>if i=a.off then some v else f i)) b i->aV O b i:=λb i r=>by
  by_cases d:b=a.block
  . subst d
    rcases r with⟨o,q⟩|⟨m,q,_⟩|⟨g,q,N⟩
    . simp[ak.set]at q
    . simp[ak.set]at q
    . simp only[ak.set,aaA,kn,Own.part.injEq]at q
      subst q;exact .inr (.inr ⟨f,A,y i N⟩)
  . simpa[aV,ak.set,d]using r
 refine⟨⟨λb i u B r=>h.apart b i u B (z b i r),λb i u B=>?_,λb s F=>by rw[gh];exact h.sh b s F,λb o C=>?_,λb n p=>?_,λb g p=>?_⟩,?_⟩
 . rw[dG]
   . exact h.cell b i u B
   . rintro⟨rfl,rfl⟩
     exact h.apart _ _ _ B t
 . by_cases d:b=a.block
   . subst d;simp[ak.set]at C
   . rw[l b d];exact h.obj b o (by simp_all)
 . by_cases d:b=a.block
   . grind
   . rw[l b d];exact h.tail b n (by simp_all)
 . by_cases d:b=a.block
   . subst d
     simp only[ak.set,aaA,kn,Own.part.injEq]at p
     grind
   . rw[l b d];exact h.part b g (by simp_all)
 . refine⟨.refl k,by simp_all,λb _ S=>l b (λe=>by simp_all),λb n _ p P Q D=>?_,λb g _ p P Q D=>?_,λb _=>gh a v b,λb x I=>?_,λ_ _ _ h=>.inl h,λ_ _ h=>.inl h,?_,rfl,rfl,rfl,?_,λb g hb=>?_⟩
   . grind
   . grind
   . by_cases d:b=a.block
     . subst d
       simp only[ak.set,aaA,kn]at I;subst I;exact .inl ⟨_,A,λi G=>y i G⟩
     . exact .inl ⟨x,by simp_all,.refl x⟩
   . intro R j
     simp only[lb]at j;subst j;exact .inl t
   . intro R j
     simp only[lb]at j;subst j;simpa[jf,World.setCell]using hb
   . by_cases d:b=a.block
     . subst d;exact⟨λi=>if i=a.off then some v else f i,by simp only[ak.set,aaA]⟩
     simp_all
def xc{a:Addr}{v:Value}{e:TypeId}{N:Nat}{sy:Bool}(h:Sat k O w)(H:a.spot=none)(t:O a.block=some (.tail a.off))(B:k.sh a.block=some (e,N))(I:a.off<N):
 Sat (k.put a.block a.off v) (O.set a.block (.tail (a.off+1))) (w.setCell a v)/\
 Eff k O w (k.put a.block a.off v) (O.set a.block (.tail (a.off+1))) (w.setCell a v) [⟨.cell a,true,sy⟩]:=by
 obtain⟨c,F,G,r⟩:=h.tail _ _ t;rw[B]at r;simp only[kn,zH]at r;obtain⟨rfl,rfl⟩:=r;have hb:=(zs.1 G).1;have y:(w.setCell a v).heap[a.block]?=some (.cells (c.setIfInBounds a.off v) e (0,0)):=by simp[World.setCell,abg,G,H]
 have p:∀b,b≠a.block->(w.setCell a v).heap[b]?=w.heap[b]?:=λb hb=>by simp[World.setCell,abg,za hb]
 have z:∀b i,aV (O.set a.block (.tail (a.off+1))) b i->aV O b i/\¬(b=a.block/\i=a.off):=λb i l=>by
  by_cases d:b=a.block
  . subst d
    rcases l with⟨o,l⟩|⟨n,l,J⟩|⟨f,l,_⟩
    . simp[ak.set]at l
    . simp only[ak.set,aaA,kn,Own.tail.injEq]at l
      subst l;exact⟨.inr (.inl ⟨_,t,by omega⟩),λx=>by omega⟩
    . simp[ak.set]at l
  . exact⟨by simpa[aV,ak.set,d]using l,λx=>d x.1⟩
 have C:k.cell a.block a.off=none:=by
  cases e:k.cell a.block a.off with
  |none=>rfl
  |some u=>exact(h.apart _ _ _ e (.inr (.inl ⟨_,t,aaE _⟩))).elim
 refine⟨⟨λb i u q l=>?_,λb i u q=>?_,λb s B=>by rw[gh];exact h.sh b s B,λb o A=>?_,λb n g=>?_,λb f g=>?_⟩,?_⟩
 . obtain⟨K,L⟩:=z b i l
   refine h.apart b i u ?_ K;simpa[aj.put,L]using q
 . by_cases j:b=a.block/\i=a.off
   . obtain⟨rfl,rfl⟩:=j
     simp only[aj.put,and_self,aaA,kn]at q;subst q;simp[World.cell?,y,I]
   . rw[dG j]
     exact h.cell b i u (by simpa[aj.put,j]using q)
 . by_cases d:b=a.block
   . subst d;simp[ak.set]at A
   . rw[p b d];exact h.obj b o (by simpa[ak.set,d]using A)
 . by_cases d:b=a.block
   . subst d
     exact⟨_,_,y,by simpa[aj.put]using B⟩
   . rw[p b d];exact h.tail b n (by simpa[ak.set,d]using g)
 . by_cases d:b=a.block
   . subst d;simp[ak.set]at g
   . rw[p b d];exact h.part b f (by simpa[ak.set,d]using g)
 . refine⟨⟨λb i u q=>?_,λ_ _ h=>h⟩,by simp_all,λb _ J=>p b (λe=>by simp_all),λb n _ g M F D=>?_,λb n _ g M F D=>(by
    grind),λb _=>gh a v b,λb x E=>?_,λb i u q=>?_,λ_ _ h=>.inl h,?_,rfl,rfl,rfl,?_,λb f hb=>⟨f,by rw[show(O.set a.block _) b=O b from by simp only[ak.set];grind];exact hb⟩⟩
   . simp only[aj.put]
     grind
   . grind
   . by_cases d:b=a.block
     . subst d
       simp only[ak.set,aaA,kn]at E;subst E;exact .inl ⟨_,t,by simp[Own.js]⟩
     . exact .inl ⟨x,by simpa[ak.set,d]using E,.refl x⟩
   . by_cases j:b=a.block/\i=a.off
     . obtain⟨rfl,rfl⟩:=j
       exact .inr (.inl (.inr (.inl ⟨_,t,aaE _⟩)))
     . exact .inl (by simpa[aj.put,j]using q)
   . intro P m
     simp only[lb]at m;subst m;exact .inl (.inr (.inl ⟨_,t,aaE _⟩))
   . intro P m
     simp only[lb]at m;subst m;simpa[jf,World.setCell]using hb
def aj.made(k:aj)(r:Nat):Obj->aj
 |.cells c e _=>k.eH r (e,c.size)
 |_=>k
def Hd(k:aj)(O:ak)(r:Nat):Prop:=O r=none/\(∀i,k.cell r i=none)/\k.sh r=none
def xd(h:Sat k O w):Hd k O w.heap.size:=by
 refine⟨?_,λi=>?_,?_⟩
 . cases e:O w.heap.size with
   |none=>rfl
   |some x=>have:=h.uy e;omega
 . cases e:k.cell w.heap.size i with
   |none=>rfl
   |some x=>have:=h.qM e;omega
 . cases e:k.sh w.heap.size with
   |none=>rfl
   |some x=>have:=h.KL e;omega
def O4{o:Obj}(h:Sat k O w)(z:∀c e fz,o=.cells c e fz->fz=(0,0)):
 Sat (k.made w.heap.size o) (O.set w.heap.size (.obj o)) {w with heap:=w.heap.push o}/\
 Eff k O w (k.made w.heap.size o) (O.set w.heap.size (.obj o)) {w with heap:=w.heap.push o} []:=by
 obtain⟨f1,F,A⟩:=xd h
 have hold:∀b,b<w.heap.size->(w.heap.push o)[b]?=w.heap[b]?:=λb hb=>by grind
 have p:(w.heap.push o)[w.heap.size]?=some o:=by simp
 have a:∀b,b<w.heap.size->World.shape? {w with heap:=w.heap.push o} b=w.shape? b:=λb hb=>by simp only[World.shape?,hold b hb]
 have g:(k.made w.heap.size o).cell=k.cell:=by cases o<;>rfl
 refine⟨⟨λb i u l t=>?_,λb i u l=>?_,λb s m=>?_,λb y q=>?_,λb n j=>?_,λb f j=>?_⟩,?_⟩
 . rw[g]at l
   have hb:=h.qM l;have v:b≠w.heap.size:=by omega
   exact h.apart b i u l (by simpa[aV,ak.set,v]using t)
 . rw[g]at l
   have hb:=h.qM l;have:=h.cell b i u l;simpa only[World.cell?,hold b hb]using this
 . by_cases hb:b=w.heap.size
   . subst hb
     cases o with
     |cells c e fz=>simp only[aj.made,aj.eH,aaA,kn]at m;subst m;simp only[World.shape?,p]
     |_=>simp only[aj.made,A]at m;cases m
   . have r:k.sh b=some s:=by
      cases o<;>simp_all [aj.made,aj.eH]
     rw[a b (h.KL r)];exact h.sh b s r
 . by_cases hb:b=w.heap.size
   . subst hb
     simp only[ak.set,aaA,kn,Own.obj.injEq]at q
     grind
   . have d:O b=some (.obj y):=by simpa[ak.set,hb]using q
     rw[hold b (h.Bm d)];exact h.obj b y d
 . by_cases hb:b=w.heap.size
   . subst hb;simp[ak.set]at j
   . have d:O b=some (.tail n):=by simpa[ak.set,hb]using j
     obtain⟨c,e,B,C⟩:=h.tail b n d;refine⟨c,e,by grind,?_⟩
     cases o<;>simp_all [aj.made,aj.eH]
 . by_cases hb:b=w.heap.size
   . subst hb;simp[ak.set]at j
   . have d:O b=some (.part f):=by simpa[ak.set,hb]using j
     obtain⟨c,e,B,C,D⟩:=h.part b f d;refine⟨c,e,by grind,?_,D⟩
     cases o<;>simp_all [aj.made,aj.eH]
 . refine⟨⟨λb i u l=>by grind,λb s m=>?_⟩,by simp,λb hb _=>hold b hb,λb n hb _ c e t=>⟨c,by grind,rfl,λ_ _=>rfl⟩,λb n hb _ c e t=>⟨c,by grind,rfl,λ_ _=>rfl⟩,a,λb x E=>?_,λb i u l=>.inl (by grind),λb s m=>?_,by simp,rfl,rfl,rfl,by simp,λb f hb=>⟨f,by rw[show(O.set w.heap.size (.obj o)) b=O b from by simp only[ak.set];grind];exact hb⟩⟩
   . have hb:b≠w.heap.size:=λe=>by grind
     cases o<;>simp_all [aj.made,aj.eH]
   . by_cases hb:b=w.heap.size
     . omega
     . exact .inl ⟨x,by simpa[ak.set,hb]using E,.refl x⟩
   . by_cases hb:b=w.heap.size
     . omega
     . refine .inl ?_
       cases o<;>simp_all [aj.made,aj.eH]
def Fh{r:Nat}{o o':Obj}(h:Sat k O w)(l:O r=some (.obj o))(J:iT o=false)(K:iT o'=false):
 Sat k (O.set r (.obj o')) {w with heap:=w.heap.setIfInBounds r o'}/\
 Eff k O w k (O.set r (.obj o')) {w with heap:=w.heap.setIfInBounds r o'} [⟨.obj r,true,o'.isChan⟩]:=by
 have A:=h.obj _ _ l;have B:=(zs.1 A).1;have v:(w.heap.setIfInBounds r o')[r]?=some o':=by simp[B]
 have j:∀b,b≠r->(w.heap.setIfInBounds r o')[b]?=w.heap[b]?:=λb hb=>by grind
 have m:∀b,World.shape? {w with heap:=w.heap.setIfInBounds r o'} b=w.shape? b:=λb=>by
  by_cases hb:b=r
  . subst hb
    simp only[World.shape?,v,A];cases o<;>cases o'<;>simp_all [iT]
  . simp only[World.shape?,j b hb]
 have p:∀b i,aV (O.set r (.obj o')) b i->aV O b i:=λb i y=>by
  by_cases a:b=r
  . subst a;exact .inl ⟨_,l⟩
  . simpa[aV,ak.set,a]using y
 refine⟨⟨λb i u t y=>h.apart b i u t (p b i y),λb i u t=>?_,λb s C=>by rw[m];exact h.sh b s C,λb x q=>?_,λb n d=>?_,λb f d=>?_⟩,?_⟩
 . have hb:b≠r:=λe=>by subst e;exact h.apart _ _ _ t (.inl ⟨_,l⟩)
   have:=h.cell b i u t;simpa only[World.cell?,j b hb]using this
 . by_cases a:b=r
   . subst a
     simp only[ak.set,aaA,kn,Own.obj.injEq]at q
     simp_all
   . show(w.heap.setIfInBounds r o')[b]?=_
     rw[j b a];exact h.obj b x (by simpa[ak.set,a]using q)
 . by_cases a:b=r
   . subst a;simp[ak.set]at d
   . obtain⟨c,e,D,E⟩:=h.tail b n (by simpa[ak.set,a]using d)
     grind
 . by_cases a:b=r
   . subst a;simp[ak.set]at d
   . obtain⟨c,e,D,E⟩:=h.part b f (by simpa[ak.set,a]using d)
     grind
 . refine⟨.refl k,by simp,λb _ L=>j b (λe=>by simp_all),λb n _ d F G z=>?_,λb n _ d F G z=>?_,λb _=>m b,λb x H=>?_,λ_ _ _ h=>.inl h,λ_ _ h=>.inl h,?_,rfl,rfl,rfl,?_,λb f hb=>⟨f,by rw[show(O.set r _) b=O b from by simp only[ak.set];grind];exact hb⟩⟩
   . grind
   . grind
   . by_cases a:b=r
     . subst a;exact .inl ⟨_,l,trivial⟩
     . exact .inl ⟨x,by simpa[ak.set,a]using H,.refl x⟩
   . intro I g
     simp only[lb]at g;subst g;exact .inl ⟨_,l⟩
   . intro I g
     simp only[lb]at g;subst g;simpa[jf]using B
def KM{n:Nat}(h:Sat k O w):Sat k O {w with drawn:=n}/\Eff k O w k O {w with drawn:=n} []:=⟨⟨h.apart,h.cell,h.sh,h.obj,h.tail,h.part⟩,⟨.refl k,aaE _,λ_ _ _=>rfl,λ_ _ _ _ c _ h=>⟨c,h,rfl,λ_ _=>rfl⟩,λ_ _ _ _ c _ h=>⟨c,h,rfl,λ_ _=>rfl⟩,λ_ _=>rfl,λ_ _ h=>.inl ⟨_,h,.refl _⟩,λ_ _ _ h=>.inl h,λ_ _ h=>.inl h,by simp,rfl,rfl,rfl,by simp,λ_ f h=>⟨f,h⟩⟩⟩
def xe{l:adz}(a:∀e∈l,jm k O w.heap.size e)(b:∀e∈l,jf w.heap.size e):Eff k O w k O w l:=⟨.refl k,aaE _,λ_ _ _=>rfl,λ_ _ _ _ c _ h=>⟨c,h,rfl,λ_ _=>rfl⟩,λ_ _ _ _ c _ h=>⟨c,h,rfl,λ_ _=>rfl⟩,λ_ _=>rfl,λ_ _ h=>.inl ⟨_,h,.refl _⟩,λ_ _ _ h=>.inl h,λ_ _ h=>.inl h,a,rfl,rfl,rfl,b,λ_ f h=>⟨f,h⟩⟩
end prim
def Reads(k:aj)(O:ak)(a:Addr)(v:Value):Prop:=a.spot=none/\(k.cell a.block a.off=some v\/∃c e fz,O a.block=some (.obj (.cells c e fz))/\c[a.off]?=some v)
def He(k:aj)(O:ak)(r:Nat)(s:Option (TypeId × Nat)):Prop:=(∃x,s=some x/\k.sh r=some x)\/(∃c e fz,O r=some (.obj (.cells c e fz))/\s=some (e,c.size))\/(∃o,O r=some (.obj o)/\iT o=false/\s=none)
def flat:Value->Bool
 |.agg _=>false
 |.tuple _=>false
 |_=>true
def KN:Mode->Bool
 |.plain=>true
 |.atomic=>true
def QJ:Obj->Bool
 |.cells _ _ fz=>fz==(0,0)
 |_=>true
def dK(P:adS){α:Type}:Sem α->aj->ak->(α->aj->ak->Prop)->(Value->aj->ak->Prop)->Prop
 |.pure a,k,O,K,_=>K a k O
 |.load m a f,k,O,K,b=>KN m=true/\∃v,Reads k O a v/\dK P (f v) k O K b
 | .store m a v f,k,O,K,b=>KN m=true/\flat v=true/\a.spot=none/\
    ((∃c e,O a.block=some (.obj (.cells c e (0,0)))/\a.off<c.size/\dK P f k (O.set a.block (.obj (.cells (c.setIfInBounds a.off v) e (0,0)))) K b)\/
     (∃e N,O a.block=some (.tail a.off)/\k.sh a.block=some (e,N)/\a.off<N/\(k.cell a.block a.off=none->dK P f (k.put a.block a.off v) (O.set a.block (.tail (a.off+1))) K b))\/
     (∃d h,O a.block=some (.part d)/\d a.off=some h/\dK P f k (O.set a.block (.part λi=>if i=a.off then some v else d i)) K b))
 |.new o f,k,O,K,b=>QJ o=true/\∀r,Hd k O r->dK P (f r) (k.made r o) (O.set r (.obj o)) K b
 |.shape r f,k,O,K,b=>∃s,He k O r s/\dK P (f s) k O K b
 |.freeze _ _ _,_,_,_,_=>False
 |.frozen a f,k,O,K,b=>((∃c e,O a.block=some (.obj (.cells c e (0,0))))\/∃n,O a.block=some (.tail n))/\dK P (f false) k O K b
 |.getObj r f,k,O,K,b=>∃o,O r=some (.obj o)/\iT o=false/\dK P (f o) k O K b
 |.setObj r o f,k,O,K,b=>(∃g,O r=some (.obj g)/\iT g=false)/\iT o=false/\dK P f k (O.set r (.obj o)) K b
 |.choose q f,k,O,K,b=>∀t,dK P (f (if q.forced then 0 else q.cut t)) k O K b
 |.sys _ _,_,_,_,_=>False
 |.program f,k,O,K,b=>dK P (f P) k O K b
 |.mark m f,k,O,K,b=>nk m=true/\dK P f k O K b
 |.halt (.panic v),k,O,_,b=>b v k O
 |.halt _,_,_,_,_=>False
def Fi{k:aj}{O:ak}{w:World}{a:Addr}{v:Value}(h:Sat k O w)(d:Reads k O a v):w.cell? a=some v:=by
 obtain⟨f,d⟩:=d;obtain⟨b,i,s⟩:=a;simp only at f d;subst f;rcases d with d|⟨c,e,fz,g,j⟩
 . exact h.cell _ _ _ d
 . have:=h.obj _ _ g
   simp[World.cell?,this,j]
def zo{k:aj}{O:ak}{w:World}{r:Nat}{s:Option (TypeId × Nat)}(h:Sat k O w)(b:He k O r s):w.shape? r=s:=by
 rcases b with⟨x,rfl,d⟩|⟨c,e,fz,a,rfl⟩|⟨o,a,f,rfl⟩
 . exact h.sh _ _ d
 . simp[World.shape?,h.obj _ _ a]
 . rw[World.shape?,h.obj _ _ a]
   cases o<;>simp_all [iT]
def Comes{α:Type}(K:α->aj->ak->Prop)(Kp:Value->aj->ak->Prop)(k':aj)(O':ak)(w':World)(r:Result α):Prop:=(∃a,r=.ok a w'/\K a k' O')\/(∃v,r=.halt (.panic v) w'/\Kp v k' O')
def uz{P:adS}{α:Type}{K:α->aj->ak->Prop}{Kp:Value->aj->ak->Prop}(s:Sem α):∀{k:aj}{O:ak}{w:World} (es:ads),
 dK P s k O K Kp->Sat k O w->∃k' O' w' l,Eff k O w k' O' w' l/\Sat k' O' w'/\(s.runT P w es).2.toList=es.toList++l/\Comes K Kp k' O' w' (s.runT P w es).1:=by
 induction s with
 |pure a=>intro k O w es h b;exact⟨k,O,w,[],.refl ..,b,by simp_all,.inl ⟨a,rfl,h⟩⟩
 | load m a f j=>
   intro k O w es h b;obtain⟨_,v,z,h⟩:=h;have F:=Fi b z;obtain⟨k',O',w',l,g,i,y,p⟩:=j v (es.push ⟨.cell a,false,m==.atomic⟩) h b;refine⟨k',O',w',⟨.cell a,false,m==.atomic⟩::l,?_,i,?_,?_⟩
   . refine Eff.trans (xe ?_ ?_) g (l1:=[_])
     . intro e t
       simp only[lb]at t;subst t;rcases z.2 with z|⟨c,e,fz,d,_⟩
       . exact .inr (.inr ⟨rfl,v,z⟩)
       . exact .inl (.inl ⟨_,d⟩)
     . intro e t
       simp only[lb]at t;subst t;rcases z.2 with z|⟨c,e,fz,d,_⟩
       . exact b.qM z
       . exact b.Bm d
   . simp only[Sem.runT,F];grind
   . simp only[Sem.runT,F];exact p
 | store m a v f j=>
   intro k O w es h b;obtain⟨_,R,G,h⟩:=h
   have B:∀c e,w.heap[a.block]?=some (.cells c e (0,0))->a.off<c.size ->
    (Sem.store m a v f).runT P w es=f.runT P (w.setCell a v) (es.push ⟨.cell a,true,m==.atomic⟩):=by
    intro c e A C;have F:w.cell? a=some c[a.off]:=by simp[World.cell?,A,G,C]
    have Q:w.frozen? a=false:=by simp[World.frozen?,A]
    cases v<;>first|exact Bool.noConfusion R|(rw[Sem.runT,F]<;>first|(simp only[Q];rfl)|(intro _ S;cases S))
   rcases h with⟨c,e,d,C,h⟩|⟨e,N,d,H,C,h⟩|⟨U,V,d,Q,h⟩
   . obtain⟨D,E⟩:=zn (v:=v) (sy:=m==.atomic) b G d
     obtain⟨k',O',w',l,g,i,y,p⟩:=j (es.push ⟨.cell a,true,m==.atomic⟩) h D;have z:=B c e (b.obj _ _ d) C;exact⟨k',O',w',_::l,Eff.trans E g,i,by simp_all,by simp_all⟩
   . have h:=h (by
      cases e:k.cell a.block a.off with
      |none=>rfl
      |some u=>exact(b.apart _ _ _ e (.inr (.inl ⟨_,d,aaE _⟩))).elim)
     obtain⟨D,E⟩:=xc (v:=v) (sy:=m==.atomic) b G d H C;obtain⟨k',O',w',l,g,i,y,p⟩:=j (es.push ⟨.cell a,true,m==.atomic⟩) h D;obtain⟨c,T,A,J⟩:=b.tail _ _ d;rw[H]at J;simp only[kn,zH]at J;have z:=B c T A (by omega);exact⟨k',O',w',_::l,Eff.trans E g,i,by simp_all,by simp_all⟩
   . obtain⟨D,E⟩:=xa (v:=v) (sy:=m==.atomic) b G d Q
     obtain⟨k',O',w',l,g,i,y,p⟩:=j (es.push ⟨.cell a,true,m==.atomic⟩) h D;obtain⟨c,e,A,_,F⟩:=b.part _ _ d;have z:=B c e A (zs.1 (F _ _ Q)).1;exact⟨k',O',w',_::l,Eff.trans E g,i,by simp_all,by simp_all⟩
 | new o f j=>
   intro k O w es h b;obtain⟨L,h⟩:=h;have h:=h w.heap.size (xd b);obtain⟨D,E⟩:=O4 (o:=o) b (λ_ _ _ t=>by subst t;simpa[QJ]using L);obtain⟨k',O',w',l,g,i,y,p⟩:=j w.heap.size es h D;exact⟨k',O',w',l,Eff.trans E g,i,by simp only[Sem.runT];exact y,by simp only[Sem.runT];exact p⟩
 |shape r f j=>intro k O w es h b;obtain⟨s,H,h⟩:=h;have:=zo b H;obtain⟨k',O',w',l,g,i,y,p⟩:=j s es h b;exact⟨k',O',w',l,g,i,by simp only[Sem.runT,this];exact y,by simp only[Sem.runT,this];exact p⟩
 |freeze a n f j=>intro k O w es h b;exact h.elim
 | frozen a f j=>
   intro k O w es h b;obtain⟨d,h⟩:=h
   have:w.frozen? a=false:=by
    rcases d with⟨c,e,d⟩|⟨n,d⟩
    . simp[World.frozen?,b.obj _ _ d]
    . obtain⟨c,e,A,_⟩:=b.tail _ _ d
      simp[World.frozen?,A]
   obtain⟨k',O',w',l,g,i,y,p⟩:=j false es h b;exact⟨k',O',w',l,g,i,by simp only[Sem.runT,this];exact y,by simp only[Sem.runT,this];exact p⟩
 | getObj r f j=>
   intro k O w es h b;obtain⟨o,d,F,h⟩:=h;have A:=b.obj _ _ d;obtain⟨k',O',w',l,g,i,y,p⟩:=j o (es.push ⟨.obj r,false,o.isChan⟩) h b;have z:(Sem.getObj r f).runT P w es=(f o).runT P w (es.push ⟨.obj r,false,o.isChan⟩):=by rw[Sem.runT,A];cases o<;>first|rfl|cases F
   refine⟨k',O',w',⟨.obj r,false,o.isChan⟩::l,Eff.trans (xe ?_ ?_) g (l1:=[_]),i,by simp_all,by simp_all⟩
   . intro e t
     simp only[lb]at t;subst t;exact .inl ⟨_,d⟩
   . intro e t
     simp only[lb]at t;subst t;exact b.Bm d
 | setObj r o f j=>
   intro k O w es h b;obtain⟨⟨o',d,M⟩,F,h⟩:=h;have A:=b.obj _ _ d;obtain⟨D,E⟩:=Fh (o':=o) b d M F;obtain⟨k',O',w',l,g,i,y,p⟩:=j (es.push ⟨.obj r,true,o.isChan⟩) h D;have z:(Sem.setObj r o f).runT P w es=f.runT P {w with heap:=w.heap.setIfInBounds r o} (es.push ⟨.obj r,true,o.isChan⟩):=by rw[Sem.runT,A];cases o'<;>first|rfl|cases M
   exact⟨k',O',w',_::l,Eff.trans E g,i,by simp_all,by simp_all⟩
 | choose q f j=>
   intro k O w es h b;have h:=h (w.tape w.drawn q);by_cases I:q.forced=true
   . simp only[I,aaA]at h
     obtain⟨k',O',w',l,g,i,y,p⟩:=j 0 es h b;exact⟨k',O',w',l,g,i,by simp only[Sem.runT,I,aaA];exact y,by simp only[Sem.runT,I,aaA];exact p⟩
   . simp only[I]at h
     obtain⟨D,E⟩:=KM (n:=w.drawn+1) b;obtain⟨k',O',w',l,g,i,y,p⟩:=j _ es h D;refine⟨k',O',w',l,Eff.trans E g,i,?_,?_⟩
     . simp only[Sem.runT,I];exact y
     . simp only[Sem.runT,I];exact p
 |sys c f j=>intro k O w es h b;exact h.elim
 |program f j=>intro k O w es h b;obtain⟨k',O',w',l,g,i,y,p⟩:=j P es h b;exact⟨k',O',w',l,g,i,by simp only[Sem.runT];exact y,by simp only[Sem.runT];exact p⟩
 | mark m f j=>
   intro k O w es h b;obtain⟨W,h⟩:=h;obtain⟨k',O',w',l,g,i,y,p⟩:=j (es.push ⟨.mark m,false,true⟩) h b;refine⟨k',O',w',⟨.mark m,false,true⟩::l,Eff.trans (xe ?_ ?_) g (l1:=[_]),i,by simp only[Sem.runT];grind,by simp only[Sem.runT];exact p⟩
   . intro e t
     simp only[lb]at t;subst t;show j9 m=true;cases m<;>simp_all [nk,j9]
   . intro e t
     simp only[lb]at t;subst t;cases m<;>simp_all [nk,jf]
 | halt x=>
   intro k O w es h b;cases x with
   |panic v=>exact⟨k,O,w,[],.refl ..,b,by simp_all,.inr ⟨v,rfl,h⟩⟩
   |_=>exact h.elim
def KO{P:adS}{α β:Type}{f:α->Sem β}{K:β->aj->ak->Prop}{Kp:Value->aj->ak->Prop}(s:Sem α):∀{k:aj}{O:ak},
 dK P s k O (λa k O=>dK P (f a) k O K Kp) Kp->dK P (s.bind f) k O K Kp:=by
 induction s with
 |pure a=>intro k O h;exact h
 |load m a g b=>intro k O h;obtain⟨d,v,e,i⟩:=h;exact⟨d,v,e,b v i⟩
 | store m a v g b=>
   intro k O h;obtain⟨d,e,i,l⟩:=h;refine⟨d,e,i,?_⟩
   grind
 |new o g b=>intro k O h;exact⟨h.1,λr j=>b r (h.2 r j)⟩
 |shape r g b=>intro k O h;obtain⟨s,d,e⟩:=h;exact⟨s,d,b s e⟩
 |freeze a n g b=>intro k O h;exact h.elim
 |frozen a g b=>intro k O h;exact⟨h.1,b false h.2⟩
 |getObj r g b=>intro k O h;obtain⟨o,d,e,i⟩:=h;exact⟨o,d,e,b o i⟩
 |setObj r o g b=>intro k O h;exact⟨h.1,h.2.1,b h.2.2⟩
 |choose q g b=>intro k O h t;exact b _ (h t)
 |sys c g b=>intro k O h;exact h.elim
 |program g b=>intro k O h;exact b P h
 |mark m g b=>intro k O h;exact⟨h.1,b h.2⟩
 |halt x=>intro k O h;cases x<;>exact h
