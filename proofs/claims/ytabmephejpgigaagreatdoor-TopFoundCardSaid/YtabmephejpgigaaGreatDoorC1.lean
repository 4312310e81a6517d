import Derived.Conc.LeavingOf
set_option linter.all false
namespace Go.cr
def kn:=@Option.some.injEq
def lb:=@List.mem_singleton
def za:=@Bool.and_eq_true
def zj:=@Ne.symm
def zs:=@Array.getElem?_eq_some_iff
def zA:=@List.getD_eq_getElem?_getD
def zD:=@List.getElem_mem
def zG:=@Prod.mk.injEq
def zR:=@List.getElem?_eq_getElem
def zU:=@Array.getElem?_setIfInBounds_self_of_lt
def KD:=@decide_eq_true_eq
def LK:=@Bool.false_eq_true
def Rp:=@if_false
def Yz:=@List.take_succ_eq_append_getElem
def YA:=@if_neg
def YB:=@List.mem_range
def YC:=@Array.getElem?_setIfInBounds_ne
def YD:=@if_true
def YE:=@List.all_eq_true
def YF:=@Nat.le_refl
def YG:=@if_pos
def YH:=@List.mem_append
def YI:=@Option.map_eq_some_iff
def YJ:=@List.getElem?_eq_some_iff
def YK:=@Array.all_eq_true_iff_forall_mem
def YL:=@List.length_append
def YM:=@Array.getElem?_eq_getElem
def YN:=@List.mem_map
def YO:=@Nat.le_trans
def YP:=@Iff.rfl
def YQ:=@List.mem_cons
def YR:=@List.getElem?_append_right
def YS:=@List.map_append
def YT:=@List.range_succ
def YU:=@Nat.lt_of_lt_of_le
def YV:=@List.length_map
def YW:=@Option.map_some
def YX:=@Option.some.inj
def YY:=@List.getElem?_map
def YZ:=@List.take_length
def Za:=@List.mem_iff_getElem
def Zb:=@Nat.lt_or_ge
def Zc:=@List.any_eq_true
def Zd:=@List.pairwise_cons
def Ze:=@Array.mem_of_getElem?
def Zf:=@List.length_filter_le
def Zg:=@List.drop_eq_getElem_cons
def Zh:=@List.length_cons
def Zi:=@Array.getElem?_modify
def Zj:=@List.mem_filter
def Zk:=@decide_eq_false_iff_not
def Zl:=@List.all_cons
def Zm:=@Classical.byContradiction
def Zn:=@List.getElem?_append_left
def Zo:=@List.append_nil
def Zp:=@Array.size_setIfInBounds
def Zq:=@List.foldl_append
def Zr:=@List.foldl_cons
def Zs:=@Nat.le_add_right
def Zt:=@Option.getD_some
def Zu:=@List.getElem?_eq_none
def Zv:=@List.getElem?_set_ne
def Zw:=@Nat.mul_le_mul_right
def Zx:=@List.getElem?_set_self
def Zy:=@List.length_singleton
def Zz:=@List.mem_cons_of_mem
def ZA:=@List.append_assoc
def ZB:=@List.take_of_length_le
def ZC:=@Nat.testBit_two_pow_mul_add
def ZD:=@List.length_take
def ZE:=@Array.getElem?_map
def ZF:=@List.filter_append
def ZG:=@List.length_nil
def ZH:=@List.nodup_cons
def ZI:=@List.length_range
def ZJ:=@beq_iff_eq
def ZK:=@List.not_mem_nil
def ZL:=@Array.getElem?_append_right
def ZM:=@List.any_eq_false
def ZN:=@List.filter_congr
def ZO:=@of_decide_eq_true
def ZP:=@Nat.zero_add
def ZQ:=@List.exists_mem_of_ne_nil
def ZR:=@List.mem_or_eq_of_mem_set
def ZS:=@List.map_congr_left
def ZT:=@List.length_set
def ZU:=@Bool.true_eq_false
def ZV:=@List.ne_nil_of_mem
def ZW:=@decide_eq_true_iff
def ZX:=@List.getElem?_cons_zero
def ZY:=@Option.bind_eq_some_iff
def ZZ:=@Bool.not_eq_true'
def aaa:=@Int.toNat_natCast
def aab:=@List.map_map
def aac:=@List.getElem?_toArray
def aad:=@List.drop_length
def aae:=@List.mem_flatMap
def aaf:=@Bool.or_eq_false_iff
def aag:=@Bool.or_eq_true
def aah:=@List.forIn_cons
def aai:=@List.nil_append
def aaj:=@List.flatMap_append
def aak:=@Array.getD_eq_getD_getElem?
def aal:=@List.map_set
def aam:=@Array.ext_getElem?
def aan:=@Array.getElem?_append_left
def aao:=@List.forIn_nil
def aap:=@List.forIn_toArray
def aaq:=@List.mem_cons_self
def aar:=@List.nodup_nil
def aas:=@Int.le_refl
def aat:=@List.flatMap_cons
def aau:=@List.nodup_append
def aav:=@Nat.add_mul
def aaw:=@List.map_cons
def aax:=@List.getElem?_cons_succ
def aay:=@List.perm_middle
def aaz:=@List.take_append
def aaA:=@Int.add_zero
def aaB:=@List.filter_eq_nil_iff
def aaC:=@Bool.eq_iff_iff
def aaD:=@List.range_zero
def aaE:=@Array.getElem?_toList
def aaF:=@List.singleton_append
abbrev aaI:=Option (Nat × Nat)
abbrev aaJ:=Array Goroutine
abbrev aaK:=List (List Int)
abbrev aaR:=Option Value
abbrev aaS:=Array Value
abbrev aaT:=World->Prop
abbrev aaU:=Array Event
abbrev aaW:=Array Oper
abbrev aaX:=Option Nat
abbrev aaY:=List Frame
abbrev aaZ:=Option Tmp
abbrev aba:=Nat->Prop
abbrev abb:=List Item
abbrev abd:=Goroutine
abbrev abe:=List Int
abbrev abf:=List Nat
abbrev abg:=Nat->Nat
abbrev abi:=CallKind
abbrev abm:=Program
abbrev abn:=Operand
structure ao where
 cell:Nat->Nat->aaR
 sh:Nat->Option (TypeId × Nat)
inductive Own where
 |obj (o:Obj)
 |tail (n:Nat)
 |part (f:Nat->aaR)
abbrev ai:=Nat->Option Own
def Own.iS:Own->Own->Prop
 |.obj _,_=>True
 |.tail n,.tail m=>n<=m
 |.part f,.part g=>∀i,g i≠none->f i≠none
 |_,_=>False
def Own.iS.refl(x:Own):x.iS x:=by cases x<;>simp[Own.iS]
def Own.iS.trans{x y z:Own}(h:x.iS y)(a:y.iS z):x.iS z:=by cases x<;>cases y<;>cases z<;>simp_all [Own.iS]<;>omega
def ai.set(O:ai)(b:Nat)(x:Own):ai:=λc=>if c=b then some x else O c
def ao.dX(k:ao)(b:Nat)(s:TypeId × Nat):ao:={k with sh:=λc=>if c=b then some s else k.sh c}
def ao.put(k:ao)(b i:Nat)(v:Value):ao:={k with cell:=λc j=>if c=b/\j=i then some v else k.cell c j}
structure ao.Le(k k':ao):Prop where
 cell:∀b i v,k.cell b i=some v->k'.cell b i=some v
 sh:∀b s,k.sh b=some s->k'.sh b=some s
def ao.Le.refl(k:ao):k.Le k:=⟨λ_ _ _ h=>h,λ_ _ h=>h⟩
def ao.Le.trans{a b c:ao}(h:a.Le b)(d:b.Le c):a.Le c:=⟨λ_ _ _ x=>d.cell _ _ _ (h.cell _ _ _ x),λ_ _ x=>d.sh _ _ (h.sh _ _ x)⟩
def aR(O:ai)(b i:Nat):Prop:=(∃o,O b=some (.obj o))\/(∃n,O b=some (.tail n)/\n<=i)\/∃f,O b=some (.part f)/\f i≠none
def Apart(k:ao)(O:ai):Prop:=∀b i v,k.cell b i=some v -> ¬aR O b i
structure Sat(k:ao)(O:ai)(w:World):Prop where
 apart:Apart k O
 cell:∀b i v,k.cell b i=some v->w.cell? ⟨b,i,none⟩=some v
 sh:∀b s,k.sh b=some s->w.shape? b=some s
 obj:∀b o,O b=some (.obj o)->w.heap[b]?=some o
 tail:∀b n,O b=some (.tail n)->∃c e,w.heap[b]?=some (.cells c e (0,0))/\k.sh b=some (e,c.size)
 part:∀b f,O b=some (.part f)->∃c e,w.heap[b]?=some (.cells c e (0,0))/\k.sh b=some (e,c.size)/\∀i v,f i=some v->c[i]?=some v
def iz:Obj->Bool
 |.cells ..=>true
 |_=>false
def mz:Mark->Bool
 |.noRoom=>true
 |.extern _=>true
 |_=>false
def jD:Mark->Bool
 |.acquire _=>true
 |.releaseMerge _=>true
 |m=>mz m
def iO(k:ao)(O:ai)(size:Nat)(e:Event):Prop:=
 match e.loc with
 |.cell a=>aR O a.block a.off\/size<=a.block\/(e.write=false/\∃v,k.cell a.block a.off=some v)
 |.obj r=>(∃o,O r=some (.obj o))\/size<=r
 |.mark m=>jD m=true
 |_=>False
def iI(B:Nat)(e:Event):Prop:=
 match e.loc with
 |.cell a=>a.block<B
 |.obj r=>r<B
 |.mark (.acquire a)=>a.block<B
 |.mark (.releaseMerge a)=>a.block<B
 |_=>True
def iI.mono{B a:Nat}{e:Event}(h:iI B e)(b:B<=a):iI a e:=by
 unfold iI at *
 grind
def lP(o o':Os):Prop:=∃d:Nat,o'={o with wall:=o.wall+d,mono:=o.mono+d}
def lP.refl(o:Os):lP o o:=⟨0,rfl⟩
def lP.trans{a b c:Os}(h:lP a b)(f:lP b c):lP a c:=by obtain⟨d,rfl⟩:=h;obtain⟨e,rfl⟩:=f;exact⟨d+e,by grind⟩
structure vw(W w:World):Prop where
 os:lP W.os w.os
 output:w.output=W.output
 size:W.heap.size<=w.heap.size
 block:∀b,b<W.heap.size->w.heap[b]?=W.heap[b]?
def vw.refl(W:World):vw W W:=⟨.refl _,rfl,YF _,λ_ _=>rfl⟩
def vw.step{W w w':World}(h:vw W w)(d:lP w.os w'.os)(a:w'.output=w.output)(e:w.heap.size<=w'.heap.size)(hb:∀b,b<W.heap.size->w'.heap[b]?=w.heap[b]?):vw W w':=⟨h.os.trans d,a.trans h.output,YO h.size e,λb c=>(hb b c).trans (h.block b c)⟩
structure Eff(k:ao)(O:ai)(w:World)(k':ao)(O':ai)(w':World)(es:List Event):Prop where
 le:k.Le k'
 size:w.heap.size<=w'.heap.size
 keep:∀b,b<w.heap.size->O b=none->w'.heap[b]?=w.heap[b]?
 tail:∀b n,b<w.heap.size->O b=some (.tail n)->∀c e,w.heap[b]?=some (.cells c e (0,0)) ->
  ∃c',w'.heap[b]?=some (.cells c' e (0,0))/\c'.size=c.size/\∀i,i<n->c'[i]?=c[i]?
 part:∀b f,b<w.heap.size->O b=some (.part f)->∀c e,w.heap[b]?=some (.cells c e (0,0)) ->
  ∃c',w'.heap[b]?=some (.cells c' e (0,0))/\c'.size=c.size/\∀i,f i=none->c'[i]?=c[i]?
 shape:∀b,b<w.heap.size->w'.shape? b=w.shape? b
 own:∀b x,O' b=some x->(∃y,O b=some y/\y.iS x)\/w.heap.size<=b
 cell:∀b i v,k'.cell b i=some v->k.cell b i=some v\/aR O b i\/w.heap.size<=b
 sh:∀b s,k'.sh b=some s->k.sh b=some s\/(∃y,O b=some y)\/w.heap.size<=b
 evs:∀e∈es,iO k O w.heap.size e
 tape:w'.tape=w.tape
 output:w'.output=w.output
 os:w'.os=w.os
 low:∀e∈es,iI w'.heap.size e
 tok:∀b f,O b=some (.part f)->∃f',O' b=some (.part f')
def Eff.Dx{k:ao}{O:ai}{w:World}{k':ao}{O':ai}{w':World}{es:List Event}(h:Eff k O w k' O' w' es)(b i:Nat)(a:aR O' b i):
 aR O b i\/w.heap.size<=b:=by
 rcases a with⟨o,a⟩|⟨n,a,e⟩|⟨f,a,e⟩
 . rcases h.own b _ a with⟨y,c,hb⟩|j
   . cases y with
     |obj d=>exact .inl (.inl ⟨d,c⟩)
     |tail m=>exact hb.elim
     |part f=>exact hb.elim
   omega
 . rcases h.own b _ a with⟨y,c,hb⟩|j
   . cases y with
     |obj d=>exact .inl (.inl ⟨d,c⟩)
     |tail m=>exact .inl (.inr (.inl ⟨m,c,YO hb e⟩))
     |part f=>exact hb.elim
   omega
 . rcases h.own b _ a with⟨y,c,hb⟩|j
   . cases y with
     |obj d=>exact .inl (.inl ⟨d,c⟩)
     |tail m=>exact hb.elim
     |part g=>exact .inl (.inr (.inr ⟨g,c,hb i e⟩))
   omega
def Sat.zW{k:ao}{O:ai}{w:World}(h:Sat k O w){b:Nat}{o:Obj}(e:O b=some (.obj o)):b<w.heap.size:=by
 have:=h.obj b o e
 grind
def Sat.sR{k:ao}{O:ai}{w:World}(h:Sat k O w){b:Nat}{x:Own}(e:O b=some x):b<w.heap.size:=by
 cases x with
 |obj o=>exact h.zW e
 | tail n=>
   obtain⟨c,t,a,_⟩:=h.tail b n e
   grind
 | part f=>
   obtain⟨c,t,a,_⟩:=h.part b f e
   grind
def Sat.pK{k:ao}{O:ai}{w:World}(h:Sat k O w){b i:Nat}{v:Value}(e:k.cell b i=some v):b<w.heap.size:=by
 have:=h.cell b i v e;unfold World.cell? at this
 grind
def Sat.IL{k:ao}{O:ai}{w:World}(h:Sat k O w){b:Nat}{s:TypeId × Nat}(e:k.sh b=some s):b<w.heap.size:=by
 have:=h.sh b s e;unfold World.shape? at this
 grind
def iO.weaken{k c:ao}{O a:ai}{n d:Nat}{e:Event}(h:iO c a d e)(p:∀b i,aR a b i->aR O b i\/n<=b)
 (q:n<=d) (j:∀b x,a b=some x->(∃y,O b=some y/\y.iS x)\/n<=b)
 (s:∀b i v,c.cell b i=some v->k.cell b i=some v\/aR O b i\/n<=b):iO k O n e:=by
 unfold iO at h ⊢;split at h
 . grind
 . next r t=>
   rcases h with⟨o,h⟩|h
   . rcases j _ _ h with⟨y,l,g⟩|l
     . cases y with
       |obj u=>simp_all
       |tail m=>exact g.elim
       |part f=>exact g.elim
     omega
   omega
 . exact h
 . exact h
def Eff.refl(k:ao)(O:ai)(w:World):Eff k O w k O w []:=⟨.refl k,YF _,λ_ _ _=>rfl,λ_ _ _ _ c _ h=>⟨c,h,rfl,λ_ _=>rfl⟩,λ_ _ _ _ c _ h=>⟨c,h,rfl,λ_ _=>rfl⟩,λ_ _=>rfl,λ_ _ h=>.inl ⟨_,h,.refl _⟩,λ_ _ _ h=>.inl h,λ_ _ h=>.inl h,by simp,rfl,rfl,rfl,by simp,λ_ f h=>⟨f,h⟩⟩
def Eff.trans{k k1 D O r E w w1 w2 l1 l2}(h:Eff k O w k1 r w1 l1)(d:Eff k1 r w1 D E w2 l2):
 Eff k O w D E w2 (l1++l2) where
 le:=h.le.trans d.le
 size:=YO h.size d.size
 keep:=fun b hb q=>by
  have a:r b=none:=by
   cases e:r b with
   |none=>rfl
   | some x => rcases h.own b x e with⟨y,hy,_⟩|hy
               . simp_all
               omega
  rw[d.keep b (YU hb h.size) a,h.keep b hb q]
 tail :=λb n hb q c e hc=>by
  obtain⟨c1,a,t,u⟩:=h.tail b n hb q c e hc;have l:=YU hb h.size;cases e1:r b with
  |none=>exact⟨c1,by rw[d.keep b l e1];exact a,t,u⟩
  | some x=>
    rcases h.own b x e1 with⟨y,hy,j⟩|hy
    . rw[q]at hy
      cases hy;cases x with
      |obj o=>exact j.elim
      |tail m=>obtain⟨c2,p,B,C⟩:=d.tail b m l e1 c1 e a;exact⟨c2,p,B.trans t,λi A=>(C i (YU A j)).trans (u i A)⟩
      |part f=>exact j.elim
    omega
 part :=λb f hb q c e hc=>by
  obtain⟨c1,a,t,u⟩:=h.part b f hb q c e hc;have l:=YU hb h.size;cases e1:r b with
  |none=>exact⟨c1,by rw[d.keep b l e1];exact a,t,u⟩
  | some x=>
    rcases h.own b x e1 with⟨y,hy,j⟩|hy
    . rw[q]at hy
      cases hy;cases x with
      |obj o=>exact j.elim
      |tail m=>exact j.elim
      |part g=>obtain⟨c2,p,B,C⟩:=d.part b g l e1 c1 e a;exact⟨c2,p,B.trans t,λi A=>(C i (Zm λx=>j i x A)).trans (u i A)⟩
    omega
 shape:=λb hb=>(d.shape b (YU hb h.size)).trans (h.shape b hb)
 own:=λb x hx=>by
  rcases d.own b x hx with⟨y,a,F⟩|a
  . rcases h.own b y a with⟨z,p,G⟩|p
    . exact .inl ⟨z,p,G.trans F⟩
    omega
  exact .inr (YO h.size a)
 cell:=λb i v H=>by
  rcases d.cell b i v H with a|a|a
  . exact h.cell b i v a
  . rcases h.Dx b i a with p|p
    . simp_all
    omega
  exact .inr (.inr (YO h.size a))
 sh:=λb s hs=>by
  rcases d.sh b s hs with a|⟨y,a⟩|a
  . exact h.sh b s a
  . rcases h.own b y a with⟨z,p,_⟩|p
    . simp_all
    omega
  exact .inr (.inr (YO h.size a))
 evs:=λe he=>by
  rcases YH.1 he with a|a
  . exact h.evs e a
  exact(d.evs e a).weaken h.Dx h.size h.own h.cell
 tape:=d.tape.trans h.tape
 output:=d.output.trans h.output
 os:=d.os.trans h.os
 low:=λe he=>by
  rcases YH.1 he with a|a
  . exact(h.low e a).mono d.size
  exact d.low e a
 tok:=λb f hb=>by obtain⟨f1,a⟩:=h.tok b f hb;exact d.tok b f1 a
section prim
variable{k:ao}{O:ai}{w:World}
def fG  a   v   b :(w.setCell a v).shape? b=w.shape? b:=by
 unfold World.shape? World.setCell
 grind
def du{a v b i}(h:¬(b=a.block/\i=a.off)):(w.setCell a v).cell? ⟨b,i,none⟩=w.cell? ⟨b,i,none⟩:=by
 unfold World.cell? World.setCell
 grind
def yc{a v c e sy}(h:Sat k O w)(A:a.spot=none)(m:O a.block=some (.obj (.cells c e (0,0)))):
 Sat k (O.set a.block (.obj (.cells (c.setIfInBounds a.off v) e (0,0)))) (w.setCell a v)/\
 Eff k O w k (O.set a.block (.obj (.cells (c.setIfInBounds a.off v) e (0,0)))) (w.setCell a v) [⟨.cell a,true,sy⟩]:=by
 have z:=h.obj _ _ m;have hb:=(zs.1 z).1;have B:(w.setCell a v).heap[a.block]?=some (.cells (c.setIfInBounds a.off v) e (0,0)):=by simp[World.setCell,Zi,z,A]
 have l:∀b,b≠a.block->(w.setCell a v).heap[b]?=w.heap[b]?:=λb hb=>by simp[World.setCell,Zi,zj hb]
 have p:∀b i,aR (O.set a.block (.obj (.cells (c.setIfInBounds a.off v) e (0,0)))) b i->aR O b i:=λb i t=>by
  by_cases d:b=a.block
  . subst d;exact .inl ⟨_,m⟩
  simpa[aR,ai.set,d]using t
 refine⟨⟨λb i u r t=>h.apart b i u r (p b i t),λb i u r=>?_,λb s C=>by rw[fG];exact h.sh b s C,λb o q=>?_,λb n g=>?_,λb f g=>?_⟩,?_⟩
 . rw[du]
   . exact h.cell b i u r
   rintro⟨rfl,rfl⟩;exact h.apart _ _ _ r (.inl ⟨_,m⟩)
 . by_cases d:b=a.block
   . subst d
     simp only[ai.set,YD,kn,Own.obj.injEq]at q
     simp_all
   rw[l b d];exact h.obj b o (by simpa[ai.set,d]using q)
 . by_cases d:b=a.block
   . subst d;simp[ai.set]at g
   rw[l b d];exact h.tail b n (by simpa[ai.set,d]using g)
 . by_cases d:b=a.block
   . subst d;simp[ai.set]at g
   rw[l b d];exact h.part b f (by simpa[ai.set,d]using g)
 refine⟨.refl k,by simp_all,λb _ H=>l b (λe=>by simp_all),λb n _ g D E y=>?_,λb n _ g D E y=>?_,λb _=>fG a v b,λb x F=>?_,λ_ _ _ h=>.inl h,λ_ _ h=>.inl h,?_,rfl,rfl,rfl,?_,λb f hb=>⟨f,by rw[show(O.set a.block _) b=O b from by simp only[ai.set];grind];exact hb⟩⟩
 . grind
 . grind
 . by_cases d:b=a.block
   . subst d;exact .inl ⟨_,m,trivial⟩
   exact .inl ⟨x,by simpa[ai.set,d]using F,.refl x⟩
 . intro G j
   simp only[lb]at j;subst j;exact .inl (.inl ⟨_,m⟩)
 intro G j;simp only[lb]at j;subst j;simpa[iI,World.setCell]using hb
def vz{a v v0 f sy}(h:Sat k O w)(J:a.spot=none)(A:O a.block=some (.part f))(K:f a.off=some v0):
 Sat k (O.set a.block (.part λi=>if i=a.off then some v else f i)) (w.setCell a v)/\
 Eff k O w k (O.set a.block (.part λi=>if i=a.off then some v else f i)) (w.setCell a v) [⟨.cell a,true,sy⟩]:=by
 obtain⟨c,e,E,F,r⟩:=h.part _ _ A;have L:a.off<c.size:=(zs.1 (r _ _ K)).1;have hb:=(zs.1 E).1;have M:(w.setCell a v).heap[a.block]?=some (.cells (c.setIfInBounds a.off v) e (0,0)):=by simp[World.setCell,Zi,E,J]
 have l:∀b,b≠a.block->(w.setCell a v).heap[b]?=w.heap[b]?:=λb hb=>by simp[World.setCell,Zi,zj hb]
 have t:aR O a.block a.off:=.inr (.inr ⟨f,A,by grind⟩);have y:∀i,(if i=a.off then some v else f i)≠none->f i≠none:=λi G=>by grind
 have H:∀b,b≠a.block->(O.set a.block (.part λi=>if i=a.off then some v else f i)) b=O b:=λb d=>by simp[ai.set,d]
 have z:∀b i,aR (O.set a.block (.part λi=>if i=a.off then some v else f i)) b i->aR O b i:=λb i r=>by
  by_cases d:b=a.block
  . subst d
    rcases r with⟨o,q⟩|⟨m,q,_⟩|⟨g,q,N⟩
    . simp[ai.set]at q
    . simp[ai.set]at q
    simp only[ai.set,YD,kn,Own.part.injEq]at q;subst q;exact .inr (.inr ⟨f,A,y i N⟩)
  simpa[aR,ai.set,d]using r
 refine⟨⟨λb i u B r=>h.apart b i u B (z b i r),λb i u B=>?_,λb s F=>by rw[fG];exact h.sh b s F,λb o C=>?_,λb n p=>?_,λb g p=>?_⟩,?_⟩
 . rw[du]
   . exact h.cell b i u B
   rintro⟨rfl,rfl⟩;exact h.apart _ _ _ B t
 . by_cases d:b=a.block
   . subst d;simp[ai.set]at C
   rw[l b d];exact h.obj b o (by simp_all)
 . by_cases d:b=a.block
   . grind
   rw[l b d];exact h.tail b n (by simp_all)
 . by_cases d:b=a.block
   . subst d
     simp only[ai.set,YD,kn,Own.part.injEq]at p
     grind
   rw[l b d];exact h.part b g (by simp_all)
 refine⟨.refl k,by simp_all,λb _ S=>l b (λe=>by simp_all),λb n _ p P Q D=>?_,λb g _ p P Q D=>?_,λb _=>fG a v b,λb x I=>?_,λ_ _ _ h=>.inl h,λ_ _ h=>.inl h,?_,rfl,rfl,rfl,?_,λb g hb=>?_⟩
 . grind
 . grind
 . by_cases d:b=a.block
   . subst d
     simp only[ai.set,YD,kn]at I;subst I;exact .inl ⟨_,A,λi G=>y i G⟩
   exact .inl ⟨x,by simp_all,.refl x⟩
 . intro R j
   simp only[lb]at j;subst j;exact .inl t
 . intro R j
   simp only[lb]at j;subst j;simpa[iI,World.setCell]using hb
 by_cases d:b=a.block
 . subst d;exact⟨λi=>if i=a.off then some v else f i,by simp only[ai.set,YD]⟩
 simp_all
def vA{a v e N sy}(h:Sat k O w)(H:a.spot=none)(t:O a.block=some (.tail a.off))(B:k.sh a.block=some (e,N))(I:a.off<N):
 Sat (k.put a.block a.off v) (O.set a.block (.tail (a.off+1))) (w.setCell a v)/\
 Eff k O w (k.put a.block a.off v) (O.set a.block (.tail (a.off+1))) (w.setCell a v) [⟨.cell a,true,sy⟩]:=by
 obtain⟨c,F,G,r⟩:=h.tail _ _ t;rw[B]at r;simp only[kn,zG]at r;obtain⟨rfl,rfl⟩:=r;have hb:=(zs.1 G).1;have y:(w.setCell a v).heap[a.block]?=some (.cells (c.setIfInBounds a.off v) e (0,0)):=by simp[World.setCell,Zi,G,H]
 have p:∀b,b≠a.block->(w.setCell a v).heap[b]?=w.heap[b]?:=λb hb=>by simp[World.setCell,Zi,zj hb]
 have z:∀b i,aR (O.set a.block (.tail (a.off+1))) b i->aR O b i/\¬(b=a.block/\i=a.off):=λb i l=>by
  by_cases d:b=a.block
  . subst d
    rcases l with⟨o,l⟩|⟨n,l,J⟩|⟨f,l,_⟩
    . simp[ai.set]at l
    . simp only[ai.set,YD,kn,Own.tail.injEq]at l
      subst l;exact⟨.inr (.inl ⟨_,t,by omega⟩),λx=>by omega⟩
    simp[ai.set]at l
  exact⟨by simpa[aR,ai.set,d]using l,λx=>d x.1⟩
 have C:k.cell a.block a.off=none:=by
  cases e:k.cell a.block a.off with
  |none=>rfl
  |some u=>exact(h.apart _ _ _ e (.inr (.inl ⟨_,t,YF _⟩))).elim
 refine⟨⟨λb i u q l=>?_,λb i u q=>?_,λb s B=>by rw[fG];exact h.sh b s B,λb o A=>?_,λb n g=>?_,λb f g=>?_⟩,?_⟩
 . obtain⟨K,L⟩:=z b i l
   refine h.apart b i u ?_ K;simpa[ao.put,L]using q
 . by_cases j:b=a.block/\i=a.off
   . obtain⟨rfl,rfl⟩:=j
     simp only[ao.put,and_self,YD,kn]at q;subst q;simp[World.cell?,y,I]
   rw[du j];exact h.cell b i u (by simpa[ao.put,j]using q)
 . by_cases d:b=a.block
   . subst d;simp[ai.set]at A
   rw[p b d];exact h.obj b o (by simpa[ai.set,d]using A)
 . by_cases d:b=a.block
   . subst d
     exact⟨_,_,y,by simpa[ao.put]using B⟩
   rw[p b d];exact h.tail b n (by simpa[ai.set,d]using g)
 . by_cases d:b=a.block
   . subst d;simp[ai.set]at g
   rw[p b d];exact h.part b f (by simpa[ai.set,d]using g)
 refine⟨⟨λb i u q=>?_,λ_ _ h=>h⟩,by simp_all,λb _ J=>p b (λe=>by simp_all),λb n _ g M F D=>?_,λb n _ g M F D=>(by grind),λb _=>fG a v b,λb x E=>?_,λb i u q=>?_,λ_ _ h=>.inl h,?_,rfl,rfl,rfl,?_,λb f hb=>⟨f,by rw[show(O.set a.block _) b=O b from by simp only[ai.set];grind];exact hb⟩⟩
 . simp only[ao.put]
   grind
 . grind
 . by_cases d:b=a.block
   . subst d
     simp only[ai.set,YD,kn]at E;subst E;exact .inl ⟨_,t,by simp[Own.iS]⟩
   exact .inl ⟨x,by simpa[ai.set,d]using E,.refl x⟩
 . by_cases j:b=a.block/\i=a.off
   . obtain⟨rfl,rfl⟩:=j
     exact .inr (.inl (.inr (.inl ⟨_,t,YF _⟩)))
   exact .inl (by simpa[ao.put,j]using q)
 . intro P m
   simp only[lb]at m;subst m;exact .inl (.inr (.inl ⟨_,t,YF _⟩))
 intro P m;simp only[lb]at m;subst m;simpa[iI,World.setCell]using hb
def ao.made(k:ao)(r:Nat):Obj->ao
 |.cells c e _=>k.dX r (e,c.size)
 |_=>k
def Fp(k:ao)(O:ai)(r:Nat):Prop:=O r=none/\(∀i,k.cell r i=none)/\k.sh r=none
def vB(h:Sat k O w):Fp k O w.heap.size:=by
 refine⟨?_,λi=>?_,?_⟩
 . cases e:O w.heap.size with
   |none=>rfl
   |some x=>have:=h.sR e;omega
 . cases e:k.cell w.heap.size i with
   |none=>rfl
   |some x=>have:=h.pK e;omega
 cases e:k.sh w.heap.size with
 |none=>rfl
 |some x=>have:=h.IL e;omega
def M3{o}(h:Sat k O w)(z:∀c e fz,o=.cells c e fz->fz=(0,0)):
 Sat (k.made w.heap.size o) (O.set w.heap.size (.obj o)) {w with heap:=w.heap.push o}/\
 Eff k O w (k.made w.heap.size o) (O.set w.heap.size (.obj o)) {w with heap:=w.heap.push o} []:=by
 obtain⟨f1,F,A⟩:=vB h
 have hold:∀b,b<w.heap.size->(w.heap.push o)[b]?=w.heap[b]?:=λb hb=>by grind
 have p:(w.heap.push o)[w.heap.size]?=some o:=by simp
 have a:∀b,b<w.heap.size->World.shape? {w with heap:=w.heap.push o} b=w.shape? b:=λb hb=>by simp only[World.shape?,hold b hb]
 have g:(k.made w.heap.size o).cell=k.cell:=by cases o<;>rfl
 refine⟨⟨λb i u l t=>?_,λb i u l=>?_,λb s m=>?_,λb y q=>?_,λb n j=>?_,λb f j=>?_⟩,?_⟩
 . rw[g]at l
   have hb:=h.pK l;have v:b≠w.heap.size:=by omega
   exact h.apart b i u l (by simpa[aR,ai.set,v]using t)
 . rw[g]at l
   have hb:=h.pK l;have:=h.cell b i u l;simpa only[World.cell?,hold b hb]using this
 . by_cases hb:b=w.heap.size
   . subst hb
     cases o with
     |cells c e fz=>simp only[ao.made,ao.dX,YD,kn]at m;subst m;simp only[World.shape?,p]
     |_=>simp only[ao.made,A]at m;cases m
   have r:k.sh b=some s:=by cases o<;>simp_all [ao.made,ao.dX]
   rw[a b (h.IL r)];exact h.sh b s r
 . by_cases hb:b=w.heap.size
   . subst hb
     simp only[ai.set,YD,kn,Own.obj.injEq]at q
     grind
   have d:O b=some (.obj y):=by simpa[ai.set,hb]using q
   rw[hold b (h.zW d)];exact h.obj b y d
 . by_cases hb:b=w.heap.size
   . subst hb;simp[ai.set]at j
   have d:O b=some (.tail n):=by simpa[ai.set,hb]using j
   obtain⟨c,e,B,C⟩:=h.tail b n d;refine⟨c,e,by grind,?_⟩
   cases o<;>simp_all [ao.made,ao.dX]
 . by_cases hb:b=w.heap.size
   . subst hb;simp[ai.set]at j
   have d:O b=some (.part f):=by simpa[ai.set,hb]using j
   obtain⟨c,e,B,C,D⟩:=h.part b f d;refine⟨c,e,by grind,?_,D⟩
   cases o<;>simp_all [ao.made,ao.dX]
 refine⟨⟨λb i u l=>by grind,λb s m=>?_⟩,by simp,λb hb _=>hold b hb,λb n hb _ c e t=>⟨c,by grind,rfl,λ_ _=>rfl⟩,λb n hb _ c e t=>⟨c,by grind,rfl,λ_ _=>rfl⟩,a,λb x E=>?_,λb i u l=>.inl (by grind),λb s m=>?_,by simp,rfl,rfl,rfl,by simp,λb f hb=>⟨f,by rw[show(O.set w.heap.size (.obj o)) b=O b from by simp only[ai.set];grind];exact hb⟩⟩
 . have hb:b≠w.heap.size:=λe=>by grind
   cases o<;>simp_all [ao.made,ao.dX]
 . by_cases hb:b=w.heap.size
   . omega
   exact .inl ⟨x,by simpa[ai.set,hb]using E,.refl x⟩
 by_cases hb:b=w.heap.size
 . omega
 refine .inl ?_;cases o<;>simp_all [ao.made,ao.dX]
def Dy{r o o'}(h:Sat k O w)(l:O r=some (.obj o))(J:iz o=false)(K:iz o'=false):
 Sat k (O.set r (.obj o')) {w with heap:=w.heap.setIfInBounds r o'}/\
 Eff k O w k (O.set r (.obj o')) {w with heap:=w.heap.setIfInBounds r o'} [⟨.obj r,true,o'.isChan⟩]:=by
 have A:=h.obj _ _ l;have B:=(zs.1 A).1;have v:(w.heap.setIfInBounds r o')[r]?=some o':=by simp[B]
 have j:∀b,b≠r->(w.heap.setIfInBounds r o')[b]?=w.heap[b]?:=λb hb=>by grind
 have m:∀b,World.shape? {w with heap:=w.heap.setIfInBounds r o'} b=w.shape? b:=λb=>by
  by_cases hb:b=r
  . subst hb
    simp only[World.shape?,v,A];cases o<;>cases o'<;>simp_all [iz]
  simp only[World.shape?,j b hb]
 have p:∀b i,aR (O.set r (.obj o')) b i->aR O b i:=λb i y=>by
  by_cases a:b=r
  . subst a;exact .inl ⟨_,l⟩
  simpa[aR,ai.set,a]using y
 refine⟨⟨λb i u t y=>h.apart b i u t (p b i y),λb i u t=>?_,λb s C=>by rw[m];exact h.sh b s C,λb x q=>?_,λb n d=>?_,λb f d=>?_⟩,?_⟩
 . have hb:b≠r:=λe=>by subst e;exact h.apart _ _ _ t (.inl ⟨_,l⟩)
   have:=h.cell b i u t;simpa only[World.cell?,j b hb]using this
 . by_cases a:b=r
   . subst a
     simp only[ai.set,YD,kn,Own.obj.injEq]at q
     simp_all
   show(w.heap.setIfInBounds r o')[b]?=_;rw[j b a];exact h.obj b x (by simpa[ai.set,a]using q)
 . by_cases a:b=r
   . subst a;simp[ai.set]at d
   obtain⟨c,e,D,E⟩:=h.tail b n (by simpa[ai.set,a]using d)
   grind
 . by_cases a:b=r
   . subst a;simp[ai.set]at d
   obtain⟨c,e,D,E⟩:=h.part b f (by simpa[ai.set,a]using d)
   grind
 refine⟨.refl k,by simp,λb _ L=>j b (λe=>by simp_all),λb n _ d F G z=>?_,λb n _ d F G z=>?_,λb _=>m b,λb x H=>?_,λ_ _ _ h=>.inl h,λ_ _ h=>.inl h,?_,rfl,rfl,rfl,?_,λb f hb=>⟨f,by rw[show(O.set r _) b=O b from by simp only[ai.set];grind];exact hb⟩⟩
 . grind
 . grind
 . by_cases a:b=r
   . subst a;exact .inl ⟨_,l,trivial⟩
   exact .inl ⟨x,by simpa[ai.set,a]using H,.refl x⟩
 . intro I g
   simp only[lb]at g;subst g;exact .inl ⟨_,l⟩
 intro I g;simp only[lb]at g;subst g;simpa[iI]using B
def IM{n}(h:Sat k O w):Sat k O {w with drawn:=n}/\Eff k O w k O {w with drawn:=n} []:=⟨⟨h.apart,h.cell,h.sh,h.obj,h.tail,h.part⟩,⟨.refl k,YF _,λ_ _ _=>rfl,λ_ _ _ _ c _ h=>⟨c,h,rfl,λ_ _=>rfl⟩,λ_ _ _ _ c _ h=>⟨c,h,rfl,λ_ _=>rfl⟩,λ_ _=>rfl,λ_ _ h=>.inl ⟨_,h,.refl _⟩,λ_ _ _ h=>.inl h,λ_ _ h=>.inl h,by simp,rfl,rfl,rfl,by simp,λ_ f h=>⟨f,h⟩⟩⟩
def vC{l}(a:∀e∈l,iO k O w.heap.size e)(b:∀e∈l,iI w.heap.size e):Eff k O w k O w l:=⟨.refl k,YF _,λ_ _ _=>rfl,λ_ _ _ _ c _ h=>⟨c,h,rfl,λ_ _=>rfl⟩,λ_ _ _ _ c _ h=>⟨c,h,rfl,λ_ _=>rfl⟩,λ_ _=>rfl,λ_ _ h=>.inl ⟨_,h,.refl _⟩,λ_ _ _ h=>.inl h,λ_ _ h=>.inl h,a,rfl,rfl,rfl,b,λ_ f h=>⟨f,h⟩⟩
end prim
def Reads(k:ao)(O:ai)(a:Addr)(v:Value):Prop:=a.spot=none/\(k.cell a.block a.off=some v\/∃c e fz,O a.block=some (.obj (.cells c e fz))/\c[a.off]?=some v)
def Fq(k:ao)(O:ai)(r:Nat)(s:Option (TypeId × Nat)):Prop:=(∃x,s=some x/\k.sh r=some x)\/(∃c e fz,O r=some (.obj (.cells c e fz))/\s=some (e,c.size))\/(∃o,O r=some (.obj o)/\iz o=false/\s=none)
def flat:Value->Bool
 |.agg _=>false
 |.tuple _=>false
 |_=>true
def IN:Mode->Bool
 |.plain=>true
 |.atomic=>true
def OJ:Obj->Bool
 |.cells _ _ fz=>fz==(0,0)
 |_=>true
def dD(P:abm){α}:Sem α->ao->ai->(α->ao->ai->Prop)->(Value->ao->ai->Prop)->Prop
 |.pure a,k,O,K,_=>K a k O
 |.load m a f,k,O,K,b=>IN m=true/\∃v,Reads k O a v/\dD P (f v) k O K b
 | .store m a v f,k,O,K,b=>IN m=true/\flat v=true/\a.spot=none/\
    ((∃c e,O a.block=some (.obj (.cells c e (0,0)))/\a.off<c.size/\dD P f k (O.set a.block (.obj (.cells (c.setIfInBounds a.off v) e (0,0)))) K b)\/
     (∃e N,O a.block=some (.tail a.off)/\k.sh a.block=some (e,N)/\a.off<N/\(k.cell a.block a.off=none->dD P f (k.put a.block a.off v) (O.set a.block (.tail (a.off+1))) K b))\/
     (∃d h,O a.block=some (.part d)/\d a.off=some h/\dD P f k (O.set a.block (.part λi=>if i=a.off then some v else d i)) K b))
 |.new o f,k,O,K,b=>OJ o=true/\∀r,Fp k O r->dD P (f r) (k.made r o) (O.set r (.obj o)) K b
 |.shape r f,k,O,K,b=>∃s,Fq k O r s/\dD P (f s) k O K b
 |.freeze _ _ _,_,_,_,_=>False
 |.frozen a f,k,O,K,b=>((∃c e,O a.block=some (.obj (.cells c e (0,0))))\/∃n,O a.block=some (.tail n))/\dD P (f false) k O K b
 |.getObj r f,k,O,K,b=>∃o,O r=some (.obj o)/\iz o=false/\dD P (f o) k O K b
 |.setObj r o f,k,O,K,b=>(∃g,O r=some (.obj g)/\iz g=false)/\iz o=false/\dD P f k (O.set r (.obj o)) K b
 |.choose q f,k,O,K,b=>∀t,dD P (f (if q.forced then 0 else q.cut t)) k O K b
 |.sys _ _,_,_,_,_=>False
 |.program f,k,O,K,b=>dD P (f P) k O K b
 |.mark m f,k,O,K,b=>mz m=true/\dD P f k O K b
 |.halt (.panic v),k,O,_,b=>b v k O
 |.halt _,_,_,_,_=>False
def Dz{k O w a v}(h:Sat k O w)(d:Reads k O a v):w.cell? a=some v:=by
 obtain⟨f,d⟩:=d;obtain⟨b,i,s⟩:=a;simp only at f d;subst f;rcases d with d|⟨c,e,fz,g,j⟩
 . exact h.cell _ _ _ d
 have:=h.obj _ _ g;simp[World.cell?,this,j]
def yd{k O w r s}(h:Sat k O w)(b:Fq k O r s):w.shape? r=s:=by
 rcases b with⟨x,rfl,d⟩|⟨c,e,fz,a,rfl⟩|⟨o,a,f,rfl⟩
 . exact h.sh _ _ d
 . simp[World.shape?,h.obj _ _ a]
 rw[World.shape?,h.obj _ _ a];cases o<;>simp_all [iz]
def Comes{α}(K:α->ao->ai->Prop)(Kp:Value->ao->ai->Prop)(k':ao)(O':ai)(w':World)(r:Result α):Prop:=(∃a,r=.ok a w'/\K a k' O')\/(∃v,r=.halt (.panic v) w'/\Kp v k' O')
def sS{P α K Kp}(s:Sem α):∀{k O w}  es ,
 dD P s k O K Kp->Sat k O w->∃k' O' w' l,Eff k O w k' O' w' l/\Sat k' O' w'/\(s.runT P w es).2.toList=es.toList++l/\Comes K Kp k' O' w' (s.runT P w es).1:=by
 induction s with
 |pure a=>intro k O w es h b;exact⟨k,O,w,[],.refl ..,b,by simp_all,.inl ⟨a,rfl,h⟩⟩
 | load m a f j=>
   intro k O w es h b;obtain⟨_,v,z,h⟩:=h;have F:=Dz b z;obtain⟨k',O',w',l,g,i,y,p⟩:=j v (es.push ⟨.cell a,false,m==.atomic⟩) h b;refine⟨k',O',w',⟨.cell a,false,m==.atomic⟩::l,?_,i,?_,?_⟩
   . refine Eff.trans (vC ?_ ?_) g (l1:=[_])
     . intro e t
       simp only[lb]at t;subst t;rcases z.2 with z|⟨c,e,fz,d,_⟩
       . exact .inr (.inr ⟨rfl,v,z⟩)
       exact .inl (.inl ⟨_,d⟩)
     intro e t;simp only[lb]at t;subst t;rcases z.2 with z|⟨c,e,fz,d,_⟩
     . exact b.pK z
     exact b.zW d
   . simp only[Sem.runT,F];grind
   simp only[Sem.runT,F];exact p
 | store m a v f j=>
   intro k O w es h b;obtain⟨_,R,G,h⟩:=h
   have B:∀c e,w.heap[a.block]?=some (.cells c e (0,0))->a.off<c.size ->
    (Sem.store m a v f).runT P w es=f.runT P (w.setCell a v) (es.push ⟨.cell a,true,m==.atomic⟩):=by
    intro c e A C;have F:w.cell? a=some c[a.off]:=by simp[World.cell?,A,G,C]
    have Q:w.frozen? a=false:=by simp[World.frozen?,A]
    cases v<;>first|exact Bool.noConfusion R|(rw[Sem.runT,F]<;>first|(simp only[Q];rfl)|(intro _ S;cases S))
   rcases h with⟨c,e,d,C,h⟩|⟨e,N,d,H,C,h⟩|⟨U,V,d,Q,h⟩
   . obtain⟨D,E⟩:=yc (v:=v) (sy:=m==.atomic) b G d
     obtain⟨k',O',w',l,g,i,y,p⟩:=j (es.push ⟨.cell a,true,m==.atomic⟩) h D;have z:=B c e (b.obj _ _ d) C;exact⟨k',O',w',_::l,Eff.trans E g,i,by simp_all,by simp_all⟩
   . have h:=h (by
      cases e:k.cell a.block a.off with
      |none=>rfl
      |some u=>exact(b.apart _ _ _ e (.inr (.inl ⟨_,d,YF _⟩))).elim)
     obtain⟨D,E⟩:=vA (v:=v) (sy:=m==.atomic) b G d H C;obtain⟨k',O',w',l,g,i,y,p⟩:=j (es.push ⟨.cell a,true,m==.atomic⟩) h D;obtain⟨c,T,A,J⟩:=b.tail _ _ d;rw[H]at J;simp only[kn,zG]at J;have z:=B c T A (by omega);exact⟨k',O',w',_::l,Eff.trans E g,i,by simp_all,by simp_all⟩
   obtain⟨D,E⟩:=vz (v:=v) (sy:=m==.atomic) b G d Q;obtain⟨k',O',w',l,g,i,y,p⟩:=j (es.push ⟨.cell a,true,m==.atomic⟩) h D;obtain⟨c,e,A,_,F⟩:=b.part _ _ d;have z:=B c e A (zs.1 (F _ _ Q)).1;exact⟨k',O',w',_::l,Eff.trans E g,i,by simp_all,by simp_all⟩
 | new o f j=>
   intro k O w es h b;obtain⟨L,h⟩:=h;have h:=h w.heap.size (vB b);obtain⟨D,E⟩:=M3 (o:=o) b (λ_ _ _ t=>by subst t;simpa[OJ]using L);obtain⟨k',O',w',l,g,i,y,p⟩:=j w.heap.size es h D;exact⟨k',O',w',l,Eff.trans E g,i,by simp only[Sem.runT];exact y,by simp only[Sem.runT];exact p⟩
 |shape r f j=>intro k O w es h b;obtain⟨s,H,h⟩:=h;have:=yd b H;obtain⟨k',O',w',l,g,i,y,p⟩:=j s es h b;exact⟨k',O',w',l,g,i,by simp only[Sem.runT,this];exact y,by simp only[Sem.runT,this];exact p⟩
 |freeze a n f j=>intro k O w es h b;exact h.elim
 | frozen a f j=>
   intro k O w es h b;obtain⟨d,h⟩:=h
   have:w.frozen? a=false:=by
    rcases d with⟨c,e,d⟩|⟨n,d⟩
    . simp[World.frozen?,b.obj _ _ d]
    obtain⟨c,e,A,_⟩:=b.tail _ _ d;simp[World.frozen?,A]
   obtain⟨k',O',w',l,g,i,y,p⟩:=j false es h b;exact⟨k',O',w',l,g,i,by simp only[Sem.runT,this];exact y,by simp only[Sem.runT,this];exact p⟩
 | getObj r f j=>
   intro k O w es h b;obtain⟨o,d,F,h⟩:=h;have A:=b.obj _ _ d;obtain⟨k',O',w',l,g,i,y,p⟩:=j o (es.push ⟨.obj r,false,o.isChan⟩) h b;have z:(Sem.getObj r f).runT P w es=(f o).runT P w (es.push ⟨.obj r,false,o.isChan⟩):=by rw[Sem.runT,A];cases o<;>first|rfl|cases F
   refine⟨k',O',w',⟨.obj r,false,o.isChan⟩::l,Eff.trans (vC ?_ ?_) g (l1:=[_]),i,by simp_all,by simp_all⟩
   . intro e t
     simp only[lb]at t;subst t;exact .inl ⟨_,d⟩
   intro e t;simp only[lb]at t;subst t;exact b.zW d
 | setObj r o f j=>
   intro k O w es h b;obtain⟨⟨o',d,M⟩,F,h⟩:=h;have A:=b.obj _ _ d;obtain⟨D,E⟩:=Dy (o':=o) b d M F;obtain⟨k',O',w',l,g,i,y,p⟩:=j (es.push ⟨.obj r,true,o.isChan⟩) h D;have z:(Sem.setObj r o f).runT P w es=f.runT P {w with heap:=w.heap.setIfInBounds r o} (es.push ⟨.obj r,true,o.isChan⟩):=by rw[Sem.runT,A];cases o'<;>first|rfl|cases M
   exact⟨k',O',w',_::l,Eff.trans E g,i,by simp_all,by simp_all⟩
 | choose q f j=>
   intro k O w es h b;have h:=h (w.tape w.drawn q);by_cases I:q.forced=true
   . simp only[I,YD]at h
     obtain⟨k',O',w',l,g,i,y,p⟩:=j 0 es h b;exact⟨k',O',w',l,g,i,by simp only[Sem.runT,I,YD];exact y,by simp only[Sem.runT,I,YD];exact p⟩
   simp only[I]at h;obtain⟨D,E⟩:=IM (n:=w.drawn+1) b;obtain⟨k',O',w',l,g,i,y,p⟩:=j _ es h D;refine⟨k',O',w',l,Eff.trans E g,i,?_,?_⟩
   . simp only[Sem.runT,I];exact y
   simp only[Sem.runT,I];exact p
 |sys c f j=>intro k O w es h b;exact h.elim
 |program f j=>intro k O w es h b;obtain⟨k',O',w',l,g,i,y,p⟩:=j P es h b;exact⟨k',O',w',l,g,i,by simp only[Sem.runT];exact y,by simp only[Sem.runT];exact p⟩
 | mark m f j=>
   intro k O w es h b;obtain⟨W,h⟩:=h;obtain⟨k',O',w',l,g,i,y,p⟩:=j (es.push ⟨.mark m,false,true⟩) h b;refine⟨k',O',w',⟨.mark m,false,true⟩::l,Eff.trans (vC ?_ ?_) g (l1:=[_]),i,by simp only[Sem.runT];grind,by simp only[Sem.runT];exact p⟩
   . intro e t
     simp only[lb]at t;subst t;show jD m=true;cases m<;>simp_all [mz,jD]
   intro e t;simp only[lb]at t;subst t;cases m<;>simp_all [mz,iI]
 | halt x=>
   intro k O w es h b;cases x with
   |panic v=>exact⟨k,O,w,[],.refl ..,b,by simp_all,.inr ⟨v,rfl,h⟩⟩
   |_=>exact h.elim
def IP{P α β f}{K:β->ao->ai->Prop}{Kp}(s:Sem α):∀{k O},
 dD P s k O (λa k O=>dD P (f a) k O K Kp) Kp->dD P (s.bind f) k O K Kp:=by
 induction s with
 |pure a=>intro k O h;exact h
 |load m a g b=>intro k O h;obtain⟨d,v,e,i⟩:=h;exact⟨d,v,e,b v i⟩
 | store m a v g b=>
   intro k O h;obtain⟨d,e,i,l⟩:=h;refine⟨d,e,i,?_⟩
   grind
 |new o g b=>intro k O h;exact⟨h.1,λr j=>b r (h.2 r j)⟩
 |shape r g b=>intro k O h;obtain⟨s,d,e⟩:=h;exact⟨s,d,b s e⟩
 |freeze a n g b=>intro k O h;exact h.elim
 |frozen a g b=>intro k O h;exact⟨h.1,b false h.2⟩
 |getObj r g b=>intro k O h;obtain⟨o,d,e,i⟩:=h;exact⟨o,d,e,b o i⟩
 |setObj r o g b=>intro k O h;exact⟨h.1,h.2.1,b h.2.2⟩
 |choose q g b=>intro k O h t;exact b _ (h t)
 |sys c g b=>intro k O h;exact h.elim
 |program g b=>intro k O h;exact b P h
 |mark m g b=>intro k O h;exact⟨h.1,b h.2⟩
 |halt x=>intro k O h;cases x<;>exact h
