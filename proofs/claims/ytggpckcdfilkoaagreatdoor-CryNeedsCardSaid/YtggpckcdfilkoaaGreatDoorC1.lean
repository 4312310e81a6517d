import Derived.Conc.LeavingOf
set_option linter.all false
namespace Go.bu
def S1{α}(a:α):∃x,x=a:=⟨a,rfl⟩
def F2{p:Prop}(h:p:=by simp;omega):=h
def z0{p:Prop}(h:p:=by assumption):=h
def v3{p:Prop}(h:p:=by decide +kernel):=h
def s8{p:Prop}(h:p:=by kernel_rfl):=h
def ac{p:Prop}(h:p:=by omega):=h
def M1(x:Int)(h:-9223372036854775808<=x/\x<=9223372036854775807:=by omega):=h
def am{p:Prop}(h:p:=by grind):=h
def ap{p:Prop}(h:p:=by simp):=h
def aq{p:Prop}(h:p:=by simp_all):=h
def be{p:Prop}(h:p:=by decide):=h
def kn:=@List.getElem?_eq_getElem
def lb:=@List.getElem_mem
def sg:=@List.getD_eq_getElem?_getD
def so:=@List.take_succ_eq_append_getElem
def sN:=@List.mem_singleton
def td:=@Option.some.injEq
def vc:=@Bool.and_eq_true
def vj:=@Ne.symm
def wK:=@decide_eq_true_eq
def wL:=@List.mem_range
def wN:=@if_neg
def wS:=@if_pos
def xx:=@List.append_nil
def za:=@Nat.lt_or_ge
def zA:=@Bool.false_eq_true
def zD:=@List.length_map
def zG:=@Prod.mk.injEq
def zH:=@List.take_length
def zR:=@List.length_append
def zU:=@List.range_succ
def CS:=@Array.getElem?_eq_some_iff
def DL:=@List.map_append
def FL:=@Nat.le_trans
def KD:=@List.pairwise_cons
def KE:=@Option.some.inj
def LB:=@List.mem_filter
def LF:=@List.all_eq_true
def LK:=@if_false
def Rp:=@List.length_filter_le
def HV:=@Array.all_eq_true_iff_forall_mem
def Ds:=@List.length_cons
def CR:=@List.mem_map
def Cv:=@List.mem_cons
def E2:=@List.mem_flatMap
def AK:=@Nat.le_refl
def Dv:=@List.length_nil
def Ik:=@Array.getElem?_setIfInBounds_self_of_lt
def E4:=@List.mem_append
def Fi:=@List.getElem?_append_right
def Hk:=@List.mem_iff_getElem?
def ET:=@List.foldl_append
def FG:=@List.mem_iff_getElem
def Fh:=@Option.map_eq_some_iff
def HN:=@List.exists_mem_of_ne_nil
def ES:=@List.any_eq_true
def It:=@Array.getElem?_setIfInBounds_ne
def ZC:=@if_true
def Hj:=@List.filter_eq_nil_iff
def FE:=@of_decide_eq_true
def DW:=@beq_iff_eq
def Fp:=@List.getElem?_set_ne
def IK:=@List.getElem?_eq_some_iff
def I1:=@Option.bind_eq_some_iff
def Fe:=@List.flatMap_append
def Zy:=@Iff.rfl
def IL:=@List.take_of_length_le
def FV:=@Int.toNat_natCast
def Ff:=@List.filter_congr
def Ie:=@Array.getElem?_eq_getElem
def HL:=@Nat.lt_of_lt_of_le
def II:=@List.length_singleton
def Hi:=@List.getElem?_map
def HX:=@List.length_take
def K5:=@List.drop_eq_getElem_cons
def IQ:=@Nat.mul_le_mul_right
def JC:=@List.length_pos_iff
def K3:=@Classical.byContradiction
def HW:=@List.foldl_cons
def IG:=@List.append_assoc
def J8:=@Array.getElem?_modify
def IE:=@Option.getD_some
def K2:=@decide_eq_false_iff_not
def Ib:=@List.any_eq_false
def FJ:=@Int.le_refl
def KX:=@List.getElem?_append_left
def KC:=@List.getElem?_set_self
def IJ:=@Bool.eq_iff_iff
def KV:=@Array.size_setIfInBounds
def K9:=@Array.mem_of_getElem?
def K7:=@List.singleton_append
def Ji:=@List.take_append_drop
def IB:=@List.drop_zero
def J4:=@List.filter_filter
def IP:=@Option.map_some
def Iq:=@Nat.le_add_right
def Jg:=@List.ne_nil_of_mem
def KQ:=@Nat.pow_le_pow_right
def IN:=@List.all_cons
def Is:=@List.foldl_nil
def IC:=@Nat.zero_add
def K1:=@List.drop_length
def L3:=@Bool.or_eq_false_iff
def Lg:=@List.range_eq_range'
def L2:=@List.length_range
def afJ:=@List.map_congr_left
def MN:=@Nat.testBit_two_pow_mul_add
def Kv:=@Array.getElem?_map
def Ks:=@Nat.eq_zero_or_pos
def KU:=@List.length_set
def Kr:=@Bool.not_eq_true'
def Ko:=@List.ext_getElem?
def Lb:=@List.mem_cons_of_mem
def MM:=@List.length_eq_zero_iff
def KS:=@List.nodup_nil
def La:=@List.forIn_toArray
def Jw:=@Nat.mul_comm
def Kn:=@List.forIn_cons
def Mr:=@Array.getElem?_append_right
def Jq:=@Nat.zero_le
def LY:=@List.not_mem_nil
def Mq:=@List.mem_or_eq_of_mem_set
def ML:=@Bool.true_eq_false
def MK:=@List.filter_append
def MJ:=@List.mem_cons_self
def JP:=@Nat.mod_lt
def MI:=@decide_eq_true_iff
def Ml:=@List.flatMap_singleton
def LR:=@List.forIn_nil
def MH:=@List.nodup_append
def Mk:=@List.getElem?_eq_none
def Mj:=@List.getElem?_toArray
def MG:=@List.getElem_map
def ahD:=@List.nodup_range
def LO:=@Bool.or_false
def LN:=@Bool.true_and
def LM:=@List.map_cons
def P1:=@List.mem_of_mem_take
def Kj:=@Nat.add_mul
def LL:=@Int.le_trans
def LH:=@List.map_set
def LG:=@Nat.add_comm
def Mi:=@Array.ext_getElem?
def Q4:=@Array.getElem?_append_left
def MF:=@Int.mul_le_mul
def Mh:=@List.flatMap_cons
def Mg:=@List.idxOf_append
def OY:=@Option.isSome_iff_exists
def Mf:=@List.ext_getElem
def OP:=@List.getElem?_cons_succ
def Me:=@List.perm_middle
def Mc:=@List.take_append
def M8:=@Int.add_zero
def Mb:=@Bool.or_eq_true
def Ma:=@List.all_append
def ON:=@Array.getElem?_toList
abbrev Ke:=Option (List Int × Int)
abbrev JD:=List (List Int × Int)
abbrev M9:=Nat->TypeId->Bool
abbrev Iu:=List (Int × Int)
abbrev Wz:=List (List Int)
abbrev Da:=Array Goroutine
abbrev FP:=Option Value
abbrev E7:=Array Value
abbrev FD:=World->Prop
abbrev KP:=Array Event
abbrev Cx:=Array Oper
abbrev Dm:=Option Nat
abbrev EI:=List Value
abbrev E8:=List Frame
abbrev Io:=Option Tmp
abbrev ZA:=Nat->Prop
abbrev AJ:=List Item
abbrev YB:=Goroutine
abbrev RQ:=List Int
abbrev ZB:=List Nat
abbrev Ct:=Nat->Nat
abbrev HK:=Int->Int
abbrev FB:=CallKind
abbrev Rg:=Program
abbrev I8:=Operand
structure az where
 cell:Nat->Nat->FP
 sh:Nat->Option (TypeId × Nat)
inductive Own where
 |obj (o:Obj)
 |tail (n:Nat)
 |part (f:Nat->FP)
abbrev au:=Nat->Option Own
def Own.oa:Own->Own->Prop
 |.obj _,_=>True
 |.tail n,.tail m=>n<=m
 |.part f,.part g=>∀i,g i≠none->f i≠none
 |_,_=>False
theorem Own.oa.refl(x:Own):x.oa x:=by cases x<;>simp[Own.oa]
theorem Own.oa.trans{x y z:Own}(h:x.oa y)(a:y.oa z):x.oa z:=by cases x<;>cases y<;>cases z<;>simp_all [Own.oa]<;>omega
def au.set(O:au)(b:Nat)(x:Own):au:=λc=>if c=b then some x else O c
def az.jP(k:az)(b:Nat)(s:TypeId × Nat):az:={k with sh:=λc=>if c=b then some s else k.sh c}
def az.put(k:az)(b i:Nat)(v:Value):az:={k with cell:=λc j=>if c=b/\j=i then some v else k.cell c j}
structure az.Le(k k':az):Prop where
 cell:∀b i v,k.cell b i=some v->k'.cell b i=some v
 sh:∀b s,k.sh b=some s->k'.sh b=some s
theorem az.Le.refl(k:az):k.Le k:=⟨am,am⟩
theorem az.Le.trans{a b c:az}(h:a.Le b)(d:b.Le c):a.Le c:=⟨λ_ _ _ x=>d.cell _ _ _ (h.cell _ _ _ x),λ_ _ x=>d.sh _ _ (h.sh _ _ x)⟩
def bS(O:au)(b i:Nat):Prop:=(∃o,O b=some (.obj o))\/(∃n,O b=some (.tail n)/\n<=i)\/∃f,O b=some (.part f)/\f i≠none
def Apart(k:az)(O:au):Prop:=∀b i v,k.cell b i=some v -> ¬bS O b i
structure Sat(k:az)(O:au)(w:World):Prop where
 apart:Apart k O
 cell:∀b i v,k.cell b i=some v->w.cell? ⟨b,i,none⟩=some v
 sh:∀b s,k.sh b=some s->w.shape? b=some s
 obj:∀b o,O b=some (.obj o)->w.heap[b]?=some o
 tail:∀b n,O b=some (.tail n)->∃c e,w.heap[b]?=some (.cells c e (0,0))/\k.sh b=some (e,c.size)
 part:∀b f,O b=some (.part f)->∃c e,w.heap[b]?=some (.cells c e (0,0))/\k.sh b=some (e,c.size)/\∀i v,f i=some v->c[i]?=some v
def mZ:Obj->Bool
 |.cells ..=>true
 |_=>false
def tp:Mark->Bool
 |.noRoom=>true
 |.extern _=>true
 |_=>false
def pG:Mark->Bool
 |.acquire _=>true
 |.releaseMerge _=>true
 |m=>tp m
def nY(k:az)(O:au)(size:Nat)(e:Event):Prop:=
 match e.loc with
 |.cell a=>bS O a.block a.off\/size<=a.block\/(e.write=false/\∃v,k.cell a.block a.off=some v)
 |.obj r=>(∃o,O r=some (.obj o))\/size<=r
 |.mark m=>pG m=true
 |_=>False
def nF(B:Nat)(e:Event):Prop:=
 match e.loc with
 |.cell a=>a.block<B
 |.obj r=>r<B
 |.mark (.acquire a)=>a.block<B
 |.mark (.releaseMerge a)=>a.block<B
 |_=>True
def nF.mono{B a:Nat}{e:Event}(h:nF B e)(b:B<=a):nF a e:=by
 unfold nF at *
 grind
def sE(o o':Os):Prop:=∃d:Nat,o'={o with wall:=o.wall+d,mono:=o.mono+d}
theorem sE.refl(o:Os):sE o o:=⟨0,rfl⟩
theorem sE.trans{a b c:Os}(h:sE a b)(f:sE b c):sE a c:=by obtain⟨d,rfl⟩:=h;obtain⟨e,rfl⟩:=f;exact⟨d+e,am⟩
structure vP(W w:World):Prop where
 os:sE W.os w.os
 output:w.output=W.output
 size:W.heap.size<=w.heap.size
 block:∀b,b<W.heap.size->w.heap[b]?=W.heap[b]?
theorem vP.refl(W:World):vP W W:=⟨.refl _,rfl,AK _,am⟩
def vP.step{W w w':World}(h:vP W w)(d:sE w.os w'.os)(a:w'.output=w.output)(e:w.heap.size<=w'.heap.size)(hb:∀b,b<W.heap.size->w'.heap[b]?=w.heap[b]?):vP W w':=⟨h.os.trans d,a.trans h.output,FL h.size e,λb c=>(hb b c).trans (h.block b c)⟩
structure Eff(k:az)(O:au)(w:World)(k':az)(O':au)(w':World)(es:List Event):Prop where
 le:k.Le k'
 size:w.heap.size<=w'.heap.size
 keep:∀b,b<w.heap.size->O b=none->w'.heap[b]?=w.heap[b]?
 tail:∀b n,b<w.heap.size->O b=some (.tail n)->∀c e,w.heap[b]?=some (.cells c e (0,0)) ->
  ∃c',w'.heap[b]?=some (.cells c' e (0,0))/\c'.size=c.size/\∀i,i<n->c'[i]?=c[i]?
 part:∀b f,b<w.heap.size->O b=some (.part f)->∀c e,w.heap[b]?=some (.cells c e (0,0)) ->
  ∃c',w'.heap[b]?=some (.cells c' e (0,0))/\c'.size=c.size/\∀i,f i=none->c'[i]?=c[i]?
 shape:∀b,b<w.heap.size->w'.shape? b=w.shape? b
 own:∀b x,O' b=some x->(∃y,O b=some y/\y.oa x)\/w.heap.size<=b
 cell:∀b i v,k'.cell b i=some v->k.cell b i=some v\/bS O b i\/w.heap.size<=b
 sh:∀b s,k'.sh b=some s->k.sh b=some s\/(∃y,O b=some y)\/w.heap.size<=b
 evs:∀e∈es,nY k O w.heap.size e
 tape:w'.tape=w.tape
 output:w'.output=w.output
 os:w'.os=w.os
 low:∀e∈es,nF w'.heap.size e
 tok:∀b f,O b=some (.part f)->∃f',O' b=some (.part f')
def Eff.Lu{k:az}{O:au}{w:World}{k':az}{O':au}{w':World}{es:List Event}(h:Eff k O w k' O' w' es)(b i:Nat)(a:bS O' b i):
 bS O b i\/w.heap.size<=b:=by
 rcases a with⟨o,a⟩|⟨n,a,e⟩|⟨f,a,e⟩
 . rcases h.own b _ a with⟨y,c,hb⟩|j
   . cases y with
     |obj d=>exact .inl (.inl ⟨d,c⟩)
     |tail m=>exact hb.elim
     |part f=>exact hb.elim
   omega
 . rcases h.own b _ a with⟨y,c,hb⟩|j
   . cases y with
     |obj d=>exact .inl (.inl ⟨d,c⟩)
     |tail m=>exact .inl (.inr (.inl ⟨m,c,FL hb e⟩))
     |part f=>exact hb.elim
   omega
 . rcases h.own b _ a with⟨y,c,hb⟩|j
   . cases y with
     |obj d=>exact .inl (.inl ⟨d,c⟩)
     |tail m=>exact hb.elim
     |part g=>exact .inl (.inr (.inr ⟨g,c,hb i e⟩))
   omega
def Sat.G8{k:az}{O:au}{w:World}(h:Sat k O w){b:Nat}{o:Obj}(e:O b=some (.obj o)):b<w.heap.size:=by
 have:=h.obj b o e
 grind
def Sat.AB{k:az}{O:au}{w:World}(h:Sat k O w){b:Nat}{x:Own}(e:O b=some x):b<w.heap.size:=by
 cases x with
 |obj o=>exact h.G8 e
 | tail n=>
   obtain⟨c,t,a,_⟩:=h.tail b n e
   grind
 | part f=>
   obtain⟨c,t,a,_⟩:=h.part b f e
   grind
def Sat.xd{k:az}{O:au}{w:World}(h:Sat k O w){b i:Nat}{v:Value}(e:k.cell b i=some v):b<w.heap.size:=by
 have:=h.cell b i v e;unfold World.cell? at this
 grind
def Sat.Rm{k:az}{O:au}{w:World}(h:Sat k O w){b:Nat}{s:TypeId × Nat}(e:k.sh b=some s):b<w.heap.size:=by
 have:=h.sh b s e;unfold World.shape? at this
 grind
def nY.weaken{k c:az}{O a:au}{n d:Nat}{e:Event}(h:nY c a d e)(p:∀b i,bS a b i->bS O b i\/n<=b)
 (q:n<=d) (j:∀b x,a b=some x->(∃y,O b=some y/\y.oa x)\/n<=b)
 (s:∀b i v,c.cell b i=some v->k.cell b i=some v\/bS O b i\/n<=b):nY k O n e:=by
 unfold nY at h ⊢;split at h
 . grind
 . next r t=>
   rcases h with⟨o,h⟩|h
   . rcases j _ _ h with⟨y,l,g⟩|l
     . cases y with
       |obj u=>grind
       |tail m=>exact g.elim
       |part f=>exact g.elim
     omega
   omega
 . exact h
 omega
theorem Eff.refl(k:az)(O:au)(w:World):Eff k O w k O w []:=⟨.refl k,AK _,am,am,am,am,λ_ _ h=>.inl ⟨_,h,.refl _⟩,am,am,ap,rfl,rfl,rfl,ap,am⟩
theorem Eff.trans{k k1 D O r E w w1 w2 l1 l2}(h:Eff k O w k1 r w1 l1)(d:Eff k1 r w1 D E w2 l2):
 Eff k O w D E w2 (l1++l2) where
 le:=h.le.trans d.le
 size:=FL h.size d.size
 keep:=fun b hb q=>by
  have a:r b=none:=by
   cases e:r b with
   |none=>rfl
   | some x => rcases h.own b x e with⟨y,hy,_⟩|hy
               . grind
               omega
  rw[d.keep b (HL hb h.size) a,h.keep b hb q]
 tail :=λb n hb q c e hc=>by
  obtain⟨c1,a,t,u⟩:=h.tail b n hb q c e hc;have l:=HL hb h.size;cases e1:r b with
  |none=>exact⟨c1,by rw[d.keep b l e1];omega,t,u⟩
  | some x=>
    rcases h.own b x e1 with⟨y,hy,j⟩|hy
    . rw[q]at hy
      cases hy;cases x with
      |obj o=>exact j.elim
      |tail m=>obtain⟨c2,p,B,C⟩:=d.tail b m l e1 c1 e a;exact⟨c2,p,B.trans t,λi A=>(C i (HL A j)).trans (u i A)⟩
      |part f=>exact j.elim
    omega
 part :=λb f hb q c e hc=>by
  obtain⟨c1,a,t,u⟩:=h.part b f hb q c e hc;have l:=HL hb h.size;cases e1:r b with
  |none=>exact⟨c1,by rw[d.keep b l e1];omega,t,u⟩
  | some x=>
    rcases h.own b x e1 with⟨y,hy,j⟩|hy
    . rw[q]at hy
      cases hy;cases x with
      |obj o=>exact j.elim
      |tail m=>exact j.elim
      |part g=>obtain⟨c2,p,B,C⟩:=d.part b g l e1 c1 e a;exact⟨c2,p,B.trans t,λi A=>(C i (K3 λx=>j i x A)).trans (u i A)⟩
    omega
 shape:=λb hb=>(d.shape b (HL hb h.size)).trans (h.shape b hb)
 own:=λb x hx=>by
  rcases d.own b x hx with⟨y,a,F⟩|a
  . rcases h.own b y a with⟨z,p,G⟩|p
    . exact .inl ⟨z,p,G.trans F⟩
    omega
  . exact .inr (FL h.size a)
 cell:=λb i v H=>by
  rcases d.cell b i v H with a|a|a
  . exact h.cell b i v a
  . rcases h.Lu b i a with p|p
    . grind
    omega
  . exact .inr (.inr (FL h.size a))
 sh:=λb s hs=>by
  rcases d.sh b s hs with a|⟨y,a⟩|a
  . exact h.sh b s a
  . rcases h.own b y a with⟨z,p,_⟩|p
    . grind
    omega
  . exact .inr (.inr (FL h.size a))
 evs:=λe he=>by
  rcases E4.1 he with a|a
  . exact h.evs e a
  . exact(d.evs e a).weaken h.Lu h.size h.own h.cell
 tape:=d.tape.trans h.tape
 output:=d.output.trans h.output
 os:=d.os.trans h.os
 low:=λe he=>by
  rcases E4.1 he with a|a
  . exact(h.low e a).mono d.size
  . exact d.low e a
 tok:=λb f hb=>by obtain⟨f1,a⟩:=h.tok b f hb;exact d.tok b f1 a
section prim
variable{k:az}{O:au}{w:World}
theorem kO  a   v   b :(w.setCell a v).shape? b=w.shape? b:=by
 unfold World.shape? World.setCell
 grind
def gZ{a v b i}(h:¬(b=a.block/\i=a.off)):(w.setCell a v).cell? ⟨b,i,none⟩=w.cell? ⟨b,i,none⟩:=by
 unfold World.cell? World.setCell
 grind
def aco{a v c e sy}(h:Sat k O w)(A:a.spot=none)(m:O a.block=some (.obj (.cells c e (0,0)))):
 Sat k (O.set a.block (.obj (.cells (c.setIfInBounds a.off v) e (0,0)))) (w.setCell a v)/\
 Eff k O w k (O.set a.block (.obj (.cells (c.setIfInBounds a.off v) e (0,0)))) (w.setCell a v) [⟨.cell a,true,sy⟩]:=by
 have z:=h.obj _ _ m;have hb:=(CS.1 z).1;have B:(w.setCell a v).heap[a.block]?=some (.cells (c.setIfInBounds a.off v) e (0,0)):=by simp[World.setCell,J8,z,A]
 have l:∀b,b≠a.block->(w.setCell a v).heap[b]?=w.heap[b]?:=λb hb=>by simp[World.setCell,J8,vj hb]
 have p:∀b i,bS (O.set a.block (.obj (.cells (c.setIfInBounds a.off v) e (0,0)))) b i->bS O b i:=λb i t=>by
  by_cases d:b=a.block
  . subst d;exact .inl ⟨_,m⟩
  . simpa[bS,au.set,d]using t
 refine⟨⟨λb i u r t=>h.apart b i u r (p b i t),λb i u r=>?_,λb s C=>by rw[kO];exact h.sh b s C,λb o q=>?_,λb n g=>?_,λb f g=>?_⟩,?_⟩
 . rw[gZ]
   . exact h.cell b i u r
   . rintro⟨rfl,rfl⟩
     exact h.apart _ _ _ r (.inl ⟨_,m⟩)
 . by_cases d:b=a.block
   . subst d
     simp only[au.set,ZC,td,Own.obj.injEq]at q
     grind
   . rw[l b d];exact h.obj b o (by simpa[au.set,d]using q)
 . by_cases d:b=a.block
   . subst d;simp[au.set]at g
   . rw[l b d];exact h.tail b n (by simpa[au.set,d]using g)
 . by_cases d:b=a.block
   . subst d;simp[au.set]at g
   . rw[l b d];exact h.part b f (by simpa[au.set,d]using g)
 . refine⟨.refl k,aq,am,λb n _ g D E y=>?_,λb n _ g D E y=>?_,(by grind [kO]),λb x F=>?_,am,am,?_,rfl,rfl,rfl,?_,λb f hb=>⟨f,by rw[show(O.set a.block _) b=O b from by simp only[au.set];grind];omega⟩⟩
   . grind
   . grind
   . by_cases d:b=a.block
     . subst d;exact .inl ⟨_,m,trivial⟩
     . exact .inl ⟨x,by simpa[au.set,d]using F,.refl x⟩
   . intro G j
     simp only[sN]at j;subst j;exact .inl (.inl ⟨_,m⟩)
   . intro G j
     simp only[sN]at j;subst j;simpa[nF,World.setCell]using hb
def aaJ{a v v0 f sy}(h:Sat k O w)(I:a.spot=none)(A:O a.block=some (.part f))(R:f a.off=some v0):
 Sat k (O.set a.block (.part λi=>if i=a.off then some v else f i)) (w.setCell a v)/\
 Eff k O w k (O.set a.block (.part λi=>if i=a.off then some v else f i)) (w.setCell a v) [⟨.cell a,true,sy⟩]:=by
 obtain⟨c,e,E,F,r⟩:=h.part _ _ A;have J:a.off<c.size:=am;have hb:=(CS.1 E).1;have K:(w.setCell a v).heap[a.block]?=some (.cells (c.setIfInBounds a.off v) e (0,0)):=by simp[World.setCell,J8,E,I]
 have p:∀b,b≠a.block->(w.setCell a v).heap[b]?=w.heap[b]?:=λb hb=>by simp[World.setCell,J8,vj hb]
 have t:bS O a.block a.off:=.inr (.inr ⟨f,A,am⟩);have y:∀i,(if i=a.off then some v else f i)≠none->f i≠none:=am;have G:∀b,b≠a.block->(O.set a.block (.part λi=>if i=a.off then some v else f i)) b=O b:=λb d=>by simp[au.set,d]
 have z:∀b i,bS (O.set a.block (.part λi=>if i=a.off then some v else f i)) b i->bS O b i:=λb i r=>by
  by_cases d:b=a.block
  . subst d
    rcases r with⟨o,q⟩|⟨m,q,_⟩|⟨g,q,L⟩
    . simp[au.set]at q
    . simp[au.set]at q
    . simp only[au.set,ZC,td,Own.part.injEq]at q
      subst q;exact .inr (.inr ⟨f,A,y i L⟩)
  . simpa[bS,au.set,d]using r
 refine⟨⟨λb i u B r=>h.apart b i u B (z b i r),λb i u B=>?_,λb s F=>by rw[kO];exact h.sh b s F,λb o C=>?_,λb n l=>?_,λb g l=>?_⟩,?_⟩
 . rw[gZ]
   . exact h.cell b i u B
   . rintro⟨rfl,rfl⟩
     exact h.apart _ _ _ B t
 . by_cases d:b=a.block
   . subst d;simp[au.set]at C
   . rw[p b d];exact h.obj b o am
 . by_cases d:b=a.block
   . grind
   . rw[p b d];exact h.tail b n am
 . by_cases d:b=a.block
   . subst d
     simp only[au.set,ZC,td,Own.part.injEq]at l
     grind
   . rw[p b d];exact h.part b g am
 . refine⟨.refl k,aq,am,λb n _ l M N D=>?_,λb g _ l M N D=>?_,(by grind [kO]),λb x H=>?_,am,am,?_,rfl,rfl,rfl,?_,λb g hb=>?_⟩
   . grind
   . grind
   . by_cases d:b=a.block
     . subst d
       simp only[au.set,ZC,td]at H;subst H;exact .inl ⟨_,A,λi P=>y i P⟩
     . exact .inl ⟨x,am,.refl x⟩
   . intro Q j
     simp only[sN]at j;subst j;exact .inl t
   . intro Q j
     simp only[sN]at j;subst j;simpa[nF,World.setCell]using hb
   . by_cases d:b=a.block
     . subst d;exact⟨λi=>if i=a.off then some v else f i,by simp only[au.set,ZC]⟩
     grind
def aiL{a v e N sy}(h:Sat k O w)(F:a.spot=none)(t:O a.block=some (.tail a.off))(B:k.sh a.block=some (e,N))(G:a.off<N):
 Sat (k.put a.block a.off v) (O.set a.block (.tail (a.off+1))) (w.setCell a v)/\
 Eff k O w (k.put a.block a.off v) (O.set a.block (.tail (a.off+1))) (w.setCell a v) [⟨.cell a,true,sy⟩]:=by
 obtain⟨c,H,E,q⟩:=h.tail _ _ t;rw[B]at q;simp only[td,zG]at q;obtain⟨rfl,rfl⟩:=q;have hb:=(CS.1 E).1;have y:(w.setCell a v).heap[a.block]?=some (.cells (c.setIfInBounds a.off v) e (0,0)):=by simp[World.setCell,J8,E,F]
 have r:∀b,b≠a.block->(w.setCell a v).heap[b]?=w.heap[b]?:=λb hb=>by simp[World.setCell,J8,vj hb]
 have z:∀b i,bS (O.set a.block (.tail (a.off+1))) b i->bS O b i/\¬(b=a.block/\i=a.off):=λb i j=>by
  by_cases d:b=a.block
  . subst d
    rcases j with⟨o,j⟩|⟨n,j,M⟩|⟨f,j,_⟩
    . simp[au.set]at j
    . simp only[au.set,ZC,td,Own.tail.injEq]at j
      subst j;exact⟨.inr (.inl ⟨_,t,ac⟩),ac⟩
    . simp[au.set]at j
  . exact⟨by simpa[bS,au.set,d]using j,ac⟩
 have C:k.cell a.block a.off=none:=by
  cases e:k.cell a.block a.off with
  |none=>rfl
  |some u=>exact(h.apart _ _ _ e (.inr (.inl ⟨_,t,AK _⟩))).elim
 refine⟨⟨λb i u p j=>?_,λb i u p=>?_,λb s B=>by rw[kO];exact h.sh b s B,λb o A=>?_,λb n l=>?_,λb f l=>?_⟩,?_⟩
 . obtain⟨I,J⟩:=z b i j
   refine h.apart b i u ?_ I;simpa[az.put,J]using p
 . by_cases g:b=a.block/\i=a.off
   . obtain⟨rfl,rfl⟩:=g
     simp only[az.put,and_self,ZC,td]at p;subst p;simp[World.cell?,y,G]
   . rw[gZ g]
     exact h.cell b i u (by simpa[az.put,g]using p)
 . by_cases d:b=a.block
   . subst d;simp[au.set]at A
   . rw[r b d];exact h.obj b o (by simpa[au.set,d]using A)
 . by_cases d:b=a.block
   . subst d
     exact⟨_,_,y,by simpa[az.put]using B⟩
   . rw[r b d];exact h.tail b n (by simpa[au.set,d]using l)
 . by_cases d:b=a.block
   . subst d;simp[au.set]at l
   . rw[r b d];exact h.part b f (by simpa[au.set,d]using l)
 . refine⟨⟨λb i u p=>?_,λ_ _ h=>h⟩,aq,am,λb n _ l P H K=>?_,am,(by grind [kO]),λb x D=>?_,λb i u p=>?_,λ_ _ h=>.inl h,?_,rfl,rfl,rfl,?_,λb f hb=>⟨f,by rw[show(O.set a.block _) b=O b from by simp only[au.set];grind];omega⟩⟩
   . simp only[az.put]
     grind
   . grind
   . by_cases d:b=a.block
     . subst d
       simp only[au.set,ZC,td]at D;subst D;exact .inl ⟨_,t,by simp[Own.oa]⟩
     . exact .inl ⟨x,by simpa[au.set,d]using D,.refl x⟩
   . by_cases g:b=a.block/\i=a.off
     . obtain⟨rfl,rfl⟩:=g
       exact .inr (.inl (.inr (.inl ⟨_,t,AK _⟩)))
     . exact .inl (by simpa[az.put,g]using p)
   . intro L m
     simp only[sN]at m;subst m;exact .inl (.inr (.inl ⟨_,t,AK _⟩))
   . intro L m
     simp only[sN]at m;subst m;simpa[nF,World.setCell]using hb
def az.made(k:az)(r:Nat):Obj->az
 |.cells c e _=>k.jP r (e,c.size)
 |_=>k
def Nu(k:az)(O:au)(r:Nat):Prop:=O r=none/\(∀i,k.cell r i=none)/\k.sh r=none
def CV(h:Sat k O w):Nu k O w.heap.size:=by
 refine⟨?_,λi=>?_,?_⟩
 . cases e:O w.heap.size with
   |none=>rfl
   |some x=>have:=h.AB e;omega
 . cases e:k.cell w.heap.size i with
   |none=>rfl
   |some x=>have:=h.xd e;omega
 . cases e:k.sh w.heap.size with
   |none=>rfl
   |some x=>have:=h.Rm e;omega
def Wq{o}(h:Sat k O w)(y:∀c e fz,o=.cells c e fz->fz=(0,0)):
 Sat (k.made w.heap.size o) (O.set w.heap.size (.obj o)) {w with heap:=w.heap.push o}/\
 Eff k O w (k.made w.heap.size o) (O.set w.heap.size (.obj o)) {w with heap:=w.heap.push o} []:=by
 obtain⟨f1,F,z⟩:=CV h;have η:∀b,b<w.heap.size->(w.heap.push o)[b]?=w.heap[b]?:=am
 have p:(w.heap.push o)[w.heap.size]?=some o:=ap
 have a:∀b,b<w.heap.size->World.shape? {w with heap:=w.heap.push o} b=w.shape? b:=λb hb=>by simp only[World.shape?,η b hb]
 have g:(k.made w.heap.size o).cell=k.cell:=by cases o<;>rfl
 refine⟨⟨λb i u l A=>?_,λb i u l=>?_,λb s m=>?_,λb v q=>?_,λb n j=>?_,λb f j=>?_⟩,?_⟩
 . rw[g]at l
   have hb:=h.xd l;have t:b≠w.heap.size:=ac
   exact h.apart b i u l (by simpa[bS,au.set,t]using A)
 . rw[g]at l
   have hb:=h.xd l;have:=h.cell b i u l;simpa only[World.cell?,η b hb]using this
 . by_cases hb:b=w.heap.size
   . subst hb
     cases o with
     |cells c e fz=>simp only[az.made,az.jP,ZC,td]at m;subst m;simp only[World.shape?,p]
     |_=>simp only[az.made,z]at m;cases m
   . have r:k.sh b=some s:=by
      cases o<;>simp_all [az.made,az.jP]
     rw[a b (h.Rm r)];exact h.sh b s r
 . by_cases hb:b=w.heap.size
   . subst hb
     simp only[au.set,ZC,td,Own.obj.injEq]at q
     grind
   . have d:O b=some (.obj v):=by simpa[au.set,hb]using q
     rw[η b (h.G8 d)];exact h.obj b v d
 . by_cases hb:b=w.heap.size
   . subst hb;simp[au.set]at j
   . have d:O b=some (.tail n):=by simpa[au.set,hb]using j
     obtain⟨c,e,B,C⟩:=h.tail b n d;refine⟨c,e,am,?_⟩
     cases o<;>simp_all [az.made,az.jP]
 . by_cases hb:b=w.heap.size
   . subst hb;simp[au.set]at j
   . have d:O b=some (.part f):=by simpa[au.set,hb]using j
     obtain⟨c,e,B,C,D⟩:=h.part b f d;refine⟨c,e,am,?_,D⟩
     cases o<;>simp_all [az.made,az.jP]
 . refine⟨⟨am,λb s m=>?_⟩,ap,am,am,am,a,λb x E=>?_,am,λb s m=>?_,ap,rfl,rfl,rfl,ap,λb f hb=>⟨f,by rw[show(O.set w.heap.size (.obj o)) b=O b from by simp only[au.set];grind];omega⟩⟩
   . have hb:b≠w.heap.size:=am
     cases o<;>simp_all [az.made,az.jP]
   . by_cases hb:b=w.heap.size
     . omega
     . exact .inl ⟨x,by simpa[au.set,hb]using E,.refl x⟩
   . by_cases hb:b=w.heap.size
     . omega
     . refine .inl ?_
       cases o<;>simp_all [az.made,az.jP]
def toR{r o o'}(h:Sat k O w)(l:O r=some (.obj o))(J:mZ o=false)(K:mZ o'=false):
 Sat k (O.set r (.obj o')) {w with heap:=w.heap.setIfInBounds r o'}/\
 Eff k O w k (O.set r (.obj o')) {w with heap:=w.heap.setIfInBounds r o'} [⟨.obj r,true,o'.isChan⟩]:=by
 have A:=h.obj _ _ l;have B:=(CS.1 A).1;have t:(w.heap.setIfInBounds r o')[r]?=some o':=am
 have j:∀b,b≠r->(w.heap.setIfInBounds r o')[b]?=w.heap[b]?:=am
 have v:∀b,World.shape? {w with heap:=w.heap.setIfInBounds r o'} b=w.shape? b:=λb=>by
  by_cases hb:b=r
  . subst hb
    simp only[World.shape?,t,A];cases o<;>cases o'<;>simp_all [mZ]
  . simp only[World.shape?,j b hb]
 have m:∀b i,bS (O.set r (.obj o')) b i->bS O b i:=λb i y=>by
  by_cases a:b=r
  . subst a;exact .inl ⟨_,l⟩
  . simpa[bS,au.set,a]using y
 refine⟨⟨λb i u q y=>h.apart b i u q (m b i y),λb i u q=>?_,λb s C=>by rw[v];exact h.sh b s C,λb x p=>?_,λb n d=>?_,λb f d=>?_⟩,?_⟩
 . have hb:b≠r:=λe=>by subst e;exact h.apart _ _ _ q (.inl ⟨_,l⟩)
   have:=h.cell b i u q;simpa only[World.cell?,j b hb]using this
 . by_cases a:b=r
   . subst a
     simp only[au.set,ZC,td,Own.obj.injEq]at p
     grind
   . show(w.heap.setIfInBounds r o')[b]?=_
     rw[j b a];exact h.obj b x (by simpa[au.set,a]using p)
 . by_cases a:b=r
   . subst a;simp[au.set]at d
   . obtain⟨c,e,D,E⟩:=h.tail b n (by simpa[au.set,a]using d)
     grind
 . by_cases a:b=r
   . subst a;simp[au.set]at d
   . obtain⟨c,e,D,E⟩:=h.part b f (by simpa[au.set,a]using d)
     grind
 . refine⟨.refl k,ap,am,λb n _ d F G z=>?_,λb n _ d F G z=>?_,am,λb x H=>?_,am,am,?_,rfl,rfl,rfl,?_,λb f hb=>⟨f,by rw[show(O.set r _) b=O b from by simp only[au.set];grind];omega⟩⟩
   . grind
   . grind
   . by_cases a:b=r
     . subst a;exact .inl ⟨_,l,trivial⟩
     . exact .inl ⟨x,by simpa[au.set,a]using H,.refl x⟩
   . intro I g
     simp only[sN]at g;subst g;exact .inl ⟨_,l⟩
   . intro I g
     simp only[sN]at g;subst g;simpa[nF]using B
def ab4{n}(h:Sat k O w):Sat k O {w with drawn:=n}/\Eff k O w k O {w with drawn:=n} []:=⟨⟨h.apart,h.cell,h.sh,h.obj,h.tail,h.part⟩,⟨.refl k,AK _,am,am,am,λ_ _=>rfl,λ_ _ h=>.inl ⟨_,h,.refl _⟩,am,am,ap,rfl,rfl,rfl,ap,am⟩⟩
def CX{l}(a:∀e∈l,nY k O w.heap.size e)(b:∀e∈l,nF w.heap.size e):Eff k O w k O w l:=⟨.refl k,AK _,am,am,am,am,λ_ _ h=>.inl ⟨_,h,.refl _⟩,am,am,a,rfl,rfl,rfl,b,am⟩
end prim
def Reads(k:az)(O:au)(a:Addr)(v:Value):Prop:=a.spot=none/\(k.cell a.block a.off=some v\/∃c e fz,O a.block=some (.obj (.cells c e fz))/\c[a.off]?=some v)
def Nv(k:az)(O:au)(r:Nat)(s:Option (TypeId × Nat)):Prop:=(∃x,s=some x/\k.sh r=some x)\/(∃c e fz,O r=some (.obj (.cells c e fz))/\s=some (e,c.size))\/(∃o,O r=some (.obj o)/\mZ o=false/\s=none)
def flat:Value->Bool
 |.agg _=>false
 |.tuple _=>false
 |_=>true
def Ro:Mode->Bool
 |.plain=>true
 |.atomic=>true
def Yx:Obj->Bool
 |.cells _ _ fz=>fz==(0,0)
 |_=>true
def jm(P:Rg){α}:Sem α->az->au->(α->az->au->Prop)->(Value->az->au->Prop)->Prop
 |.pure a,k,O,K,_=>K a k O
 |.load m a f,k,O,K,b=>Ro m=true/\∃v,Reads k O a v/\jm P (f v) k O K b
 | .store m a v f,k,O,K,b=>Ro m=true/\flat v=true/\a.spot=none/\
    ((∃c e,O a.block=some (.obj (.cells c e (0,0)))/\a.off<c.size/\jm P f k (O.set a.block (.obj (.cells (c.setIfInBounds a.off v) e (0,0)))) K b)\/
     (∃e N,O a.block=some (.tail a.off)/\k.sh a.block=some (e,N)/\a.off<N/\(k.cell a.block a.off=none->jm P f (k.put a.block a.off v) (O.set a.block (.tail (a.off+1))) K b))\/
     (∃d h,O a.block=some (.part d)/\d a.off=some h/\jm P f k (O.set a.block (.part λi=>if i=a.off then some v else d i)) K b))
 |.new o f,k,O,K,b=>Yx o=true/\∀r,Nu k O r->jm P (f r) (k.made r o) (O.set r (.obj o)) K b
 |.shape r f,k,O,K,b=>∃s,Nv k O r s/\jm P (f s) k O K b
 |.freeze _ _ _,_,_,_,_=>False
 |.frozen a f,k,O,K,b=>((∃c e,O a.block=some (.obj (.cells c e (0,0))))\/∃n,O a.block=some (.tail n))/\jm P (f false) k O K b
 |.getObj r f,k,O,K,b=>∃o,O r=some (.obj o)/\mZ o=false/\jm P (f o) k O K b
 |.setObj r o f,k,O,K,b=>(∃g,O r=some (.obj g)/\mZ g=false)/\mZ o=false/\jm P f k (O.set r (.obj o)) K b
 |.choose q f,k,O,K,b=>∀t,jm P (f (if q.forced then 0 else q.cut t)) k O K b
 |.sys _ _,_,_,_,_=>False
 |.program f,k,O,K,b=>jm P (f P) k O K b
 |.mark m f,k,O,K,b=>tp m=true/\jm P f k O K b
 |.halt (.panic v),k,O,_,b=>b v k O
 |.halt _,_,_,_,_=>False
def rwE{k O w a v}(h:Sat k O w)(d:Reads k O a v):w.cell? a=some v:=by
 obtain⟨f,d⟩:=d;obtain⟨b,i,s⟩:=a;subst f;rcases d with d|⟨c,e,fz,g,j⟩
 . exact h.cell _ _ _ d
 . have:=h.obj _ _ g
   simp[World.cell?,this,j]
def acW{k O w r s}(h:Sat k O w)(b:Nv k O r s):w.shape? r=s:=by
 rcases b with⟨x,rfl,d⟩|⟨c,e,fz,a,rfl⟩|⟨o,a,f,rfl⟩
 . exact h.sh _ _ d
 . simp[World.shape?,h.obj _ _ a]
 . rw[World.shape?,h.obj _ _ a]
   cases o<;>simp_all [mZ]
def Comes{α}(K:α->az->au->Prop)(Kp:Value->az->au->Prop)(k':az)(O':au)(w':World)(r:Result α):Prop:=(∃a,r=.ok a w'/\K a k' O')\/(∃v,r=.halt (.panic v) w'/\Kp v k' O')
def AE{P α K Kp}(s:Sem α):∀{k O w}  es ,
 jm P s k O K Kp->Sat k O w->∃k' O' w' l,Eff k O w k' O' w' l/\Sat k' O' w'/\(s.runT P w es).2.toList=es.toList++l/\Comes K Kp k' O' w' (s.runT P w es).1:=by
 induction s with
 |pure a=>intro k O w es h b;exact⟨k,O,w,[],.refl ..,b,aq,.inl ⟨a,rfl,h⟩⟩
 | load m a f g=>
   intro k O w es h b;obtain⟨_,v,B,h⟩:=h;have D:=rwE b B;obtain⟨k',O',w',l,i,j,t,y⟩:=g v (es.push ⟨.cell a,false,m==.atomic⟩) h b;refine⟨k',O',w',⟨.cell a,false,m==.atomic⟩::l,?_,j,?_,?_⟩
   . refine Eff.trans (CX ?_ ?_) i (l1:=[_])
     . intro e p
       simp only[sN]at p;subst p;rcases B.2 with B|⟨c,e,fz,d,_⟩
       . exact .inr (.inr ⟨rfl,v,B⟩)
       . exact .inl (.inl ⟨_,d⟩)
     . intro e p
       simp only[sN]at p;subst p;rcases B.2 with B|⟨c,e,fz,d,_⟩
       . exact b.xd B
       . exact b.G8 d
   . simp only[Sem.runT,D];grind
   . simp only[Sem.runT,D];omega
 | store m a v f g=>
   intro k O w es h b;obtain⟨_,M,E,h⟩:=h
   have I:∀c e,w.heap[a.block]?=some (.cells c e (0,0))->a.off<c.size ->
    (Sem.store m a v f).runT P w es=f.runT P (w.setCell a v) (es.push ⟨.cell a,true,m==.atomic⟩):=by
    intro c e C z;have D:w.cell? a=some c[a.off]:=by simp[World.cell?,C,E,z]
    have Q:w.frozen? a=false:=by simp[World.frozen?,C]
    cases v<;>first|exact Bool.noConfusion M|(rw[Sem.runT,D]<;>first|(simp only[Q];rfl)|(intro _ R;cases R))
   rcases h with⟨c,e,d,z,h⟩|⟨e,N,d,F,z,h⟩|⟨T,U,d,Q,h⟩
   . obtain⟨A,G⟩:=aco (v:=v) (sy:=m==.atomic) b E d
     obtain⟨k',O',w',l,i,j,t,y⟩:=g (es.push ⟨.cell a,true,m==.atomic⟩) h A;have B:=I c e (b.obj _ _ d) z
     grind [Eff.trans]
   . have h:=h (by
      cases e:k.cell a.block a.off with
      |none=>rfl
      |some u=>exact(b.apart _ _ _ e (.inr (.inl ⟨_,d,AK _⟩))).elim)
     obtain⟨A,G⟩:=aiL (v:=v) (sy:=m==.atomic) b E d F z;obtain⟨k',O',w',l,i,j,t,y⟩:=g (es.push ⟨.cell a,true,m==.atomic⟩) h A;obtain⟨c,V,C,S⟩:=b.tail _ _ d
     grind [Option.some.injEq,Prod.mk.injEq,Eff.trans]
   . obtain⟨A,G⟩:=aaJ (v:=v) (sy:=m==.atomic) b E d Q
     obtain⟨k',O',w',l,i,j,t,y⟩:=g (es.push ⟨.cell a,true,m==.atomic⟩) h A;obtain⟨c,e,C,_,D⟩:=b.part _ _ d
     grind [Array.getElem?_eq_some_iff,Eff.trans]
 | new o f g=>
   intro k O w es h b;obtain⟨J,h⟩:=h;have h:=h w.heap.size (CV b);obtain⟨A,G⟩:=Wq (o:=o) b (λ_ _ _ p=>by subst p;simpa[Yx]using J);obtain⟨k',O',w',l,i,j,t,y⟩:=g w.heap.size es h A;exact⟨k',O',w',l,Eff.trans G i,j,by simp only[Sem.runT];omega,by simp only[Sem.runT];omega⟩
 |shape r f g=>intro k O w es h b;obtain⟨s,F,h⟩:=h;have:=acW b F;obtain⟨k',O',w',l,i,j,t,y⟩:=g s es h b;exact⟨k',O',w',l,i,j,by simp only[Sem.runT,this];omega,by simp only[Sem.runT,this];omega⟩
 |freeze a n f g=>intro k O w es h b;exact h.elim
 | frozen a f g=>
   intro k O w es h b;obtain⟨d,h⟩:=h
   have:w.frozen? a=false:=by
    rcases d with⟨c,e,d⟩|⟨n,d⟩
    . simp[World.frozen?,b.obj _ _ d]
    . obtain⟨c,e,C,_⟩:=b.tail _ _ d
      simp[World.frozen?,C]
   obtain⟨k',O',w',l,i,j,t,y⟩:=g false es h b;exact⟨k',O',w',l,i,j,by simp only[Sem.runT,this];omega,by simp only[Sem.runT,this];omega⟩
 | getObj r f g=>
   intro k O w es h b;obtain⟨o,d,D,h⟩:=h;have C:=b.obj _ _ d;obtain⟨k',O',w',l,i,j,t,y⟩:=g o (es.push ⟨.obj r,false,o.isChan⟩) h b;have B:(Sem.getObj r f).runT P w es=(f o).runT P w (es.push ⟨.obj r,false,o.isChan⟩):=by rw[Sem.runT,C];cases o<;>first|rfl|cases D
   refine⟨k',O',w',⟨.obj r,false,o.isChan⟩::l,Eff.trans (CX ?_ ?_) i (l1:=[_]),j,am,am⟩
   . intro e p
     simp only[sN]at p;subst p;exact .inl ⟨_,d⟩
   . intro e p
     simp only[sN]at p;subst p;exact b.G8 d
 | setObj r o f g=>
   intro k O w es h b;obtain⟨⟨o',d,L⟩,D,h⟩:=h;have C:=b.obj _ _ d;obtain⟨A,G⟩:=toR (o':=o) b d L D;obtain⟨k',O',w',l,i,j,t,y⟩:=g (es.push ⟨.obj r,true,o.isChan⟩) h A;have B:(Sem.setObj r o f).runT P w es=f.runT P {w with heap:=w.heap.setIfInBounds r o} (es.push ⟨.obj r,true,o.isChan⟩):=by rw[Sem.runT,C];cases o'<;>first|rfl|cases L
   grind [Eff.trans]
 | choose q f g=>
   intro k O w es h b;have h:=h (w.tape w.drawn q);by_cases H:q.forced=true
   . simp only[H,ZC]at h
     obtain⟨k',O',w',l,i,j,t,y⟩:=g 0 es h b;exact⟨k',O',w',l,i,j,by simp only[Sem.runT,H,ZC];omega,by simp only[Sem.runT,H,ZC];omega⟩
   . simp only[H]at h
     obtain⟨A,G⟩:=ab4 (n:=w.drawn+1) b;obtain⟨k',O',w',l,i,j,t,y⟩:=g _ es h A;refine⟨k',O',w',l,Eff.trans G i,j,?_,?_⟩
     . simp only[Sem.runT,H];grind
     . simp only[Sem.runT,H];grind
 |sys c f g=>intro k O w es h b;exact h.elim
 |program f g=>intro k O w es h b;obtain⟨k',O',w',l,i,j,t,y⟩:=g P es h b;exact⟨k',O',w',l,i,j,by simp only[Sem.runT];omega,by simp only[Sem.runT];omega⟩
 | mark m f g=>
   intro k O w es h b;obtain⟨W,h⟩:=h;obtain⟨k',O',w',l,i,j,t,y⟩:=g (es.push ⟨.mark m,false,true⟩) h b;refine⟨k',O',w',⟨.mark m,false,true⟩::l,Eff.trans (CX ?_ ?_) i (l1:=[_]),j,by simp only[Sem.runT];grind,by simp only[Sem.runT];omega⟩
   . intro e p
     simp only[sN]at p;subst p;show pG m=true;cases m<;>simp_all [tp,pG]
   . intro e p
     simp only[sN]at p;subst p;cases m<;>simp_all [tp,nF]
 | halt x=>
   intro k O w es h b;cases x with
   |panic v=>exact⟨k,O,w,[],.refl ..,b,aq,.inr ⟨v,rfl,h⟩⟩
   |_=>exact h.elim
def ab3{P α β f}{K:β->az->au->Prop}{Kp}(s:Sem α):∀{k O},
 jm P s k O (λa k O=>jm P (f a) k O K Kp) Kp->jm P (s.bind f) k O K Kp:=by
 induction s with
 |pure a=>intro k O h;exact h
 |load m a g b=>intro k O h;obtain⟨d,v,e,i⟩:=h;exact⟨d,v,e,b v i⟩
 | store m a v g b=>
   intro k O h;obtain⟨d,e,i,l⟩:=h;refine⟨d,e,i,?_⟩
   grind
 |new o g b=>intro k O h;exact⟨h.1,λr j=>b r (h.2 r j)⟩
 |shape r g b=>intro k O h;obtain⟨s,d,e⟩:=h;exact⟨s,d,b s e⟩
 |freeze a n g b=>intro k O h;exact h.elim
 |frozen a g b=>intro k O h;exact⟨h.1,b false h.2⟩
 |getObj r g b=>intro k O h;obtain⟨o,d,e,i⟩:=h;exact⟨o,d,e,b o i⟩
 |setObj r o g b=>intro k O h;exact⟨h.1,h.2.1,b h.2.2⟩
 |choose q g b=>intro k O h t;exact b _ (h t)
 |sys c g b=>intro k O h;exact h.elim
 |program g b=>intro k O h;exact b P h
 |mark m g b=>intro k O h;exact⟨h.1,b h.2⟩
 |halt x=>intro k O h;cases x<;>exact h
