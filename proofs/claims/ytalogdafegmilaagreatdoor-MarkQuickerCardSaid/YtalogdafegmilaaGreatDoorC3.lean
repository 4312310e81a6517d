/- Part 3 of the proof. -/
import Derived.Test.YtalogdafegmilaaGreatDoorC2
set_option linter.all false
namespace Go.aN
open Go.Conc
def ag.ul(k:ag)(r:Nat)(c:Array Value)(n:Nat):ag:={k with cell:=λb j=>if b=r/\j<n then c[j]? else k.cell b j}
def ah.del(O:ah)(r:Nat):ah:=λb=>if b=r then none else O b
theorem BS(k:ag)(O:ah)(r:Nat)(hn:∀f,O r≠some (.part f)):kK k O k (O.del r):=λw h=>by
 have hd:∀b x,(O.del r) b=some x->O b=some x:=λb x e=>by
  unfold ah.del at e;split at e
  . cases e
  . exact e
 have hc:∀b i,aP (O.del r) b i->aP O b i:=λb i hh=>by
  rcases hh with⟨o,h1⟩|⟨n,h1,h2⟩|⟨f,h1,h2⟩
  . exact .inl ⟨o,hd _ _ h1⟩
  . exact .inr (.inl ⟨n,hd _ _ h1,h2⟩)
  . exact .inr (.inr ⟨f,hd _ _ h1,h2⟩)
 exact⟨⟨λb i v e hcc=>h.apart b i v e (hc b i hcc),h.cell,h.sh,λb o e=>h.obj b o (hd b _ e),λb n e=>h.tail b n (hd b _ e),λb f e=>h.part b f (hd b _ e)⟩,
  ⟨.refl k,Nat.le_refl _,λ_ _ _=>rfl,λ_ _ _ _ c _ h=>⟨c,h,rfl,λ_ _=>rfl⟩,λ_ _ _ _ c _ h=>⟨c,h,rfl,λ_ _=>rfl⟩,λ_ _=>rfl,λb x e=>.inl ⟨x,hd b x e,.refl x⟩,λ_ _ _ h=>.inl h,λ_ _ h=>.inl h,by simp,rfl,rfl,rfl,by simp,λb f hb=>⟨f,by unfold ah.del;rw[if_neg (λe=>by rw[e]at hb;exact hn f hb)];exact hb⟩⟩⟩
theorem mN{k:ag}{O:ah}{r n:Nat}{c:Array Value}{e:TypeId}(ho:O r=some (.obj (.cells c e (0,0))))(hs:k.sh r=some (e,c.size)):kK k O (k.ul r c n) (O.set r (.tail n)):=λw h=>by
 have hw:=h.obj _ _ ho
 have hno:∀j,k.cell r j=none:=λj=>by
  cases q:k.cell r j with
  |none=>rfl
  |some v=>exact(h.apart _ _ _ q (.inl ⟨_,ho⟩)).elim
 have hle:k.Le (k.ul r c n):=⟨λb i v hv=>by
  have:¬(b=r/\i<n):=λx=>by rw[x.1,hno]at hv;cases hv
  simpa[ag.ul,this]using hv,λ_ _ h=>h⟩
 refine⟨⟨λb i v hv hc=>?_,λb i v hv=>?_,h.sh,λb o hb=>?_,λb m hb=>?_,λb f hb=>?_⟩,⟨hle,Nat.le_refl _,λ_ _ _=>rfl,λ_ _ _ _ c _ h=>⟨c,h,rfl,λ_ _=>rfl⟩,λ_ _ _ _ c _ h=>⟨c,h,rfl,λ_ _=>rfl⟩,λ_ _=>rfl,λb x hx=>?_,λb i v hv=>?_,λ_ _ h=>.inl h,by simp,rfl,rfl,rfl,by simp,λb f hb=>⟨f,by rw[show(O.set r (.tail n)) b=O b from by simp only[ah.set];rw[if_neg (λe=>by rw[e,ho]at hb;cases hb)]];exact hb⟩⟩⟩
 . by_cases hb:b=r
   . subst hb
     rcases hc with⟨o,h1⟩|⟨m,h1,h2⟩|⟨f,h1,h2⟩
     . simp[ah.set]at h1
     rotate_left
     . simp[ah.set]at h1
     . simp only[ah.set,if_true,Option.some.injEq,Own.tail.injEq]at h1
       subst h1;have:¬(i<n):=by omega
       simp only[ag.ul,this,and_false,if_false,hno]at hv;cases hv
   . have hv':k.cell b i=some v:=by simpa[ag.ul,hb]using hv
     exact h.apart b i v hv' (by simpa[aP,ah.set,hb]using hc)
 . by_cases hb:b=r/\i<n
   . obtain⟨rfl,hi⟩:=hb
     simp only[ag.ul,hi,and_self,if_true]at hv;simp[World.cell?,hw,hv]
   . exact h.cell b i v (by simpa only[ag.ul,hb,if_false]using hv)
 . by_cases hbr:b=r
   . subst hbr;simp[ah.set]at hb
   . exact h.obj b o (by simpa[ah.set,hbr]using hb)
 . by_cases hbr:b=r
   . subst hbr;exact⟨c,e,hw,hs⟩
   . exact h.tail b m (by simpa[ah.set,hbr]using hb)
 . by_cases hbr:b=r
   . subst hbr;simp[ah.set]at hb
   . exact h.part b f (by simpa[ah.set,hbr]using hb)
 . by_cases hbr:b=r
   . subst hbr
     simp only[ah.set,if_true,Option.some.injEq]at hx;subst hx;exact .inl ⟨_,ho,trivial⟩
   . exact .inl ⟨x,by simpa[ah.set,hbr]using hx,.refl x⟩
 . by_cases hb:b=r/\i<n
   . obtain⟨rfl,_⟩:=hb
     exact .inr (.inl (.inl ⟨_,ho⟩))
   . exact .inl (by simpa only[ag.ul,hb,if_false]using hv)
theorem ag.Le.put{k:ag}{b i:Nat}{v:Value}(h:k.cell b i=none):k.Le (k.put b i v):=⟨λc j u hu=>by
 have:¬(c=b/\j=i):=λx=>by rw[x.1,x.2,h]at hu;cases hu
 simpa[ag.put,this]using hu,λ_ _ h=>h⟩
theorem ag.Le.made{k:ag}{r:Nat}{o:Obj}(h:k.sh r=none):k.Le (k.made r o):=by
 cases o<;>first|exact .refl k|skip
 exact⟨λ_ _ _ h=>h,λb s hs=>by
  have:b≠r:=λx=>by rw[x,h]at hs;cases hs
  simpa[ag.made,ag.dN,this]using hs⟩
theorem ag.Le.ul{k:ag}{r n:Nat}{c:Array Value}(h:∀j,k.cell r j=none):k.Le (k.ul r c n):=⟨λb i v hv=>by
 have:¬(b=r/\i<n):=λx=>by rw[x.1,h]at hv;cases hv
 simpa[ag.ul,this]using hv,λ_ _ h=>h⟩
def qx(k:ag)(O:ah)(b base:Nat)(l:List AV):Prop:=∀(j:Nat) a,l[j]?=some a->∃v,Reads k O ⟨b,base+j,none⟩ v/\V k v a/\flat v=true
def cE(l:List AV)(off size:Nat)(agg:Bool):Option AV:=if agg then(if off+size<=l.length then some (.agg ((l.drop off).take size))else none)else l[off]?
theorem gJ(b off n:Nat):Addr.add ⟨b,off,none⟩ n=⟨b,off+n,none⟩:=by
 unfold Addr.add;split
 . next h=>subst h;rfl
 . rfl
section
variable{P:Program}(L:iE P){k:ag}{O:ah}{Kp:Value->ag->ah->Prop}
theorem zB{K:Value->ag->ah->Prop}{a:Addr}{v:Value}(h:Reads k O a v)(hK:K v k O):eE P (load a) k O K Kp:=⟨rfl,v,h,hK⟩
theorem iL{K:Array Value->ag->ah->Prop}{b base:Nat}{l:List AV}(hr:qx k O b base l){off:Nat}:
 ∀ (n i:Nat) (acc:Array Value),off+i+n<=l.length->(∀vs:List Value,vs.length=n->(∀(j:Nat) v a,vs[j]?=some v->l[off+i+j]?=some a->V k v a)->(∀v∈vs,flat v=true)->K (acc++vs.toArray) k O) ->
   eE P (loadCellsFrom ⟨b,base+off,none⟩ i n acc) k O K Kp:=by
 intro n;induction n with
 |zero=>intro i acc _ h;exact aj (by simpa using h [] rfl (λj v a h=>by simp at h) (by simp))
 | succ n ih=>
   intro i acc hlen h;have hlt:off+i<l.length:=by omega
   obtain⟨v,h1,h2,h3⟩:=hr (off+i) l[off+i] (by simp[hlt]);unfold loadCellsFrom;rw[gJ];refine af (zB (v:=v) (by rw[Nat.add_assoc];exact h1) ?_);refine ih (i+1) (acc.push v) (by omega) λvs hvs hv hfl=>?_
   have:=h (v::vs) (by simp[hvs]) (λj u a hj ha=>?_) (λu hu=>by
    rcases List.mem_cons.1 hu with rfl|hu
    . exact h3
    . exact hfl u hu)
   . simpa using this
   . cases j with
     | zero=>
       simp at hj ha;subst hj
       have:a=l[off+i]:=by
        have e:l[off+i]?=some l[off+i]:=by simp[hlt]
        rw[e]at ha;exact(Option.some.inj ha).symm
       rw[this];exact h2
     |succ j=>exact hv j u a (by simpa using hj) (by rw[<-ha];congr 1;omega)
theorem sK{K:Value->ag->ah->Prop}{b base off:Nat}{l:List AV}{t:Nat}{i:TI}{a:AV}(hr:qx k O b base l)(ht:L.tt t=some i)(hs:cE l off i.size i.agg=some a)
 (hK:∀v,V k v a->K v k O):eE P (loadVar t ⟨b,base+off,none⟩) k O K Kp:=by
 unfold loadVar;refine af (ow L ht ?_);unfold cE at hs;cases hagg:i.agg
 . simp only[hagg]at hs
   obtain⟨v,h1,h2,_⟩:=hr off a (by simpa using hs);simp only[Bool.false_eq_true,if_false];exact zB h1 (hK v h2)
 . simp only[hagg,if_true]at hs ⊢
   split at hs
   . next hle=>
     simp only[Option.some.injEq]at hs;subst hs;refine af (ck L ht ?_);unfold loadCells;refine af (iL hr _ 0 _ (by omega) λvs hvs hv _=>?_);refine aj (hK _ (.agg _ _ ?_ λj v a hj ha=>?_))
     . simp[hvs];omega
     . refine hv j v a (by simpa using hj) ?_
       rw[List.getElem?_take]at ha;split at ha
       . rw[List.getElem?_drop]at ha;simpa using ha
       . cases ha
   . cases hs
theorem qx.own{b:Nat}{c:Array Value}{e:TypeId}{fz:Nat × Nat}{l:List AV}(ho:O b=some (.obj (.cells c e fz)))(hl:c.size=l.length)(hv:∀(i:Nat) v a,c[i]?=some v->l[i]?=some a->V k v a)(hf:∀(i:Nat) v,c[i]?=some v->flat v=true):qx k O b 0 l:=λj a ha=>by
 have hj:j<c.size:=by rw[hl];exact(List.getElem?_eq_some_iff.1 ha).1
 refine⟨c[j],⟨rfl,.inr ⟨c,e,fz,ho,by simp[hj]⟩⟩,hv j _ a (by simp[hj]) ha,hf j _ (by simp[hj])⟩
theorem qx.known{b base:Nat}{l:List AV}{c:Nat->Value}(h1:∀j,j<l.length->k.cell b (base+j)=some (c j)/\flat (c j)=true)(h2:∀(j:Nat) a,l[j]?=some a->V k (c j) a):qx k O b base l:=λj a ha=>⟨c j,⟨rfl,.inl (h1 j (List.getElem?_eq_some_iff.1 ha).1).1⟩,h2 j a ha,(h1 j (List.getElem?_eq_some_iff.1 ha).1).2⟩
end
def JE(l:List AV)(hole:List Nat)(off size:Nat)(agg:Bool):Option AV:=if agg then(if off+size<=l.length/\hole.all (λh=>decide (h<off\/off+size<=h))=true then some (.agg ((l.drop off).take size))else none)else if hole.contains off=true then none else l[off]?
def nu(i:TI)(σ:aa):AV->Option AV
 |.cp v off=>cE v.cells off i.size i.agg
 |.kp _ l hole off=>JE l hole off i.size i.agg
 |.ref b off=>match σ b with|some (.cells l)=>cE l off i.size i.agg|_=>none
 |_=>none
def AV.flat:AV->Bool
 |.lit v=>aN.flat v
 |.bL=>false
 |.agg _=>false
 |.c9 _=>false
 |_=>true
theorem V.flat{k:ag}{v:Value}{a:AV}(h:V k v a)(hf:a.flat=true):aN.flat v=true:=by cases h<;>first|rfl|exact hf|simp[AV.flat]at hf
theorem V.cells{k:ag}{v:Value}{a:AV}(h:V k v a)(hf:a.cells.all AV.flat=true):v.cells.size=a.cells.length/\(∀(i:Nat) u x,v.cells[i]?=some u->a.cells[i]?=some x->V k u x)/\∀(i:Nat) u,v.cells[i]?=some u->aN.flat u=true:=by
 by_cases hagg:∃l,a=.agg l
 . obtain⟨l,rfl⟩:=hagg
   cases h with
   | agg c l h1 h2=>
     refine⟨h1,h2,λi u hu=>?_⟩
     have hi:i<l.length:=by rw[<-h1];exact(Array.getElem?_eq_some_iff.1 hu).1
     refine(h2 i u l[i] hu (by simp[hi])).flat ?_
     simp only[AV.cells,List.all_eq_true]at hf;exact hf _ (List.getElem_mem hi)
 . have ha:a.cells=[a]:=by cases a<;>first|rfl|exact absurd ⟨_,rfl⟩ hagg
   have hfl:a.flat=true:=by rw[ha]at hf;simpa using hf
   have hvf:=h.flat hfl;have hv:v.cells=#[v]:=by cases v<;>first|rfl|cases hvf
   rw[ha,hv];refine⟨rfl,λi u x hu hx=>?_,λi u hu=>?_⟩
   . cases i with
     |zero=>simp at hu hx;subst hu;subst hx;exact h
     |succ i=>simp at hu
   . cases i with
     |zero=>simp at hu;subst hu;exact hvf
     |succ i=>simp at hu
def aS(l:List AV)(off:Nat)(c:List AV):List AV:=l.take off++c++l.drop (off+c.length)
def pH(i:TI)(σ:aa)(p v:AV):Option aa:=
 match p with
 | .ref b off=>match σ b with
   |some (.cells l)=>if v.cells.length=i.size/\off+i.size<=l.length/\v.cells.all AV.flat=true then some (σ.set b (.cells (aS l off v.cells)))else none
   |_=>none
 |_=>none
section
variable{P:Program}(L:iE P){k:ag}{O:ah}{Kp:Value->ag->ah->Prop}
theorem nJ{K:Unit->ag->ah->Prop}{b off:Nat}{e:TypeId}:∀(vs:List Value) (i:Nat) (c:Array Value) (O:ah),O b=some (.obj (.cells c e (0,0)))->off+i+vs.length<=c.size->(∀v∈vs,flat v=true) ->
 (∀(O':ah) (c':Array Value),O'=O.set b (.obj (.cells c' e (0,0)))->c'.size=c.size->(∀j,c'[j]?=if off+i<=j/\j<off+i+vs.length then vs[j-(off+i)]? else c[j]?)->K () k O') ->
 eE P (storeCells ⟨b,off,none⟩ vs i) k O K Kp:=by
 intro vs;induction vs with
 | nil=>
   intro i c O ho hlen hf h;refine aj (h O c ?_ rfl λj=>?_)
   . funext x
     by_cases hx:x=b
     . subst hx;simp[ah.set,ho]
     . simp[ah.set,hx]
   . have:¬(off+i<=j/\j<off+i+([]:List Value).length):=by simp
     rw[if_neg this]
 | cons v vs ih=>
   intro i c O ho hlen hf h;simp only[List.length_cons]at hlen;unfold storeCells;rw[gJ];refine af (s:=store ⟨b,off+i,none⟩ v) ⟨rfl,hf v (by simp),rfl,.inl ⟨c,e,ho,by simp;omega,?_⟩⟩;refine ih (i+1) (c.setIfInBounds (off+i) v) _ (by simp[ah.set]) (by simp;omega) (λu hu=>hf u (by simp[hu])) λO' c' hO hsz hc=>?_
   refine h O' c' ?_ (by simpa using hsz) λj=>?_
   . rw[hO];funext x;by_cases hx:x=b<;>simp[ah.set,hx]
   . rw [hc j]
     by_cases h1:j=off+i
     . subst h1
       have:¬(off+(i+1)<=off+i/\off+i<off+(i+1)+vs.length):=by omega
       rw[if_neg this,if_pos (by simp)];have hlt:off+i<c.size:=by omega
       simp[hlt]
     . rw[Array.getElem?_setIfInBounds_ne (Ne.symm h1)]
       by_cases h2:off+(i+1)<=j/\j<off+(i+1)+vs.length
       . rw[if_pos h2,if_pos (by simp;omega)]
         have:j-(off+i)=(j-(off+(i+1)))+1:=by omega
         rw[this,List.getElem?_cons_succ]
       . rw[if_neg h2,if_neg (by simp;omega)]
theorem um{l c:List AV}{off:Nat}(h:off+c.length<=l.length)(j:Nat):(aS l off c)[j]?=if off<=j/\j<off+c.length then c[j-off]? else l[j]?:=by
 unfold aS;have hl:(l.take off).length=off:=by simp;omega
 by_cases h1:j<off
 . rw[List.append_assoc,List.getElem?_append_left (by omega),if_neg (by omega),List.getElem?_take,if_pos h1]
 . rw[List.append_assoc,List.getElem?_append_right (by omega),hl]
   by_cases h2:j<off+c.length
   . rw[List.getElem?_append_left (by omega),if_pos (by omega)]
   . rw[List.getElem?_append_right (by omega),if_neg (by omega),List.getElem?_drop]
     congr 1;omega
theorem lN{l c:List AV}{off:Nat}(h:off+c.length<=l.length):(aS l off c).length=l.length:=by unfold aS;simp;omega
theorem yd{K:Unit->ag->ah->Prop}{σ σ':aa}{p a:AV}{v:Value}{ad:Addr}{t:Nat}{i:TI}(hr:Rel k O σ)(hp:V k (.pointer (some ad)) p)(hv:V k v a)(ht:L.tt t=some i)(hs:pH i σ p a=some σ')
 (hK:∀O',Rel k O' σ'->K () k O'):eE P (storeVar t ad v) k O K Kp:=by
 unfold pH at hs;cases p<;>simp only[]at hs<;>try cases hs
 rename_i b off;cases hp;cases hb:σ b with
 |none=>rw[hb]at hs;cases hs
 | some x=>
   rw[hb]at hs;cases x with
   | cells l =>
     simp only[]at hs;split at hs
     . next hcond=>
       obtain⟨h1,h2,h3⟩:=hcond;simp only[Option.some.injEq]at hs;subst hs;obtain⟨y,ho,hy⟩:=hr.1 b _ hb (by simp)
       cases hy with
       | cells c e l g1 g2 g3=>
         obtain⟨q1,q2,q3⟩:=hv.cells h3;unfold storeVar;refine af (ck L ht ?_);have hsz:¬v.cells.size≠i.size:=by rw[q1,h1];simp
         simp only[if_neg hsz];refine af (aj ?_)
         refine nJ v.cells.toList 0 c O ho (by simp only[Array.length_toList];omega) (λu hu=>by obtain⟨j,hj,rfl⟩:=List.mem_iff_getElem.1 hu;exact q3 j _ (by simp at hj;simp[hj])) λO' c' hO hc1 hc2=>?_
         subst hO;have hlen:off+a.cells.length<=l.length:=by omega
         refine hK _ (hr.set (.cells c' e _ (by rw[hc1,lN hlen];exact g1) (λj u x hu hx=>?_) λj u hu=>?_))
         . rw[hc2]at hu
           rw[um hlen]at hx;simp only[Nat.add_zero,Array.length_toList,q1]at hu
           by_cases hj:off<=j/\j<off+a.cells.length
           . rw[if_pos hj]at hu hx
             exact q2 _ u x (by simpa using hu) hx
           . rw[if_neg hj]at hu hx
             exact g2 j u x hu hx
         . rw[hc2]at hu
           split at hu
           . exact q3 _ u (by simpa using hu)
           . exact g3 j u hu
     . cases hs
   |_=>cases hs
theorem zC{σ:aa}{p:AV}{ad:Addr}{i:TI}{a:AV}(hr:Rel k O σ)(hp:V k (.pointer (some ad)) p)(hs:nu i σ p=some a):∃b base off l,ad=⟨b,base+off,none⟩/\qx k O b base l/\cE l off i.size i.agg=some a:=by
 unfold nu at hs;cases p<;>simp only[]at hs<;>try cases hs
 . rename_i v off
   cases hp with
   |cp b base off N E v c _ _ h1 h2=>exact⟨b,base,off,v.cells,rfl,.known h1 h2,hs⟩
 . rename_i b l hole off
   cases hp with
   | kp _ _ N E _ _ c _ _ h1 h2=>
     unfold JE at hs;split at hs
     . next hagg=>
       split at hs
       . next hc=>
         simp only[Option.some.injEq]at hs;subst hs;have hlen:((l.drop off).take i.size).length=i.size:=by simp;omega
         refine⟨b,off,0,(l.drop off).take i.size,by simp,λj a ha=>?_,by simp[cE,hagg,hlen,List.take_take]⟩
         have hj:j<i.size:=by rw[<-hlen];exact(List.getElem?_eq_some_iff.1 ha).1
         have ha':l[off+j]?=some a:=by rw[List.getElem?_take,if_pos hj,List.getElem?_drop]at ha;exact ha
         have hno:off+j∉hole:=λhh=>by have:=List.all_eq_true.1 hc.2 _ hh;simp at this;omega
         obtain⟨e1,e2⟩:=h1 (off+j) (List.getElem?_eq_some_iff.1 ha').1 hno;exact⟨c (off+j),⟨rfl,.inl e1⟩,h2 _ a hno ha',e2⟩
       . cases hs
     . next hagg=>
       split at hs
       . cases hs
       . next hc=>
         have hno:off∉hole:=by simpa using hc
         refine⟨b,off,0,[a],by simp,λj y hy=>?_,by simp[cE,hagg]⟩
         match j with
         |0=>simp at hy;subst hy;obtain⟨e1,e2⟩:=h1 off (List.getElem?_eq_some_iff.1 hs).1 hno;exact⟨c off,⟨rfl,.inl e1⟩,h2 _ _ hno hs,e2⟩
         |j+1=>simp at hy
 . rename_i b off
   cases hp;cases hb:σ b with
   |none=>rw[hb]at hs;cases hs
   | some x=>
     rw[hb]at hs;cases x with
     | cells l=>
       obtain⟨y,ho,hy⟩:=hr.1 b _ hb (by simp)
       cases hy with
       |cells c e l g1 g2 g3=>exact⟨b,0,off,l,by simp,.own ho g1 g2 g3,hs⟩
     |_=>cases hs
end
theorem V.Gq{k:ag}{v:Value}{p:AV}(h:V k v p)(hp:(∃x off,p=.cp x off)\/(∃b off,p=.ref b off)\/∃b l hole off,p=.kp b l hole off):∃ad,v=.pointer (some ad):=by rcases hp with⟨x,off,rfl⟩|⟨b,off,rfl⟩|⟨b,l,hole,off,rfl⟩<;>cases h<;>exact⟨_,rfl⟩
theorem wJ{i:TI}{σ:aa}{p a:AV}(h:nu i σ p=some a):(∃x off,p=.cp x off)\/(∃b off,p=.ref b off)\/∃b l hole off,p=.kp b l hole off:=by cases p<;>first|exact .inl ⟨_,_,rfl⟩|exact .inr (.inl ⟨_,_,rfl⟩)|exact .inr (.inr ⟨_,_,_,_,rfl⟩)|cases h
theorem BT{i:TI}{σ σ':aa}{p a:AV}(h:pH i σ p a=some σ'):(∃x off,p=.cp x off)\/(∃b off,p=.ref b off)\/∃b l hole off,p=.kp b l hole off:=by cases p<;>first|exact .inl ⟨_,_,rfl⟩|exact .inr (.inl ⟨_,_,rfl⟩)|cases h
section
variable{P:Program}(L:iE P){o:Oper}{env:Env}{σ:aa}{K:AV->aa->Prop}{Kp:AV->aa->Prop}
theorem aG.val{s:(Operand->Value)->Sem Value}(he:∀ρ,execOp ρ o=(do pure (.value (<-s ρ))))
 (h:∀k O (ρ:Operand->Value),(∀x∈o.op.operands,V k (ρ x) (ap env x))->Rel k O σ ->
   eE P (s ρ) k O (λv k' O'=>l8 k' O' λk2 O2=>k.Le k2/\∃a σ',V k2 v a/\Rel k2 O2 σ'/\K a σ') (λv k' O'=>k.Le k'/\∃a σ',V k' v a/\Rel k' O' σ'/\Kp a σ')):aG P o env σ K Kp:=λk O ρ hv hr=>by
 rw[he];refine af (lZ _ (h k O ρ hv hr) (λv k' O' hh=>?_) (λv k' O' hh=>hh));exact aj ⟨v,.inl rfl,hh⟩
theorem tR{x:Operand}(ho:o.op=.move x\/o.op=.assign x)(hK:K (ap env x) σ):aG P o env σ K Kp:=λk O ρ hv hr=>by
 have:execOp ρ o=pure (.value (ρ x)):=by rcases ho with ho|ho<;>simp[execOp,ho]
 rw[this];refine aj ⟨ρ x,.inl rfl,.here ⟨.refl k,_,_,hv x ?_,hr,hK⟩⟩
 rcases ho with ho|ho<;>simp[ho,Op.operands]
theorem Dh{c a b:Operand}{x:Bool}(ho:o.op=.pick c a b)(hc:ap env c=.lit (.bool x))(hK:K (if x then ap env a else ap env b) σ):aG P o env σ K Kp:=λk O ρ hv hr=>by
 have h1:=hv c (by simp[ho,Op.operands]);have h2:=hv a (by simp[ho,Op.operands]);have h3:=hv b (by simp[ho,Op.operands]);rw[hc]at h1;generalize hq:ρ c=v at h1;cases h1;have:execOp ρ o=pure (.value (if x then ρ a else ρ b)):=by simp[execOp,ho,hq,asBool]
 rw[this];refine aj ⟨_,.inl rfl,.here ⟨.refl k,_,_,?_,hr,hK⟩⟩;cases x<;>simp[h2,h3]
theorem ye{t:Nat}{p:Operand}{i:TI}{a:AV}(ho:o.op=.load t p)(ht:L.tt t=some i)(hl:nu i σ (ap env p)=some a)(hK:K a σ):aG P o env σ K Kp:=
 aG.val (s:=λρ=>Instr.loadAt t (ρ p)) (λρ=>by simp[execOp,ho]) λk O ρ hv hr=>by
  have hp:=hv p (by simp[ho,Op.operands]);obtain⟨ad,e⟩:=hp.Gq (wJ hl);rw[e]at hp;obtain⟨b,base,off,l,rfl,hrow,hs⟩:=zC hr hp hl;simp only[Instr.loadAt,e,Instr.sureAddr];exact af (aj (sK L hrow ht hs λv hv=>.here ⟨.refl k,a,σ,hv,hr,hK⟩))
theorem zE{t:Nat}{p x:Operand}{i:TI}{σ':aa}(ho:o.op=.store t p x)(ht:L.tt t=some i)(hs:pH i σ (ap env p) (ap env x)=some σ')(hK:K (.lit undef) σ'):aG P o env σ K Kp:=λk O ρ hv hr=>by
 have hp:=hv p (by simp[ho,Op.operands]);have hx:=hv x (by simp[ho,Op.operands]);obtain⟨ad,e⟩:=hp.Gq (BT hs);rw[e]at hp;have:execOp ρ o=(do storeVar t ad (ρ x);pure .skip):=by simp[execOp,ho,Instr.storeAt,e,Instr.sureAddr]
 rw[this];exact af (yd L hr hp hx ht hs λO' hr'=>aj ⟨undef,.inr ⟨rfl,rfl⟩,.here ⟨.refl k,.lit undef,σ',.lit _,hr',hK⟩⟩)
end
def AV.W(a a':AV):Prop:=∀k v,V k v a->V k v a'
theorem AV.W.refl(a:AV):a.W a:=λ_ _ h=>h
abbrev AV.nil:AV:=.lit (.slice none 0 0)
theorem fT(kk:Nat):AV.nil.W (.sl kk [] .any):=λk v h=>by cases h;exact .slnil kk
theorem gK(kk:Nat)(es:List AV)(sp:cM):(AV.sl kk es sp).W (.sl kk es .any):=λk v h=>by
 cases h with
 |sl b off cap _ N E _ _ c h1 h2 h3 h4 h5 h6 h7=>exact .sl b off cap kk N E es .any c h1 h2 h3 h4 h5 h6 trivial
 |slnil=>exact .slnil kk
def lO:Value->AV
 |.agg c=>.agg (c.toList.map .lit)
 |v=>.lit v
theorem V.lO(k:ag)(v:Value):V k v (lO v):=by
 cases v<;>first|exact .lit _|skip
 rename_i c;refine .agg _ _ (by simp) λi v a h1 h2=>?_
 simp only[List.getElem?_map]at h2;rw[show c.toList[i]?=c[i]? from by simp,h1]at h2;simp at h2;subst h2;exact .lit v
theorem flatten_cons(a:AV)(es:List AV):flatten (a::es)=a.cells++flatten es:=rfl
theorem flatten_append(es fs:List AV):flatten (es++fs)=flatten es++flatten fs:=by simp[flatten]
theorem bc{kk:Nat}:∀{es:List AV},(∀e∈es,e.cells.length=kk)->(flatten es).length=es.length*kk
 |[],_=>by simp[flatten]
 |a::es,h=>by rw[flatten_cons,List.length_append,bc (λe he=>h e (by simp[he])),h a (by simp),List.length_cons,Nat.succ_mul,Nat.add_comm]
theorem lp{kk:Nat}:∀{es:List AV}(_:∀e∈es,e.cells.length=kk){i:Nat}{a:AV}(_:es[i]?=some a) (j:Nat) (_:j<kk),(flatten es)[i*kk+j]?=a.cells[j]?
 |[],_,i,a,hi,_,_=>by simp at hi
 |x::es,h,0,a,hi,j,hj=>by simp at hi;subst hi;rw[flatten_cons,Nat.zero_mul,Nat.zero_add,List.getElem?_append_left (by rw[h x (by simp)];exact hj)]
 | x::es,h,i+1,a,hi,j,hj=>by
   rw[flatten_cons,List.getElem?_append_right (by rw[h x (by simp),Nat.succ_mul];omega),h x (by simp)]
   have:(i+1)*kk+j-kk=i*kk+j:=by rw[Nat.succ_mul];omega
   rw[this];exact lp (λe he=>h e (by simp[he])) (by simpa using hi) j hj
section
variable{P:Program}(L:iE P){k:ag}{O:ah}{Kp:Value->ag->ah->Prop}
theorem Rel.En{σ:aa}(h:Rel k O σ){r:Nat}(hr:O r=none){k':ag}(hk:k.Le k'){x y:Own}:Rel k' (((O.set r x).set r y).del r) σ:=⟨λb a e hn=>by
 obtain⟨z,h1,h2⟩:=h.1 b a e hn;have:b≠r:=λq=>by rw[q,hr]at h1;cases h1
 exact⟨z,by simp[ah.del,ah.set,this,h1],h2.mono hk⟩,λb e=>by
 obtain⟨h1,s,h2⟩:=h.2 b e;refine⟨?_,s,hk.sh _ _ h2⟩
 by_cases q:b=r
 . simp[ah.del,q]
 . simp[ah.del,ah.set,q,h1]⟩
theorem l9{K:Addr->ag->ah->Prop}{E:TypeId}{c:Array Value}
 (hK:∀r k' O',De k O r->(l8 k' O' λk2 O2=>k.Le k2/\(∀j v,c[j]?=some v->k2.cell r j=some v)/\k2.sh r=some (E,c.size)/\(∀σ,Rel k O σ->Rel k2 O2 σ))->K ⟨r,0,none⟩ k' O'):eE P (newRow E c) k O K Kp:=by
 refine af (s:=newObj (.cells c E)) ⟨rfl,λr hr=>aj (hK r _ _ hr ?_)⟩;obtain⟨f1,f2,f3⟩:=hr;have hk1:k.Le (k.made r (.cells c E)):=.made f3;have hno:∀j,(k.made r (.cells c E)).cell r j=none:=f2;refine⟨_,_,(mN (n:=c.size) (c:=c) (e:=E) (r:=r) (by simp[ah.set]) (by simp[ag.made,ag.dN])).trans (BS _ _ r (by simp[ah.set])),hk1.trans (.ul hno),λj v hj=>?_,by simp[ag.ul,ag.made,ag.dN],λσ h=>h.En f1 (hk1.trans (.ul hno))⟩;have hlt:j<c.size:=(Array.getElem?_eq_some_iff.1 hj).1;simp only[ag.ul,true_and,hlt,if_true];exact hj
theorem iM{K:Addr->ag->ah->Prop}{E:TypeId}{c:Array Value}{σ:aa}(h:Rel k O σ){l:List AV}(hc:c.size=l.length)(hv:∀(i:Nat) v a,c[i]?=some v->l[i]?=some a->V k v a)(hf:∀(i:Nat) v,c[i]?=some v->flat v=true)
 (hK:∀r k' O',σ r=none->k.Le k'->Rel k' O' (σ.set r (.cells l))->K ⟨r,0,none⟩ k' O'):eE P (newRow E c) k O K Kp:=by
 refine af (s:=newObj (.cells c E)) ⟨rfl,λr hr=>aj (hK r _ _ (h.isNone hr.1 hr.2.2) (.made hr.2.2) ?_)⟩;exact(h.mono (.made hr.2.2)).set (.cells c E l hc (λi v a h1 h2=>(hv i v a h1 h2).mono (.made hr.2.2)) hf)
end
section
variable{P:Program}(L:iE P){o:Oper}{env:Env}{σ:aa}{K:AV->aa->Prop}{Kp:AV->aa->Prop}
theorem zF{t:Nat}{i:TI}(ho:o.op=.alloc t)(ht:L.tt t=some i)(hf:(lO i.zero).cells.all AV.flat=true)(hK:∀b,σ b=none->K (.ref b 0) (σ.set b (.cells (lO i.zero).cells))):aG P o env σ K Kp:=
 aG.val (s:=λ_=>Instr.alloc t true (.tuple #[])) (λρ=>by simp[execOp,ho]) λk O ρ hv hr=>by
  unfold Instr.alloc;refine af (cX L ht ?_);obtain⟨h1,h2,h3⟩:=(V.lO k i.zero).cells hf;refine af (iM hr h1 h2 h3 λr k' O' hn hk hr'=>aj ?_);exact .here ⟨hk,_,_,.ref r 0,hr',hK r hn⟩
theorem uo{t:Nat}{x:Operand}(ho:o.op=.box t x)(hf:(ap env x).cells.all AV.flat=true)(hK:∀b,σ b=none->K (.ref b 0) (σ.set b (.cells (ap env x).cells))):aG P o env σ K Kp:=
 aG.val (s:=λρ=>Instr.box t (ρ x)) (λρ=>by simp[execOp,ho]) λk O ρ hv hr=>by
  unfold Instr.box;obtain⟨h1,h2,h3⟩:=(hv x (by simp[ho,Op.operands])).cells hf;refine af (iM hr h1 h2 h3 λr k' O' hn hk hr'=>aj ?_);exact .here ⟨hk,_,_,.ref r 0,hr',hK r hn⟩
theorem Gr{t:Nat}{x:Operand}(ho:o.op=.box t x)(hf:(ap env x).cells.all AV.flat=true)(hK:K (.cp (ap env x) 0) σ):aG P o env σ K Kp:=
 aG.val (s:=λρ=>Instr.box t (ρ x)) (λρ=>by simp[execOp,ho]) λk O ρ hv hr=>by
  unfold Instr.box;obtain⟨h1,h2,h3⟩:=(hv x (by simp[ho,Op.operands])).cells hf;refine af (l9 λr k' O' hn ht=>aj ?_);obtain⟨k2,O2,g,hk,hc,hs,hrel⟩:=ht;refine⟨k2,O2,g,hk,_,σ,?_,hrel σ hr,hK⟩;refine V.cp r 0 0 _ _ _ (λj=>(ρ x).cells.getD j undef) hs (by omega) (λj hj=>?_) (λj a ha=>?_)
  . have hlt:j<(ρ x).cells.size:=by rw[h1];exact hj
    rw[Nat.zero_add,hc j ((ρ x).cells[j]) (by simp[hlt])];have:=h3 j ((ρ x).cells[j]) (by simp[hlt]);simpa[Array.getD,hlt]using this
  . have hlt:j<(ρ x).cells.size:=by rw[h1];exact(List.getElem?_eq_some_iff.1 ha).1
    have:=(h2 j ((ρ x).cells[j]) a (by simp[hlt]) ha).mono hk;simpa[Array.getD,hlt]using this
end
inductive Gs(k:ag):Value->Nat->List AV->cM->Prop
 |nil (kk:Nat):Gs k (.slice none 0 0) kk [] .any
 | row (b off cap kk N:Nat) (E:TypeId) (es:List AV) (sp:cM):es.length<=cap->k.sh b=some (E,N)->off+cap*kk<=N->(∀e∈es,e.cells.length=kk) ->
    (∀O,qx k O b off (flatten es))->sp.fits b off es.length kk cap->Gs k (.slice (some ⟨b,off,none⟩) es.length cap) kk es sp
theorem V.Eo{k:ag}{v:Value}{kk:Nat}{es:List AV}{sp:cM}(h:V k v (.sl kk es sp)):Gs k v kk es sp:=by
 cases h with
 |sl b off cap _ N E _ _ c h1 h2 h3 h4 h5 h6 h7=>exact .row b off cap kk N E es sp h1 h2 h3 h4 (λO=>.known h5 h6) h7
 |slnil=>exact .nil kk
theorem Gs.len{k:ag}{v:Value}{kk:Nat}{es:List AV}{sp:cM}(h:Gs k v kk es sp):∃a c,v=.slice a es.length c:=by
 cases h
 . exact⟨_,_,rfl⟩
 . exact⟨_,_,rfl⟩
theorem V.ofRow{k:ag}{b off cap kk N:Nat}{E:TypeId}{es:List AV}{sp:cM}(h1:es.length<=cap)(h2:k.sh b=some (E,N))(h3:off+cap*kk<=N)(h4:∀e∈es,e.cells.length=kk)
 (h5:∀(j:Nat) a,(flatten es)[j]?=some a->∃v,k.cell b (off+j)=some v/\V k v a/\aN.flat v=true) (h6:sp.fits b off es.length kk cap):V k (.slice (some ⟨b,off,none⟩) es.length cap) (.sl kk es sp):=by
 refine .sl b off cap kk N E es sp (λj=>(k.cell b (off+j)).getD undef) h1 h2 h3 h4 (λj hj=>?_) (λj a ha=>?_) h6
 . obtain⟨v,hv,_,hf⟩:=h5 j (flatten es)[j] (by simp[hj])
   rw[hv];exact⟨rfl,hf⟩
 . obtain⟨v,hv,hva,_⟩:=h5 j a ha
   rw[hv];exact hva
theorem V.lq{k:ag}{v:Value}{kk:Nat}{es:List AV}{sp:cM}(h:V k v (.sl kk es sp)):(v=.slice none 0 0/\es=[]/\sp=.any)\/
 ∃b off cap N E,v=.slice (some ⟨b,off,none⟩) es.length cap/\es.length<=cap/\k.sh b=some (E,N)/\off+cap*kk<=N/\(∀e∈es,e.cells.length=kk)/\(∀(j:Nat) a,(flatten es)[j]?=some a->∃v,k.cell b (off+j)=some v/\V k v a/\aN.flat v=true)/\sp.fits b off es.length kk cap:=by
 cases h with
 |sl b off cap _ N E _ _ c h1 h2 h3 h4 h5 h6 h7=>exact .inr ⟨b,off,cap,N,E,rfl,h1,h2,h3,h4,λj a ha=>⟨c j,(h5 j (List.getElem?_eq_some_iff.1 ha).1).1,h6 j a ha,(h5 j (List.getElem?_eq_some_iff.1 ha).1).2⟩,h7⟩
 |slnil=>exact .inl ⟨rfl,rfl,rfl⟩
theorem V.Gt{k:ag}{b off cap kk N:Nat}{es:List AV}{sp:cM}(h:V k (.slice (some ⟨b,off,none⟩) N cap) (.sl kk es sp)):∀(j:Nat) a,(flatten es)[j]?=some a->∃v,k.cell b (off+j)=some v/\V k v a/\aN.flat v=true:=by
 intro j a ha;cases h with
 |sl _ _ _ _ N E _ _ c h1 h2 h3 h4 h5 h6 h7=>exact⟨c j,(h5 j (List.getElem?_eq_some_iff.1 ha).1).1,h6 j a ha,(h5 j (List.getElem?_eq_some_iff.1 ha).1).2⟩
section
variable{P:Program}(L:iE P){o:Oper}{env:Env}{σ:aa}{K:AV->aa->Prop}{Kp:AV->aa->Prop}
theorem bF{i:TI}{d:TypeDesc}{e:Nat}(h:di P i d=true)(hk:i.kind=.slice e):d=.slice e:=by cases d<;>simp_all [di]
theorem pI{i:TI}{d:TypeDesc}{n e:Nat}(h:di P i d=true)(hk:i.kind=.array n e):d=.array n e:=by cases d<;>simp_all [di]
theorem yf{x:Operand}{tys:Array TypeId}{t e:Nat}{i:TI}{kk:Nat}{es:List AV}{sp:cM}(ho:o.op=.call ⟨.builtin .len,#[x],tys⟩)(h0:tys[0]?=some t)(ht:L.tt t=some i)(hk:i.kind=.slice e)
 (hx:ap env x=.sl kk es sp\/(ap env x=.nil/\es=[])) (hK:K (.lit (.int .i64 es.length)) σ):aG P o env σ K Kp:=
 fun k O ρ hv hr=>by
  have h:=hv x (by simp[ho,Op.operands,Call.operands])
  have hs:∃a c,ρ x=.slice a es.length c:=by
   rcases hx with hx|⟨hx,rfl⟩
   . rw[hx]at h;exact h.Eo.len
   . rw[hx]at h
     generalize ρ x=v at h;cases h;exact⟨_,_,rfl⟩
  obtain⟨a,c,e1⟩:=hs;have:execOp ρ o=(do pure (Next.value (<-Builtin.len_ tys o.type #[ρ x]))):=by simp[execOp,ho,resolve,invoke,builtin]
  rw[this];refine af ?_;unfold Builtin.len_;simp only[h0,List.getElem?_toArray,List.getElem?_cons_zero];refine af (aB L ht λd _ hd=>?_);rw[bF hd hk,e1];exact aj (aj ⟨_,.inl rfl,.here ⟨.refl k,_,σ,.lit _,hr,hK⟩⟩)
theorem wM{x:Operand}{tys:Array TypeId}{t e:Nat}{i:TI}{b off len cap:Nat}(ho:o.op=.call ⟨.builtin .len,#[x],tys⟩)(h0:tys[0]?=some t)(ht:L.tt t=some i)(hk:i.kind=.slice e)
 (hx:ap env x=.fZ b off len cap) (hK:K (.lit (.int .i64 len)) σ):aG P o env σ K Kp:=
 λk O ρ hv hr=>by
  have h:=hv x (by simp[ho,Op.operands,Call.operands])
  have hs:∃a c,ρ x=.slice a len c:=by rw[hx]at h;generalize ρ x=v at h;cases h;exact⟨_,_,rfl⟩
  obtain⟨a,c,e1⟩:=hs;have:execOp ρ o=(do pure (Next.value (<-Builtin.len_ tys o.type #[ρ x]))):=by simp[execOp,ho,resolve,invoke,builtin]
  rw[this];refine af ?_;unfold Builtin.len_;simp only[h0,List.getElem?_toArray,List.getElem?_cons_zero];refine af (aB L ht λd _ hd=>?_)
  rw[bF hd hk,e1];exact aj (aj ⟨_,.inl rfl,.here ⟨.refl k,_,σ,.lit _,hr,hK⟩⟩)
theorem cJ{k:ag}{v:Value}{kd:IntKind}{n:Int}(h:V k v (.lit (.int kd n))):v=.int kd n:=by cases h;rfl
theorem uq{t e:Nat}{x ix:Operand}{it ie:TI}{es:List AV}{sp:cM}{n:Int}{kd:IntKind}{a:AV}(ho:o.op=.indexAddr t x ix)(ht:L.tt t=some it)(hk:it.kind=.slice e)(he:L.tt e=some ie)
 (hx:ap env x=.sl ie.size es sp) (hi:ap env ix=.lit (.int kd n)) (h0:0<=n) (ha:es[n.toNat]?=some a) (hK:K (.cp a 0) σ):aG P o env σ K Kp:=
 aG.val (s:=λρ=>Instr.indexAt t (ρ x) (ρ ix)) (λρ=>by simp[execOp,ho]) λk O ρ hv hr=>by
  have h1:=hv x (by simp[ho,Op.operands]);have h2:=hv ix (by simp[ho,Op.operands]);rw[hx]at h1;rw[hi]at h2;rw[cJ h2];have hlt:n.toNat<es.length:=(List.getElem?_eq_some_iff.1 ha).1;generalize ρ x=v at h1;have hcells:=h1;cases h1.Eo with
  |nil=>simp at hlt
  | row b off cap _ N E _ _ g1 g2 g3 g4 g5 g6=>
    unfold Instr.indexAt;refine af (aj ?_);refine af (aB L ht λd _ hd=>?_);rw[bF hd hk];dsimp only;refine af (aj ?_);dsimp only;refine af (aB L ht λd2 _ hd2=>?_);rw[bF hd2 hk];dsimp only;rw[if_pos ⟨h0,by omega⟩];refine af (ck L he (aj (.here ⟨.refl k,_,σ,?_,hr,hK⟩)));rw[gJ];have hac:a.cells.length=ie.size:=g4 a (List.mem_iff_getElem?.2 ⟨_,ha⟩)
    have hbd:off+n.toNat*ie.size+a.cells.length<=N:=by
     have hn:n.toNat<es.length:=(List.getElem?_eq_some_iff.1 ha).1;have:=Nat.mul_le_mul_right ie.size (show n.toNat+1<=cap by omega);rw[Nat.add_mul,Nat.one_mul]at this;omega
    refine V.cp b (off+n.toNat*ie.size) 0 N E a (λj=>(k.cell b (off+n.toNat*ie.size+j)).getD undef) g2 hbd (λj hj=>?_) (λj y hy=>?_)
    . have hf:=lp g4 ha j (by omega)
      obtain⟨u,hu,_,hfl⟩:=hcells.Gt (n.toNat*ie.size+j) a.cells[j] (by rw[hf];simp[hj]);rw[<-Nat.add_assoc]at hu;rw[hu];exact⟨rfl,hfl⟩
    . have hj:j<a.cells.length:=(List.getElem?_eq_some_iff.1 hy).1
      have hf:=lp g4 ha j (by omega);obtain⟨u,hu,hua,_⟩:=hcells.Gt (n.toNat*ie.size+j) y (by rw[hf];exact hy);rw[<-Nat.add_assoc]at hu;rw[hu];exact hua
end
section
variable{P:Program}(L:iE P){o:Oper}{env:Env}{σ:aa}{K:AV->aa->Prop}{Kp:AV->aa->Prop}
theorem sL{k:ag}{O:ah}{Kp:Value->ag->ah->Prop}{t:Nat}{info:TypeInfo}{K:Nat->ag->ah->Prop}(h:P.info? t=some info)(hK:K info.size k O):eE P (sizeOf t) k O K Kp:=by unfold sizeOf typeInfo;refine af (af (bN ?_));rw[h];exact aj hK
theorem sM{i:TI}{d:TypeDesc}(h:di P i d=true)(hk:i.kind=.struct){j:Nat}{x:Nat × Nat × Nat}(hx:i.iK[j]?=some x):∃fs f info,d=.struct fs/\fs[j]?=some f/\f.offset=x.1/\P.info? f.type=some info/\info.size=x.2.1/\f.type=x.2.2:=by
 cases d with
 | struct fs=>
   simp only[di,Bool.and_eq_true,beq_iff_eq]at h;have h2:=congrArg (λl=>l[j]?) h.2;simp only[List.getElem?_map,hx,Option.map_some]at h2;obtain⟨f,hf,he⟩:=Option.map_eq_some_iff.1 h2;simp only[Prod.mk.injEq]at he;obtain⟨info,hi,hs⟩:=Option.map_eq_some_iff.1 he.2.1;exact⟨fs,f,info,rfl,by simpa using hf,he.1,hi,hs,he.2.2⟩
 |_=>simp[di,hk]at h
def qy(a:AV)(n:Nat):Option AV:=
 match a with
 |.cp v off=>some (.cp v (off+n))
 |.kp b l hole off=>some (.kp b l hole (off+n))
 |.ref b off=>some (.ref b (off+n))
 |_=>none
theorem V.qy{k:ag}{v:Value}{a a':AV}{n:Nat}(h:V k v a)(ha:qy a n=some a'):∃b off,v=.pointer (some ⟨b,off,none⟩)/\V k (.pointer (some ⟨b,off+n,none⟩)) a':=by
 cases a<;>simp only[aN.qy,reduceCtorEq,Option.some.injEq]at ha
 . subst ha
   cases h with
   |cp b base _ N E _ c h0 h3 h1 h2=>exact⟨b,_,rfl,by rw[Nat.add_assoc];exact .cp b base _ N E _ c h0 h3 h1 h2⟩
 . subst ha
   cases h with
   |kp _ _ N E _ _ c h0 h3 h1 h2=>exact⟨_,_,rfl,.kp _ _ N E _ _ c h0 h3 h1 h2⟩
 . subst ha
   cases h;exact⟨_,_,rfl,.ref _ _⟩
theorem qz{s j:Nat}{x:Operand}{i:TI}{f:Nat × Nat × Nat}{a':AV}(ho:o.op=.fieldAddr s x j)(ht:L.tt s=some i)(hk:i.kind=.struct)(hf:i.iK[j]?=some f)(hz:f.2.1≠0)
 (ha:qy (ap env x) f.1=some a') (hK:K a' σ):aG P o env σ K Kp:=
 aG.val (s:=λρ=>Instr.fieldAt s (ρ x) j) (λρ=>by simp[execOp,ho]) λk O ρ hv hr=>by
  obtain⟨b,off,e,hv'⟩:=(hv x (by simp[ho,Op.operands])).qy ha;unfold Instr.fieldAt;refine af (aB L ht λd _ hd=>?_);obtain⟨fs,g,info,rfl,h1,h2,h3,h4,_⟩:=sM hd hk hf;dsimp only;rw[h1,e];dsimp only;refine af (aj ?_);unfold fieldPlace;refine af (af (sL h3 ?_));rw[h4,if_neg hz];refine aj (aj (.here ⟨.refl k,_,σ,?_,hr,hK⟩));rw[gJ,h2];exact hv'
theorem sN{t n e:Nat}{x ix:Operand}{it ie:TI}{z:Int}{kd:IntKind}{a':AV}(ho:o.op=.indexAddr t x ix)(ht:L.tt t=some it)(hk:it.kind=.array n e)(he:L.tt e=some ie)
 (hi:ap env ix=.lit (.int kd z)) (h0:0<=z/\z<n) (ha:qy (ap env x) (z.toNat*ie.size)=some a') (hK:K a' σ):aG P o env σ K Kp:=
 aG.val (s:=λρ=>Instr.indexAt t (ρ x) (ρ ix)) (λρ=>by simp[execOp,ho]) λk O ρ hv hr=>by
  obtain⟨b,off,e1,hv'⟩:=(hv x (by simp[ho,Op.operands])).qy ha;have h2:=hv ix (by simp[ho,Op.operands]);rw[hi]at h2;rw[cJ h2,e1];unfold Instr.indexAt;refine af (aj ?_);refine af (aB L ht λd _ hd=>?_);rw[pI hd hk];dsimp only;refine af (aj ?_);refine af (aj ?_);dsimp only;refine af (aB L ht λd2 _ hd2=>?_);rw[pI hd2 hk];dsimp only;rw[if_pos h0];refine af (ck L he (aj (.here ⟨.refl k,_,σ,?_,hr,hK⟩)));rw[gJ];exact hv'
theorem sO{t e:Nat}{x ix:Operand}{it ie:TI}{b off len cap:Nat}{z:Int}{kd:IntKind}(ho:o.op=.indexAddr t x ix)(ht:L.tt t=some it)(hk:it.kind=.slice e)(he:L.tt e=some ie)
 (hx:ap env x=.fZ b off len cap) (hi:ap env ix=.lit (.int kd z)) (h0:0<=z/\z<len) (hK:K (.ref b (off+z.toNat*ie.size)) σ):aG P o env σ K Kp:=
 aG.val (s:=λρ=>Instr.indexAt t (ρ x) (ρ ix)) (λρ=>by simp[execOp,ho]) λk O ρ hv hr=>by
  have h1:=hv x (by simp[ho,Op.operands]);have h2:=hv ix (by simp[ho,Op.operands]);rw[hx]at h1;rw[hi]at h2;rw[cJ h2];generalize ρ x=v at h1;cases h1;unfold Instr.indexAt;refine af (aj ?_);refine af (aB L ht λd _ hd=>?_);rw[bF hd hk];dsimp only;refine af (aj ?_);dsimp only;refine af (aB L ht λd2 _ hd2=>?_);rw[bF hd2 hk];dsimp only;rw[if_pos h0];refine af (ck L he (aj (.here ⟨.refl k,_,σ,?_,hr,hK⟩)));rw[gJ];exact .ref _ _
theorem V.part{k:ag}{O:ah}{Kp:Value->ag->ah->Prop}{t off:Nat}{i:TI}{c:Array Value}{l:List AV}{a:AV}{K:Value->ag->ah->Prop}(hl:c.size=l.length)(hv:∀(j:Nat) v a,c[j]?=some v->l[j]?=some a->V k v a)
 (ht:L.tt t=some i) (hs:cE l off i.size i.agg=some a) (hK:∀v,V k v a->K v k O):eE P (part t c off) k O K Kp:=by
 unfold Go.part;refine af (ow L ht ?_);unfold cE at hs;cases hagg:i.agg
 . simp only[hagg,Bool.false_eq_true,if_false]at hs ⊢
   have hlt:off<l.length:=(List.getElem?_eq_some_iff.1 hs).1;rw[show c[off]?=some c[off]from by simp[hl,hlt]];exact hK _ (hv off _ a (by simp[hl,hlt]) hs)
 . simp only[hagg,if_true]at hs ⊢
   split at hs
   . next hle=>
     simp only[Option.some.injEq]at hs;subst hs;refine af (ck L ht (aj (hK _ (.agg _ _ ?_ λj v a hj ha=>?_))))
     . simp[hl];omega
     . rw[Array.getElem?_extract]at hj
       rw[List.getElem?_take]at ha;split at ha
       . rw[List.getElem?_drop]at ha
         split at hj
         . exact hv _ v a hj ha
         . cases hj
       . cases ha
   . cases hs
theorem zI{s j:Nat}{x:Operand}{i fi:TI}{f:Nat × Nat × Nat}{l:List AV}{a:AV}(ho:o.op=.field s x j)(ht:L.tt s=some i)(hk:i.kind=.struct)(hf:i.iK[j]?=some f)(hft:L.tt f.2.2=some fi)
 (hx:ap env x=.agg l) (hs:cE l f.1 fi.size fi.agg=some a) (hK:K a σ):aG P o env σ K Kp:=
 aG.val (s:=λρ=>Instr.field s (ρ x) j) (λρ=>by simp[execOp,ho]) λk O ρ hv hr=>by
  have h1:=hv x (by simp[ho,Op.operands]);rw[hx]at h1;generalize ρ x=v at h1;cases h1 with
  | agg c l g1 g2=>
    unfold Instr.field;refine af (aB L ht λd _ hd=>?_);obtain⟨fs,g,info,rfl,h1,h2,h3,h4,h5⟩:=sM hd hk hf;dsimp only;rw[h1];dsimp only;refine af (aj ?_);rw[h2,h5];exact V.part L g1 g2 hft hs λv hv=>.here ⟨.refl k,a,σ,hv,hr,hK⟩
theorem zJ{t n e:Nat}{x ix:Operand}{it ie:TI}{z:Int}{kd:IntKind}{l:List AV}{a:AV}(ho:o.op=.index t x ix)(ht:L.tt t=some it)(hk:it.kind=.array n e)(he:L.tt e=some ie)
 (hx:ap env x=.agg l) (hi:ap env ix=.lit (.int kd z)) (h0:0<=z/\z<n) (hs:cE l (z.toNat*ie.size) ie.size ie.agg=some a) (hK:K a σ):aG P o env σ K Kp:=
 aG.val (s:=λρ=>Instr.index t (ρ x) (ρ ix)) (λρ=>by simp[execOp,ho]) λk O ρ hv hr=>by
  have h1:=hv x (by simp[ho,Op.operands]);have h2:=hv ix (by simp[ho,Op.operands]);rw[hx]at h1;rw[hi]at h2;rw[cJ h2];generalize ρ x=v at h1;cases h1 with
  | agg c l g1 g2=>
    unfold Instr.index;refine af (aj ?_);refine af (aB L ht λd _ hd=>?_);rw[pI hd hk];dsimp only;rw[if_pos h0];refine af (ck L he ?_);exact V.part L g1 g2 he hs λv hv=>.here ⟨.refl k,a,σ,hv,hr,hK⟩
def pe(op:BinOp)(k:IntKind)(x y:Int):Option Value:=
 match op with
 |.add=>some (.int k (k.wrap (x+y)))
 |.sub=>some (.int k (k.wrap (x-y)))
 |.mul=>some (.int k (k.wrap (x*y)))
 |.quo=>if y=0 then none else some (.int k (k.wrap (x.tdiv y)))
 |.rem=>if y=0 then none else some (.int k (x.tmod y))
 |.and=>some (.int k (k.wrap ((BitVec.ofInt k.bits x &&& BitVec.ofInt k.bits y).toNat)))
 |.or=>some (.int k (k.wrap ((BitVec.ofInt k.bits x|||BitVec.ofInt k.bits y).toNat)))
 |.xor=>some (.int k (k.wrap ((BitVec.ofInt k.bits x ^^^ BitVec.ofInt k.bits y).toNat)))
 |.eql=>some (.bool (x==y))
 |.neq=>some (.bool (x !=y))
 |.lss=>some (.bool (x<y))
 |.leq=>some (.bool (x<=y))
 |.gtr=>some (.bool (x>y))
 |.geq=>some (.bool (x>=y))
 |_=>none
theorem cK{op:BinOp}{t t2:Nat}{x y:Operand}{kd:IntKind}{a b:Int}{v:Value}(ho:o.op=.binOp op t x y t2)(hx:ap env x=.lit (.int kd a))(hy:ap env y=.lit (.int kd b))(hv:pe op kd a b=some v)(hK:K (.lit v) σ):
 aG P o env σ K Kp:=λk O ρ hρ hr=>by
 have h1:=hρ x (by simp[ho,Op.operands]);have h2:=hρ y (by simp[ho,Op.operands]);rw[hx]at h1;rw[hy]at h2;have e1:=cJ h1;have e2:=cJ h2
 have key:(do eqGuard op t x y (ρ x) (ρ y);binOp op t (ρ x) (ρ y))=(pure v:Sem Value):=by
  rw[e1,e2]
  cases op<;>simp only[pe,reduceCtorEq,Option.some.injEq]at hv<;>
   first
    |(subst hv;simp[eqGuard,binOp,Op.intArith,Op.intBits,Op.intCmp];done)
    | (split at hv
       . cases hv
       . next hne=>simp only[Option.some.injEq]at hv;subst hv;simp[eqGuard,binOp,Op.intDiv,hne])
 have:execOp ρ o=pure (.value v):=by
  have e:execOp ρ o=(do let v <-(do eqGuard op t x y (ρ x) (ρ y);binOp op t (ρ x) (ρ y));pure (.value v)):=by simp[execOp,ho]
  rw[e,key];rfl
 rw[this];exact aj ⟨v,.inl rfl,.here ⟨.refl k,_,σ,.lit v,hr,hK⟩⟩
theorem wrap_i64{n:Int}(h:-9223372036854775808<=n/\n<=9223372036854775807):IntKind.i64.wrap n=n:=by simp only[IntKind.wrap,IntKind.bits,IntKind.signed];simp;omega
theorem ma{op:BinOp}{t t2:Nat}{x y:Operand}{a b r:Int}(ho:o.op=.binOp op t x y t2)(hx:ap env x=.lit (.int .i64 a))(hy:ap env y=.lit (.int .i64 b))
 (hop:(op=.add/\r=a+b)\/(op=.sub/\r=a-b)\/(op=.mul/\r=a*b)) (hfit:-9223372036854775808<=r/\r<=9223372036854775807) (hK:K (.lit (.int .i64 r)) σ):aG P o env σ K Kp:=by
 have hw:=wrap_i64 hfit;rcases hop with⟨rfl,rfl⟩|⟨rfl,rfl⟩|⟨rfl,rfl⟩<;>exact cK ho hx hy (by simp only[pe,hw]) hK
theorem qA{op:BinOp}{t t2:Nat}{x y:Operand}{kd ky:IntKind}{a b:Int}{v:Value}(ho:o.op=.binOp op t x y t2)(hx:ap env x=.lit (.int kd a))(hy:ap env y=.lit (.int ky b))(hb:0<=b)
 (hop:(op=.shl/\v=.int kd (kd.wrap (a*2 ^ (min b.toNat kd.bits))))\/(op=.shr/\v=.int kd (a.fdiv (2 ^ (min b.toNat kd.bits))))) (hK:K (.lit v) σ):
 aG P o env σ K Kp:=λk O ρ hρ hr=>by
 have h1:=hρ x (by simp[ho,Op.operands]);have h2:=hρ y (by simp[ho,Op.operands]);rw[hx]at h1;rw[hy]at h2;have e1:=cJ h1;have e2:=cJ h2;have hn:¬b<0:=by omega
 have key:(do eqGuard op t x y (ρ x) (ρ y);binOp op t (ρ x) (ρ y))=(pure v:Sem Value):=by
  rw[e1,e2];rcases hop with⟨rfl,rfl⟩|⟨rfl,rfl⟩<;>simp[eqGuard,binOp,Op.shift,hn]
 have:execOp ρ o=pure (.value v):=by
  have e:execOp ρ o=(do let v <-(do eqGuard op t x y (ρ x) (ρ y);binOp op t (ρ x) (ρ y));pure (.value v)):=by simp[execOp,ho]
  rw[e,key];rfl
 rw[this];exact aj ⟨v,.inl rfl,.here ⟨.refl k,_,σ,.lit v,hr,hK⟩⟩
theorem pJ{k:ag}{v:Value}{b:Bool}(h:V k v (.lit (.bool b))):v=.bool b:=by cases h;rfl
theorem Gu{t:Nat}{x:Operand}{b:Bool}(ho:o.op=.unOp .not t x)(hx:ap env x=.lit (.bool b))(hK:K (.lit (.bool !b)) σ):aG P o env σ K Kp:=λk O ρ hρ hr=>by
 have h1:=hρ x (by simp[ho,Op.operands]);rw[hx]at h1;have:execOp ρ o=pure (.value (.bool !b)):=by simp[execOp,ho,pJ h1,Op.unary]
 rw[this];exact aj ⟨_,.inl rfl,.here ⟨.refl k,_,σ,.lit _,hr,hK⟩⟩
theorem us{s t:Nat}{x:Operand}{is it:TI}{kd ks:IntKind}{kd':IntKind}{a:Int}(ho:o.op=.convert s t x)(hs:L.tt s=some is)(ht:L.tt t=some it)(hks:is.kind=.int ks)(hkt:it.kind=.int kd)(hx:ap env x=.lit (.int kd' a))(hK:K (.lit (.int kd (kd.wrap a))) σ):aG P o env σ K Kp:=
 aG.val (s:=λρ=>convert s t (ρ x)) (λρ=>by simp[execOp,ho]) λk O ρ hρ hr=>by
  have h1:=hρ x (by simp[ho,Op.operands])
  rw[hx]at h1;rw[cJ h1];unfold convert;refine af (aB L hs λd _ hd=>af (aB L ht λd2 _ hd2=>?_))
  have e2:d2=.int kd:=by cases d2<;>simp_all [di]
  have e1:d=.int ks:=by cases d<;>simp_all [di]
  subst e1 e2;exact aj (.here ⟨.refl k,_,σ,.lit _,hr,hK⟩)
theorem oy{b:Builtin}{tys:Array TypeId}{x y:Operand}{kd:IntKind}{p q:Int}(ho:o.op=.call ⟨.builtin b,#[x,y],tys⟩)(hx:ap env x=.lit (.int kd p))(hy:ap env y=.lit (.int kd q))
 {r:Int}(hb:(b=.min/\r=if q<p then q else p)\/(b=.max/\r=if q>p then q else p)) (hK:K (.lit (.int kd r)) σ):aG P o env σ K Kp:=λk O ρ hρ hr=>by
 have h1:=hρ x (by simp[ho,Op.operands,Call.operands])
 have h2:=hρ y (by simp[ho,Op.operands,Call.operands])
 rw[hx]at h1;rw[hy]at h2;have e1:=cJ h1;have e2:=cJ h2
 have:execOp ρ o=pure (.value (.int kd r)):=by
  rcases hb with⟨rfl,rfl⟩|⟨rfl,rfl⟩<;>
  simp[execOp,ho,resolve,invoke,builtin,e1,e2,Builtin.min_,Builtin.max_,Builtin.min2,Builtin.max2]
 rw[this];exact aj ⟨_,.inl rfl,.here ⟨.refl k,_,σ,.lit _,hr,hK⟩⟩
theorem mc{t:Nat}{x:Operand}{i:TI}(ho:o.op=.makeInterface t x)(ht:L.tt t=some i)(hk:i.kind≠.iface)(hK:K (.nI t (ap env x)) σ):aG P o env σ K Kp:=
 aG.val (s:=λρ=>Instr.makeInterface t (ρ x)) (λρ=>by simp[execOp,ho]) λk O ρ hρ hr=>by
  unfold Instr.makeInterface;refine af (aB L ht λd _ hd=>?_)
  have:∀ms,d≠.interface ms:=λms e=>by subst e;simp[di]at hd;exact hk hd
  have fin:eE P (pure (Value.iface t (ρ x)):Sem Value) k O (λv k' O'=>l8 k' O' λk2 O2=>k.Le k2/\∃a σ',V k2 v a/\Rel k2 O2 σ'/\K a σ') (λv k' O'=>k.Le k'/\∃a σ',V k' v a/\Rel k' O' σ'/\Kp a σ'):=aj (.here ⟨.refl k,_,σ,.nI _ _ _ (hρ x (by simp[ho,Op.operands])),hr,hK⟩)
  cases d<;>first|exact fin|exact absurd rfl (this _)
theorem Vs.ofArray{k:ag}{ρ:Operand->Value}{env:Env}{xs:Array Operand}(h:∀x∈xs,V k (ρ x) (ap env x)):(xs.map ρ).size=(xs.toList.map (ap env)).length/\∀(i:Nat) v a,(xs.map ρ)[i]?=some v->(xs.toList.map (ap env))[i]?=some a->V k v a:=by
 refine⟨by simp,λi v a h1 h2=>?_⟩;simp only[Array.getElem?_map,List.getElem?_map,Array.getElem?_toList]at h1 h2;cases hx:xs[i]? with
 |none=>rw[hx]at h1;cases h1
 |some x=>rw[hx]at h1 h2;simp at h1 h2;subst h1;subst h2;exact h x (Array.mem_of_getElem? hx)
theorem sP{fn:Fn}{fs cs:Array Operand}(ho:o.op=.makeFunc fn fs cs)(hK:K (.fn fn (fs.toList.map (ap env)) (cs.toList.map (ap env))) σ):aG P o env σ K Kp:=λk O ρ hρ hr=>by
 have:execOp ρ o=pure (.value (.func fn (fs.map ρ) (cs.map ρ))):=by simp[execOp,ho,Instr.makeFunc]
 rw[this];obtain⟨a1,a2⟩:=Vs.ofArray (k:=k) (ρ:=ρ) (env:=env) (xs:=fs) λx hx=>hρ x (by simp[ho,Op.operands,hx])
 obtain⟨b1,b2⟩:=Vs.ofArray (k:=k) (ρ:=ρ) (env:=env) (xs:=cs) λx hx=>hρ x (by simp[ho,Op.operands,hx])
 exact aj ⟨_,.inl rfl,.here ⟨.refl k,_,σ,.fn _ _ _ _ _ a1 a2 b1 b2,hr,hK⟩⟩
theorem ut{x:Operand}{j:Nat}{l:List AV}{a:AV}(ho:o.op=.extract x j)(hx:ap env x=.c9 l)(ha:l[j]?=some a)(hK:K a σ):aG P o env σ K Kp:=λk O ρ hρ hr=>by
 have h1:=hρ x (by simp[ho,Op.operands])
 rw[hx]at h1;generalize hq:ρ x=v at h1;cases h1 with
 | c9 c l g1 g2=>
   have hj:j<c.size:=by rw[g1];exact(List.getElem?_eq_some_iff.1 ha).1
   have:execOp ρ o=pure (.value c[j]):=by simp[execOp,ho,Instr.extract,hq,hj]
   rw[this];exact aj ⟨_,.inl rfl,.here ⟨.refl k,_,σ,g2 j _ a (by simp[hj]) ha,hr,hK⟩⟩
theorem pj{x:Operand}{xt t:Nat}{i:TI}{d:Nat}{y:AV}(ho:o.op=.typeAssert x xt t true)(ht:L.tt t=some i)(hk:i.kind≠.iface)(hx:ap env x=.nI d y)
 (hK:K (if d=t then .c9 [y,.lit (.bool true)]else .c9 [lO i.zero,.lit (.bool false)]) σ):aG P o env σ K Kp:=
 aG.val (s:=λρ=>Instr.typeAssert (ρ x) xt t true) (λρ=>by simp[execOp,ho]) λk O ρ hρ hr=>by
  have h1:=hρ x (by simp[ho,Op.operands]);rw[hx]at h1;generalize ρ x=v at h1;cases h1 with
  | nI _ v _ hv=>
    unfold Instr.typeAssert;refine af (aB L ht λdd _ hd=>?_);have hni:∀ms,dd≠.interface ms:=λms e=>by subst e;simp[di]at hd;exact hk hd
    have pair:∀{u:Value}{b:Bool}{a:AV},V k u a->V k (.tuple #[u,.bool b]) (.c9 [a,.lit (.bool b)]):=λ{u b a} h=>.c9 _ _ rfl λj w c h1 h2=>by
     match j with
     |0=>simp at h1 h2;subst h1;subst h2;exact h
     |1=>simp at h1 h2;subst h1;subst h2;exact .lit _
     |j+2=>simp at h1
    have fin:eE P (if d=t then(pure (.tuple #[v,.bool true]):Sem Value)else(do pure (.tuple #[<-zeroValue t,.bool false]))) k O (λv k' O'=>l8 k' O' λk2 O2=>k.Le k2/\∃a σ',V k2 v a/\Rel k2 O2 σ'/\K a σ') (λv k' O'=>k.Le k'/\∃a σ',V k' v a/\Rel k' O' σ'/\Kp a σ'):=by
     split at hK
     . next e=>rw[if_pos e];exact aj (.here ⟨.refl k,_,σ,pair hv,hr,hK⟩)
     . next e=>rw[if_neg e];exact af (cX L ht (aj (.here ⟨.refl k,_,σ,pair (.lO k _),hr,hK⟩)))
    cases dd<;>first|exact fin|exact absurd rfl (hni _)
theorem eQ{x:Operand}(ho:o.op=.nilCheck x)(hx:(∃v off,ap env x=.cp v off)\/(∃b off,ap env x=.ref b off)\/(∃f l r,ap env x=.fn (.func f) l r)\/∃b l hole off,ap env x=.kp b l hole off)(hK:K (ap env x) σ):aG P o env σ K Kp:=λk O ρ hρ hr=>by
 have h1:=hρ x (by simp[ho,Op.operands])
 have:execOp ρ o=pure (.value (ρ x)):=by rcases hx with⟨v,off,e⟩|⟨b,off,e⟩|⟨f,l,r,e⟩|⟨b,l,hole,off,e⟩<;>rw[e]at h1<;>generalize hq:ρ x=w at h1<;>cases h1<;>simp[execOp,ho,hq]
 rw[this];exact aj ⟨_,.inl rfl,.here ⟨.refl k,_,σ,h1,hr,hK⟩⟩
theorem zK{x:Operand}{t:Nat}{y:AV}(ho:o.op=.panic x)(hx:ap env x=.nI t y)(hK:Kp (.nI t y) σ):aG P o env σ K Kp:=λk O ρ hρ hr=>by
 have h1:=hρ x (by simp[ho,Op.operands])
 rw[hx]at h1;generalize hq:ρ x=w at h1;cases h1 with
 | nI _ v _ hv=>
   have:execOp ρ o=Sem.halt (.panic (.iface t v)):=by simp[execOp,ho,hq,Instr.panic,goPanic];rfl
   rw[this];exact⟨.refl k,_,σ,.nI _ _ _ hv,hr,hK⟩
theorem zL{op:BinOp}{t t2 e:Nat}{x y:Operand}{i:TI}{kk:Nat}{es:List AV}{sp:cM}{isNil:Bool}(ho:o.op=.binOp op t x y t2)(ht:L.tt t=some i)(hk:i.kind=.slice e)(hy:ap env y=.nil)
 (hx:(ap env x=.nil/\isNil=true)\/(ap env x=.sl kk es sp/\es≠[]/\isNil=false)\/(ap env x=.sl kk es sp/\sp≠.any/\isNil=false)){b:Bool}(hop:(op=.eql/\b=isNil)\/(op=.neq/\b=!isNil)) (hK:K (.lit (.bool b)) σ):aG P o env σ K Kp:=
 aG.val (s:=λρ=>do eqGuard op t x y (ρ x) (ρ y);binOp op t (ρ x) (ρ y)) (λρ=>by simp[execOp,ho]) λk O ρ hρ hr=>by
  have h1:=hρ x (by simp[ho,Op.operands])
  have h2:=hρ y (by simp[ho,Op.operands])
  rw[hy]at h2;have e2:ρ y=.slice none 0 0:=by generalize ρ y=w at h2;cases h2;rfl
  have e1:∃a n c,ρ x=.slice a n c/\a.isNone=isNil:=by
   rcases hx with⟨e,rfl⟩|⟨e,hne,rfl⟩|⟨e,hne,rfl⟩<;>rw[e]at h1
   . generalize ρ x=w at h1;cases h1;exact⟨_,_,_,rfl,rfl⟩
   . generalize ρ x=w at h1
     cases h1.Eo with
     |nil=>exact absurd rfl hne
     |row=>exact⟨_,_,_,rfl,rfl⟩
   . generalize ρ x=w at h1
     cases h1.Eo with
     |nil=>exact absurd rfl hne
     |row=>exact⟨_,_,_,rfl,rfl⟩
  obtain⟨a,n,c,e1,hn⟩:=e1;rw[e1,e2];have hg:eqGuard op t x y (.slice a n c) (.slice none 0 0)=pure ():=by rcases hop with⟨rfl,_⟩|⟨rfl,_⟩<;>simp[eqGuard]
  rw[hg];refine af (aj ?_)
  have fin:∀{s:Sem Value},s=(do pure (.bool b))->eE P s k O (λv k' O'=>l8 k' O' λk2 O2=>k.Le k2/\∃a σ',V k2 v a/\Rel k2 O2 σ'/\K a σ') (λv k' O'=>k.Le k'/\∃a σ',V k' v a/\Rel k' O' σ'/\Kp a σ'):=λe=>by rw[e];exact aj (.here ⟨.refl k,_,σ,.lit _,hr,hK⟩)
  have heq:∀(R:Bool->ag->ah->Prop) (Rp:Value->ag->ah->Prop),R isNil k O->eE P (Op.equal t (.slice a n c) (.slice none 0 0)) k O R Rp:=λR Rp hR=>by
   show eE P (Op.equalIn (9999+1) t (.slice a n c) (.slice none 0 0)) k O R Rp;rw[Op.equalIn];refine af (aB L ht λd _ hd=>?_)
   rw[bF hd hk];cases a<;>simp at hn<;>subst hn<;>exact aj hR
  rcases hop with⟨rfl,rfl⟩|⟨rfl,rfl⟩
  . exact af (s:=Op.equal t (.slice a n c) (.slice none 0 0)) (heq _ _ (fin rfl))
  . exact af (s:=Op.equal t (.slice a n c) (.slice none 0 0)) (heq _ _ (fin rfl))
end
end Go.aN
