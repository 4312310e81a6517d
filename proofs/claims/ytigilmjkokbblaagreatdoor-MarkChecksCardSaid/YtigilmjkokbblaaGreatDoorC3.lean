/- Part 3 of the proof. -/
import Derived.Test.YtigilmjkokbblaaGreatDoorC2
set_option linter.all false
namespace Go.bd
open Go.Conc
def ah.vY(k:ah)(r:Nat)(c:Array Value)(n:Nat):ah:={k with cell:=λb j=>if b=r/\j<n then c[j]? else k.cell b j}
def ai.del(O:ai)(r:Nat):ai:=λb=>if b=r then none else O b
theorem Ep(k:ah)(O:ai)(r:Nat)(j:∀f,O r≠some (.part f)):lP k O k (O.del r):=λw h=>by
 have hd:∀b x,(O.del r) b=some x->O b=some x:=λb x e=>by
  unfold ai.del at e;split at e
  . cases e
  . exact e
 have l:∀b i,aY (O.del r) b i->aY O b i:=λb i m=>by
  rcases m with⟨o,a⟩|⟨n,a,d⟩|⟨f,a,d⟩
  . exact .inl ⟨o,hd _ _ a⟩
  . exact .inr (.inl ⟨n,hd _ _ a,d⟩)
  . exact .inr (.inr ⟨f,hd _ _ a,d⟩)
 exact⟨⟨λb i v e g=>h.apart b i v e (l b i g),h.cell,h.sh,λb o e=>h.obj b o (hd b _ e),λb n e=>h.tail b n (hd b _ e),λb f e=>h.part b f (hd b _ e)⟩,
  ⟨.refl k,Nat.le_refl _,λ_ _ _=>rfl,λ_ _ _ _ c _ h=>⟨c,h,rfl,λ_ _=>rfl⟩,λ_ _ _ _ c _ h=>⟨c,h,rfl,λ_ _=>rfl⟩,λ_ _=>rfl,λb x e=>.inl ⟨x,hd b x e,.refl x⟩,λ_ _ _ h=>.inl h,λ_ _ h=>.inl h,by simp,rfl,rfl,rfl,by simp,λb f hb=>⟨f,by unfold ai.del;rw[if_neg (λe=>by rw[e]at hb;exact j f hb)];exact hb⟩⟩⟩
theorem n7{k:ah}{O:ai}{r n:Nat}{c:Array Value}{e:TypeId}(l:O r=some (.obj (.cells c e (0,0))))(A:k.sh r=some (e,c.size)):lP k O (k.vY r c n) (O.set r (.tail n)):=λw h=>by
 have y:=h.obj _ _ l
 have p:∀j,k.cell r j=none:=λj=>by
  cases q:k.cell r j with
  |none=>rfl
  |some v=>exact(h.apart _ _ _ q (.inl ⟨_,l⟩)).elim
 have s:k.Le (k.vY r c n):=⟨λb i v d=>by
  have:¬(b=r/\i<n):=λx=>by rw[x.1,p]at d;cases d
  simpa[ah.vY,this]using d,λ_ _ h=>h⟩
 refine⟨⟨λb i v d z=>?_,λb i v d=>?_,h.sh,λb o hb=>?_,λb m hb=>?_,λb f hb=>?_⟩,⟨s,Nat.le_refl _,λ_ _ _=>rfl,λ_ _ _ _ c _ h=>⟨c,h,rfl,λ_ _=>rfl⟩,λ_ _ _ _ c _ h=>⟨c,h,rfl,λ_ _=>rfl⟩,λ_ _=>rfl,λb x t=>?_,λb i v d=>?_,λ_ _ h=>.inl h,by simp,rfl,rfl,rfl,by simp,λb f hb=>⟨f,by rw[show(O.set r (.tail n)) b=O b from by simp only[ai.set];rw[if_neg (λe=>by rw[e,l]at hb;cases hb)]];exact hb⟩⟩⟩
 . by_cases hb:b=r
   . subst hb
     rcases z with⟨o,g⟩|⟨m,g,B⟩|⟨f,g,B⟩
     . simp[ai.set]at g
     rotate_left
     . simp[ai.set]at g
     . simp only[ai.set,if_true,Option.some.injEq,Own.tail.injEq]at g
       subst g;have:¬(i<n):=by omega
       simp only[ah.vY,this,and_false,if_false,p]at d;cases d
   . have u:k.cell b i=some v:=by simpa[ah.vY,hb]using d
     exact h.apart b i v u (by simpa[aY,ai.set,hb]using z)
 . by_cases hb:b=r/\i<n
   . obtain⟨rfl,C⟩:=hb
     simp only[ah.vY,C,and_self,if_true]at d;simp[World.cell?,y,d]
   . exact h.cell b i v (by simpa only[ah.vY,hb,if_false]using d)
 . by_cases a:b=r
   . subst a;simp[ai.set]at hb
   . exact h.obj b o (by simpa[ai.set,a]using hb)
 . by_cases a:b=r
   . subst a;exact⟨c,e,y,A⟩
   . exact h.tail b m (by simpa[ai.set,a]using hb)
 . by_cases a:b=r
   . subst a;simp[ai.set]at hb
   . exact h.part b f (by simpa[ai.set,a]using hb)
 . by_cases a:b=r
   . subst a
     simp only[ai.set,if_true,Option.some.injEq]at t;subst t;exact .inl ⟨_,l,trivial⟩
   . exact .inl ⟨x,by simpa[ai.set,a]using t,.refl x⟩
 . by_cases hb:b=r/\i<n
   . obtain⟨rfl,_⟩:=hb
     exact .inr (.inl (.inl ⟨_,l⟩))
   . exact .inl (by simpa only[ah.vY,hb,if_false]using d)
theorem ah.Le.put{k:ah}{b i:Nat}{v:Value}(h:k.cell b i=none):k.Le (k.put b i v):=⟨λc j u a=>by
 have:¬(c=b/\j=i):=λx=>by rw[x.1,x.2,h]at a;cases a
 simpa[ah.put,this]using a,λ_ _ h=>h⟩
theorem ah.Le.made{k:ah}{r:Nat}{o:Obj}(h:k.sh r=none):k.Le (k.made r o):=by
 cases o<;>first|exact .refl k|skip
 exact⟨λ_ _ _ h=>h,λb s a=>by
  have:b≠r:=λx=>by rw[x,h]at a;cases a
  simpa[ah.made,ah.eF,this]using a⟩
theorem ah.Le.vY{k:ah}{r n:Nat}{c:Array Value}(h:∀j,k.cell r j=none):k.Le (k.vY r c n):=⟨λb i v a=>by
 have:¬(b=r/\i<n):=λx=>by rw[x.1,h]at a;cases a
 simpa[ah.vY,this]using a,λ_ _ h=>h⟩
def np(k:ah)(O:ai)(b base:Nat)(l:List AV):Prop:=∀(j:Nat) a,l[j]?=some a->∃v,Reads k O ⟨b,base+j,none⟩ v/\V k v a/\flat v=true
def bW(l:List AV)(off size:Nat)(agg:Bool):Option AV:=if agg then(if off+size<=l.length then some (.agg ((l.drop off).take size))else none)else l[off]?
theorem gz(b off n:Nat):Addr.add ⟨b,off,none⟩ n=⟨b,off+n,none⟩:=by
 unfold Addr.add;split
 . next h=>subst h;rfl
 . rfl
section
variable{P:Program}(L:iG P){k:ah}{O:ai}{Kp:Value->ah->ai->Prop}
theorem B5{K:Value->ah->ai->Prop}{a:Addr}{v:Value}(h:Reads k O a v)(b:K v k O):eh P (load a) k O K Kp:=⟨rfl,v,h,b⟩
theorem je{K:Array Value->ah->ai->Prop}{b base:Nat}{l:List AV}(o:np k O b base l){off:Nat}:
 ∀ (n i:Nat) (acc:Array Value),off+i+n<=l.length->(∀vs:List Value,vs.length=n->(∀(j:Nat) v a,vs[j]?=some v->l[off+i+j]?=some a->V k v a)->(∀v∈vs,flat v=true)->K (acc++vs.toArray) k O) ->
   eh P (loadCellsFrom ⟨b,base+off,none⟩ i n acc) k O K Kp:=by
 intro n;induction n with
 |zero=>intro i acc _ h;exact aj (by simpa using h [] rfl (λj v a h=>by simp at h) (by simp))
 | succ n p=>
   intro i acc hlen h;have c:off+i<l.length:=by omega
   obtain⟨v,q,r,s⟩:=o (off+i) l[off+i] (by simp[c]);unfold loadCellsFrom;rw[gz];refine af (B5 (v:=v) (by rw[Nat.add_assoc];exact q) ?_);refine p (i+1) (acc.push v) (by omega) λvs f t g=>?_
   have:=h (v::vs) (by simp[f]) (λj u a m d=>?_) (λu hu=>by
    rcases List.mem_cons.1 hu with rfl|hu
    . exact s
    . exact g u hu)
   . simpa using this
   . cases j with
     | zero=>
       simp at m d;subst m
       have:a=l[off+i]:=by
        have e:l[off+i]?=some l[off+i]:=by simp[c]
        rw[e]at d;exact(Option.some.inj d).symm
       rw[this];exact r
     |succ j=>exact t j u a (by simpa using m) (by rw[<-d];congr 1;omega)
theorem mF{K:Value->ah->ai->Prop}{b base off:Nat}{l:List AV}{t:Nat}{i:TI}{a:AV}(g:np k O b base l)(h:L.tt t=some i)(c:bW l off i.size i.agg=some a)
 (m:∀v,V k v a->K v k O):eh P (loadVar t ⟨b,base+off,none⟩) k O K Kp:=by
 unfold loadVar;refine af (qd L h ?_);unfold bW at c;cases d:i.agg
 . simp only[d]at c
   obtain⟨v,n,o,_⟩:=g off a (by simpa using c);simp only[Bool.false_eq_true,if_false];exact B5 n (m v o)
 . simp only[d,if_true]at c ⊢
   split at c
   . next p=>
     simp only[Option.some.injEq]at c;subst c;refine af (bQ L h ?_);unfold loadCells;refine af (je g _ 0 _ (by omega) λvs f q _=>?_);refine aj (m _ (.agg _ _ ?_ λj v a r e=>?_))
     . simp[f];omega
     . refine q j v a (by simpa using r) ?_
       rw[List.getElem?_take]at e;split at e
       . rw[List.getElem?_drop]at e;simpa using e
       . cases e
   . cases c
theorem np.own{b:Nat}{c:Array Value}{e:TypeId}{fz:Nat × Nat}{l:List AV}(g:O b=some (.obj (.cells c e fz)))(h:c.size=l.length)(m:∀(i:Nat) v a,c[i]?=some v->l[i]?=some a->V k v a)(n:∀(i:Nat) v,c[i]?=some v->flat v=true):np k O b 0 l:=λj a f=>by
 have d:j<c.size:=by rw[h];exact(List.getElem?_eq_some_iff.1 f).1
 refine⟨c[j],⟨rfl,.inr ⟨c,e,fz,g,by simp[d]⟩⟩,m j _ a (by simp[d]) f,n j _ (by simp[d])⟩
theorem np.stay{b:Nat}{l:List AV}{σ:aa}(c:Rel k O σ)(hb:σ b=some (.stay l)):np k O b 0 l:=λj a d=>by obtain⟨v,e,f,g⟩:=(c.2 _ _ hb rfl).2.2 l rfl j a d;exact⟨v,⟨rfl,.inl (by simpa using e)⟩,f,g⟩
theorem np.known{b base:Nat}{l:List AV}{c:Nat->Value}(e:∀j,j<l.length->k.cell b (base+j)=some (c j)/\flat (c j)=true)(f:∀(j:Nat) a,l[j]?=some a->V k (c j) a):np k O b base l:=λj a d=>⟨c j,⟨rfl,.inl (e j (List.getElem?_eq_some_iff.1 d).1).1⟩,f j a d,(e j (List.getElem?_eq_some_iff.1 d).1).2⟩
end
def Nu(l:List AV)(hole:List Nat)(off size:Nat)(agg:Bool):Option AV:=if agg then(if off+size<=l.length/\hole.all (λh=>decide (h<off\/off+size<=h))=true then some (.agg ((l.drop off).take size))else none)else if hole.contains off=true then none else l[off]?
def oW(i:TI)(σ:aa):AV->Option AV
 |.cp v off=>bW v.cells off i.size i.agg
 |.kp _ l hole off=>Nu l hole off i.size i.agg
 |.ref b off=>match σ b with|some (.cells l)=>bW l off i.size i.agg|some (.stay l)=>bW l off i.size i.agg|_=>none
 |_=>none
def AV.flat:AV->Bool
 |.lit v=>bd.flat v
 |.bC=>false
 |.agg _=>false
 |.bG _=>false
 |_=>true
theorem V.flat{k:ah}{v:Value}{a:AV}(h:V k v a)(b:a.flat=true):bd.flat v=true:=by cases h<;>first|rfl|exact b|simp[AV.flat]at b
theorem V.cells{k:ah}{v:Value}{a:AV}(h:V k v a)(f:a.cells.all AV.flat=true):v.cells.size=a.cells.length/\(∀(i:Nat) u x,v.cells[i]?=some u->a.cells[i]?=some x->V k u x)/\∀(i:Nat) u,v.cells[i]?=some u->bd.flat u=true:=by
 by_cases d:∃l,a=.agg l
 . obtain⟨l,rfl⟩:=d
   cases h with
   | agg c l j m=>
     refine⟨j,m,λi u b=>?_⟩
     have n:i<l.length:=by rw[<-j];exact(Array.getElem?_eq_some_iff.1 b).1
     refine(m i u l[i] b (by simp[n])).flat ?_
     simp only[AV.cells,List.all_eq_true]at f;exact f _ (List.getElem_mem n)
 . have o:a.cells=[a]:=by cases a<;>first|rfl|exact absurd ⟨_,rfl⟩ d
   have g:a.flat=true:=by rw[o]at f;simpa using f
   have e:=h.flat g;have q:v.cells=#[v]:=by cases v<;>first|rfl|cases e
   rw[o,q];refine⟨rfl,λi u x b p=>?_,λi u b=>?_⟩
   . cases i with
     |zero=>simp at b p;subst b;subst p;exact h
     |succ i=>simp at b
   . cases i with
     |zero=>simp at b;subst b;exact e
     |succ i=>simp at b
def aG(l:List AV)(off:Nat)(c:List AV):List AV:=l.take off++c++l.drop (off+c.length)
def n8(i:TI)(σ:aa)(p v:AV):Option aa:=
 match p with
 | .ref b off=>match σ b with
   |some (.cells l)=>if v.cells.length=i.size/\off+i.size<=l.length/\v.cells.all AV.flat=true then some (σ.set b (.cells (aG l off v.cells)))else none
   |_=>none
 |_=>none
section
variable{P:Program}(L:iG P){k:ah}{O:ai}{Kp:Value->ah->ai->Prop}
theorem pv{K:Unit->ah->ai->Prop}{b off:Nat}{e:TypeId}:∀(vs:List Value) (i:Nat) (c:Array Value) (O:ai),O b=some (.obj (.cells c e (0,0)))->off+i+vs.length<=c.size->(∀v∈vs,flat v=true) ->
 (∀(O':ai) (c':Array Value),O'=O.set b (.obj (.cells c' e (0,0)))->c'.size=c.size->(∀j,c'[j]?=if off+i<=j/\j<off+i+vs.length then vs[j-(off+i)]? else c[j]?)->K () k O') ->
 eh P (storeCells ⟨b,off,none⟩ vs i) k O K Kp:=by
 intro vs;induction vs with
 | nil=>
   intro i c O d hlen f h;refine aj (h O c ?_ rfl λj=>?_)
   . funext x
     by_cases a:x=b
     . subst a;simp[ai.set,d]
     . simp[ai.set,a]
   . have:¬(off+i<=j/\j<off+i+([]:List Value).length):=by simp
     rw[if_neg this]
 | cons v vs o=>
   intro i c O d hlen f h;simp only[List.length_cons]at hlen;unfold storeCells;rw[gz];refine af (s:=store ⟨b,off+i,none⟩ v) ⟨rfl,f v (by simp),rfl,.inl ⟨c,e,d,by simp;omega,?_⟩⟩;refine o (i+1) (c.setIfInBounds (off+i) v) _ (by simp[ai.set]) (by simp;omega) (λu p=>f u (by simp[p])) λO' c' q g r=>?_
   refine h O' c' ?_ (by simpa using g) λj=>?_
   . rw[q];funext x;by_cases a:x=b<;>simp[ai.set,a]
   . rw [r j]
     by_cases m:j=off+i
     . subst m
       have:¬(off+(i+1)<=off+i/\off+i<off+(i+1)+vs.length):=by omega
       rw[if_neg this,if_pos (by simp)];have l:off+i<c.size:=by omega
       simp[l]
     . rw[Array.getElem?_setIfInBounds_ne (Ne.symm m)]
       by_cases n:off+(i+1)<=j/\j<off+(i+1)+vs.length
       . rw[if_pos n,if_pos (by simp;omega)]
         have:j-(off+i)=(j-(off+(i+1)))+1:=by omega
         rw[this,List.getElem?_cons_succ]
       . rw[if_neg n,if_neg (by simp;omega)]
theorem vZ{l c:List AV}{off:Nat}(h:off+c.length<=l.length)(j:Nat):(aG l off c)[j]?=if off<=j/\j<off+c.length then c[j-off]? else l[j]?:=by
 unfold aG;have a:(l.take off).length=off:=by simp;omega
 by_cases b:j<off
 . rw[List.append_assoc,List.getElem?_append_left (by omega),if_neg (by omega),List.getElem?_take,if_pos b]
 . rw[List.append_assoc,List.getElem?_append_right (by omega),a]
   by_cases d:j<off+c.length
   . rw[List.getElem?_append_left (by omega),if_pos (by omega)]
   . rw[List.getElem?_append_right (by omega),if_neg (by omega),List.getElem?_drop]
     congr 1;omega
theorem mZ{l c:List AV}{off:Nat}(h:off+c.length<=l.length):(aG l off c).length=l.length:=by unfold aG;simp;omega
theorem rX{K:Unit->ah->ai->Prop}{σ σ':aa}{p a:AV}{v:Value}{ad:Addr}{t:Nat}{i:TI}(r:Rel k O σ)(z:V k (.pointer (some ad)) p)(A:V k v a)(B:L.tt t=some i)(f:n8 i σ p a=some σ')
 (C:∀O',Rel k O' σ'->K () k O'):eh P (storeVar t ad v) k O K Kp:=by
 unfold n8 at f;cases p<;>simp only[]at f<;>try cases f
 rename_i b off;cases z;cases hb:σ b with
 |none=>rw[hb]at f;cases f
 | some x=>
   rw[hb]at f;cases x with
   | cells l =>
     simp only[]at f;split at f
     . next g=>
       obtain⟨D,R,E⟩:=g;simp only[Option.some.injEq]at f;subst f;obtain⟨y,F,G⟩:=r.1 b _ hb (by simp)
       cases G with
       | cells c e l H I J=>
         obtain⟨s,M,w⟩:=A.cells E;unfold storeVar;refine af (bQ L B ?_);have o:¬v.cells.size≠i.size:=by rw[s,D];simp
         simp only[if_neg o];refine af (aj ?_)
         refine pv v.cells.toList 0 c O F (by simp only[Array.length_toList];omega) (λu d=>by obtain⟨j,h,rfl⟩:=List.mem_iff_getElem.1 d;exact w j _ (by simp at h;simp[h])) λO' N Q q m=>?_
         subst Q;have hlen:off+a.cells.length<=l.length:=by omega
         refine C _ (r.set (.cells N e _ (by rw[q,mZ hlen];exact H) (λj u x d n=>?_) λj u d=>?_))
         . rw[m]at d
           rw[vZ hlen]at n;simp only[Nat.add_zero,Array.length_toList,s]at d
           by_cases h:off<=j/\j<off+a.cells.length
           . rw[if_pos h]at d n
             exact M _ u x (by simpa using d) n
           . rw[if_neg h]at d n
             exact I j u x d n
         . rw[m]at d
           split at d
           . exact w _ u (by simpa using d)
           . exact J j u d
     . cases f
   |_=>cases f
theorem B6{σ:aa}{p:AV}{ad:Addr}{i:TI}{a:AV}(w:Rel k O σ)(q:V k (.pointer (some ad)) p)(d:oW i σ p=some a):∃b base off l,ad=⟨b,base+off,none⟩/\np k O b base l/\bW l off i.size i.agg=some a:=by
 unfold oW at d;cases p<;>simp only[]at d<;>try cases d
 . rename_i v off
   cases q with
   |cp b base off N E v c _ _ n o=>exact⟨b,base,off,v.cells,rfl,.known n o,d⟩
 . rename_i b l hole off
   cases q with
   | kp _ _ N E _ _ c _ _ n o=>
     unfold Nu at d;split at d
     . next f=>
       split at d
       . next r=>
         simp only[Option.some.injEq]at d;subst d;have hlen:((l.drop off).take i.size).length=i.size:=by simp;omega
         refine⟨b,off,0,(l.drop off).take i.size,by simp,λj a s=>?_,by simp[bW,f,hlen,List.take_take]⟩
         have z:j<i.size:=by rw[<-hlen];exact(List.getElem?_eq_some_iff.1 s).1
         have h:l[off+j]?=some a:=by rw[List.getElem?_take,if_pos z,List.getElem?_drop]at s;exact s
         have g:off+j∉hole:=λA=>by have:=List.all_eq_true.1 r.2 _ A;simp at this;omega
         obtain⟨t,u⟩:=n (off+j) (List.getElem?_eq_some_iff.1 h).1 g;exact⟨c (off+j),⟨rfl,.inl t⟩,o _ a g h,u⟩
       . cases d
     . next f=>
       split at d
       . cases d
       . next r=>
         have g:off∉hole:=by simpa using r
         refine⟨b,off,0,[a],by simp,λj y m=>?_,by simp[bW,f]⟩
         match j with
         |0=>simp at m;subst m;obtain⟨t,u⟩:=n off (List.getElem?_eq_some_iff.1 d).1 g;exact⟨c off,⟨rfl,.inl t⟩,o _ _ g d,u⟩
         |j+1=>simp at m
 . rename_i b off
   cases q;cases hb:σ b with
   |none=>rw[hb]at d;cases d
   | some x=>
     rw[hb]at d;cases x with
     | cells l=>
       obtain⟨y,B,m⟩:=w.1 b _ hb (by simp)
       cases m with
       |cells c e l C D F=>exact⟨b,0,off,l,by simp,.own B C D F,d⟩
     |stay l=>exact⟨b,0,off,l,by simp,.stay w hb,d⟩
     |_=>cases d
end
theorem V.JK{k:ah}{v:Value}{p:AV}(h:V k v p)(a:(∃x off,p=.cp x off)\/(∃b off,p=.ref b off)\/∃b l hole off,p=.kp b l hole off):∃ad,v=.pointer (some ad):=by rcases a with⟨x,off,rfl⟩|⟨b,off,rfl⟩|⟨b,l,hole,off,rfl⟩<;>cases h<;>exact⟨_,rfl⟩
theorem zk{i:TI}{σ:aa}{p a:AV}(h:oW i σ p=some a):(∃x off,p=.cp x off)\/(∃b off,p=.ref b off)\/∃b l hole off,p=.kp b l hole off:=by cases p<;>first|exact .inl ⟨_,_,rfl⟩|exact .inr (.inl ⟨_,_,rfl⟩)|exact .inr (.inr ⟨_,_,_,_,rfl⟩)|cases h
theorem Er{i:TI}{σ σ':aa}{p a:AV}(h:n8 i σ p a=some σ'):(∃x off,p=.cp x off)\/(∃b off,p=.ref b off)\/∃b l hole off,p=.kp b l hole off:=by cases p<;>first|exact .inl ⟨_,_,rfl⟩|exact .inr (.inl ⟨_,_,rfl⟩)|cases h
section
variable{P:Program}(L:iG P){o:Oper}{env:Env}{σ:aa}{K:AV->aa->Prop}{Kp:AV->aa->Prop}
theorem aK.val{s:(Operand->Value)->Sem Value}(d:∀ρ,execOp ρ o=(do pure (.value (<-s ρ))))
 (h:∀k O (ρ:Operand->Value),(∀x∈o.op.operands,V k (ρ x) (ar env x))->Rel k O σ ->
   eh P (s ρ) k O (λv k' O'=>lR k' O' λb e=>k.Le b/\∃a σ',V b v a/\Rel b e σ'/\K a σ') (λv k' O'=>k.Le k'/\∃a σ',V k' v a/\Rel k' O' σ'/\Kp a σ')):aK P o env σ K Kp:=λk O ρ f g=>by
 rw[d];refine af (iq _ (h k O ρ f g) (λv k' O' c=>?_) (λv k' O' c=>c));exact aj ⟨v,.inl rfl,c⟩
theorem vE{x:Operand}(a:o.op=.move x\/o.op=.assign x)(c:K (ar env x) σ):aK P o env σ K Kp:=λk O b d e=>by
 have:execOp b o=pure (.value (b x)):=by rcases a with a|a<;>simp[execOp,a]
 rw[this];refine aj ⟨b x,.inl rfl,.here ⟨.refl k,_,_,d x ?_,e,c⟩⟩
 rcases a with a|a<;>simp[a,Op.operands]
theorem Ge{c a b:Operand}{x:Bool}(d:o.op=.pick c a b)(h:ar env c=.lit (.bool x))(i:K (if x then ar env a else ar env b) σ):aK P o env σ K Kp:=λk O e f j=>by
 have g:=f c (by simp[d,Op.operands]);have l:=f a (by simp[d,Op.operands]);have m:=f b (by simp[d,Op.operands]);rw[h]at g;generalize n:e c=v at g;cases g;have:execOp e o=pure (.value (if x then e a else e b)):=by simp[execOp,d,n,asBool]
 rw[this];refine aj ⟨_,.inl rfl,.here ⟨.refl k,_,_,?_,j,i⟩⟩;cases x<;>simp[l,m]
theorem AO{t:Nat}{p:Operand}{i:TI}{a:AV}(h:o.op=.load t p)(n:L.tt t=some i)(j:oW i σ (ar env p)=some a)(q:K a σ):aK P o env σ K Kp:=
 aK.val (s:=λd=>Instr.loadAt t (d p)) (λd=>by simp[execOp,h]) λk O d f m=>by
  have g:=f p (by simp[h,Op.operands]);obtain⟨u,e⟩:=g.JK (zk j);rw[e]at g;obtain⟨b,base,off,l,rfl,c,r⟩:=B6 m g j;simp only[Instr.loadAt,e,Instr.sureAddr];exact af (aj (mF L c n r λv f=>.here ⟨.refl k,a,σ,f,m,q⟩))
theorem B7{t:Nat}{p x:Operand}{i:TI}{σ':aa}(a:o.op=.store t p x)(h:L.tt t=some i)(d:n8 i σ (ar env p) (ar env x)=some σ')(j:K (.lit undef) σ'):aK P o env σ K Kp:=λk O f g l=>by
 have b:=g p (by simp[a,Op.operands]);have m:=g x (by simp[a,Op.operands]);obtain⟨n,e⟩:=b.JK (Er d);rw[e]at b;have:execOp f o=(do storeVar t n (f x);pure .skip):=by simp[execOp,a,Instr.storeAt,e,Instr.sureAddr]
 rw[this];exact af (rX L l b m h d λq c=>aj ⟨undef,.inr ⟨rfl,rfl⟩,.here ⟨.refl k,.lit undef,σ',.lit _,c,j⟩⟩)
end
def AV.W(a a':AV):Prop:=∀k v,V k v a->V k v a'
theorem AV.W.refl(a:AV):a.W a:=λ_ _ h=>h
abbrev AV.nil:AV:=.lit (.slice none 0 0)
theorem V.Uw{k:ah}(kk:Nat):V k (.slice none 0 0) (.sl kk [] .any):=.slnil none kk .any (.inl rfl)
theorem cW(kk:Nat):AV.nil.W (.sl kk [] .any):=λk v h=>by cases h;exact .Uw kk
theorem ck(kk:Nat)(es:List AV)(sp:cG):(AV.sl kk es sp).W (.sl kk es .any):=λk v h=>by
 cases h with
 |sl b off cap _ N E _ _ c d e f g i j l=>exact .sl b off cap kk N E es .any c d e f g i j trivial
 |slnil a=>exact .slnil a kk .any (.inl rfl)
def jZ:Value->AV
 |.agg c=>.agg (c.toList.map .lit)
 |v=>.lit v
theorem V.jZ(k:ah)(v:Value):V k v (jZ v):=by
 cases v<;>first|exact .lit _|skip
 rename_i c;refine .agg _ _ (by simp) λi v a d b=>?_
 simp only[List.getElem?_map]at b;rw[show c.toList[i]?=c[i]? from by simp,d]at b;simp at b;subst b;exact .lit v
theorem flatten_cons(a:AV)(es:List AV):flatten (a::es)=a.cells++flatten es:=rfl
theorem flatten_append(es fs:List AV):flatten (es++fs)=flatten es++flatten fs:=by simp[flatten]
theorem aZ{kk:Nat}:∀{es:List AV},(∀e∈es,e.cells.length=kk)->(flatten es).length=es.length*kk
 |[],_=>by simp[flatten]
 |a::es,h=>by rw[flatten_cons,List.length_append,aZ (λe b=>h e (by simp[b])),h a (by simp),List.length_cons,Nat.succ_mul,Nat.add_comm]
theorem iO{kk:Nat}:∀{es:List AV}(_:∀e∈es,e.cells.length=kk){i:Nat}{a:AV}(_:es[i]?=some a) (j:Nat) (_:j<kk),(flatten es)[i*kk+j]?=a.cells[j]?
 |[],_,i,a,b,_,_=>by simp at b
 |x::es,h,0,a,b,j,c=>by simp at b;subst b;rw[flatten_cons,Nat.zero_mul,Nat.zero_add,List.getElem?_append_left (by rw[h x (by simp)];exact c)]
 | x::es,h,i+1,a,b,j,c=>by
   rw[flatten_cons,List.getElem?_append_right (by rw[h x (by simp),Nat.succ_mul];omega),h x (by simp)]
   have:(i+1)*kk+j-kk=i*kk+j:=by rw[Nat.succ_mul];omega
   rw[this];exact iO (λe d=>h e (by simp[d])) (by simpa using b) j c
section
variable{P:Program}(L:iG P){k:ah}{O:ai}{Kp:Value->ah->ai->Prop}
theorem Rel.Ht{σ:aa}(h:Rel k O σ){r:Nat}(i:O r=none){k':ah}(g:k.Le k'){x y:Own}:Rel k' (((O.set r x).set r y).del r) σ:=⟨λb a e d=>by
 obtain⟨z,c,f⟩:=h.1 b a e d;have:b≠r:=λq=>by rw[q,i]at c;cases c
 exact⟨z,by simp[ai.del,ai.set,this,c],f.mono g⟩,λb a e d=>by
 obtain⟨c,f⟩:=(h.mono g).2 b a e d;refine⟨?_,f⟩
 by_cases q:b=r
 . simp[ai.del,q]
 . simp[ai.del,ai.set,q,c]⟩
theorem ns{K:Addr->ah->ai->Prop}{E:TypeId}{c:Array Value}
 (l:∀r k' O',Gb k O r->(lR k' O' λd m=>k.Le d/\(∀j v,c[j]?=some v->d.cell r j=some v)/\d.sh r=some (E,c.size)/\(∀σ,Rel k O σ->Rel d m σ))->K ⟨r,0,none⟩ k' O'):eh P (newRow E c) k O K Kp:=by
 refine af (s:=newObj (.cells c E)) ⟨rfl,λr g=>aj (l r _ _ g ?_)⟩;obtain⟨f1,o,p⟩:=g;have a:k.Le (k.made r (.cells c E)):=.made p;have b:∀j,(k.made r (.cells c E)).cell r j=none:=o;refine⟨_,_,(n7 (n:=c.size) (c:=c) (e:=E) (r:=r) (by simp[ai.set]) (by simp[ah.made,ah.eF])).trans (Ep _ _ r (by simp[ai.set])),a.trans (.vY b),λj v i=>?_,by simp[ah.vY,ah.made,ah.eF],λσ h=>h.Ht f1 (a.trans (.vY b))⟩;have f:j<c.size:=(Array.getElem?_eq_some_iff.1 i).1;simp only[ah.vY,true_and,f,if_true];exact i
theorem eY{K:Addr->ah->ai->Prop}{E:TypeId}{c:Array Value}{σ:aa}(h:Rel k O σ){l:List AV}(d:c.size=l.length)(e:∀(i:Nat) v a,c[i]?=some v->l[i]?=some a->V k v a)(f:∀(i:Nat) v,c[i]?=some v->flat v=true)
 (g:∀r k' O',σ r=none->k.Le k'->Rel k' O' (σ.set r (.cells l))->K ⟨r,0,none⟩ k' O'):eh P (newRow E c) k O K Kp:=by
 refine af (s:=newObj (.cells c E)) ⟨rfl,λr b=>aj (g r _ _ (h.isNone b.1 b.2.2) (.made b.2.2) ?_)⟩;exact(h.mono (.made b.2.2)).set (.cells c E l d (λi v a j m=>(e i v a j m).mono (.made b.2.2)) f)
end
section
variable{P:Program}(L:iG P){o:Oper}{env:Env}{σ:aa}{K:AV->aa->Prop}{Kp:AV->aa->Prop}
theorem B8{t:Nat}{i:TI}(c:o.op=.alloc t)(d:L.tt t=some i)(e:(jZ i.zero).cells.all AV.flat=true)(f:∀b,σ b=none->K (.ref b 0) (σ.set b (.cells (jZ i.zero).cells))):aK P o env σ K Kp:=
 aK.val (s:=λ_=>Instr.alloc t true (.tuple #[])) (λg=>by simp[execOp,c]) λk O g q h=>by
  unfold Instr.alloc;refine af (cU L d ?_);obtain⟨j,l,m⟩:=(V.jZ k i.zero).cells e;refine af (eY h j l m λr u v n p a=>aj ?_);exact .here ⟨p,_,_,.ref r 0,a,f r n⟩
theorem v7{t:Nat}{x:Operand}(d:o.op=.box t x)(e:(ar env x).cells.all AV.flat=true)(f:∀b,σ b=none->K (.ref b 0) (σ.set b (.cells (ar env x).cells))):aK P o env σ K Kp:=
 aK.val (s:=λa=>Instr.box t (a x)) (λa=>by simp[execOp,d]) λk O a g h=>by
  unfold Instr.box;obtain⟨i,j,l⟩:=(g x (by simp[d,Op.operands])).cells e;refine af (eY h i j l λr p q m n c=>aj ?_);exact .here ⟨n,_,_,.ref r 0,c,f r m⟩
theorem JL{t:Nat}{x:Operand}(e:o.op=.box t x)(l:(ar env x).cells.all AV.flat=true)(m:K (.cp (ar env x) 0) σ):aK P o env σ K Kp:=
 aK.val (s:=λc=>Instr.box t (c x)) (λc=>by simp[execOp,e]) λk O c n p=>by
  unfold Instr.box;obtain⟨f,q,u⟩:=(n x (by simp[e,Op.operands])).cells l;refine af (ns λr C D E v=>aj ?_);obtain⟨w,y,g,h,z,A,d⟩:=v;refine⟨w,y,g,h,_,σ,?_,d σ p,m⟩;refine V.cp r 0 0 _ _ _ (λj=>(c x).cells.getD j undef) A (by omega) (λj B=>?_) (λj a i=>?_)
  . have b:j<(c x).cells.size:=by rw[f];exact B
    rw[Nat.zero_add,z j ((c x).cells[j]) (by simp[b])];have:=u j ((c x).cells[j]) (by simp[b]);simpa[Array.getD,b]using this
  . have b:j<(c x).cells.size:=by rw[f];exact(List.getElem?_eq_some_iff.1 i).1
    have:=(q j ((c x).cells[j]) a (by simp[b]) i).mono h;simpa[Array.getD,b]using this
end
inductive JM(k:ah):Value->Nat->List AV->cG->Prop
 |nil (a:Option Addr) (kk:Nat) (sp:cG):(sp=.any\/(sp=.exact/\a.isSome=true))->JM k (.slice a 0 0) kk [] sp
 | row (b off cap kk N:Nat) (E:TypeId) (es:List AV) (sp:cG):es.length<=cap->k.sh b=some (E,N)->off+cap*kk<=N->(∀e∈es,e.cells.length=kk) ->
    (∀O,np k O b off (flatten es))->sp.fits b off es.length kk cap->JM k (.slice (some ⟨b,off,none⟩) es.length cap) kk es sp
theorem V.Hu{k:ah}{v:Value}{kk:Nat}{es:List AV}{sp:cG}(h:V k v (.sl kk es sp)):JM k v kk es sp:=by
 cases h with
 |sl b off cap _ N E _ _ c d e f g i j l=>exact .row b off cap kk N E es sp d e f g (λO=>.known i j) l
 |slnil a _ _ h=>exact .nil a kk sp h
theorem JM.len{k:ah}{v:Value}{kk:Nat}{es:List AV}{sp:cG}(h:JM k v kk es sp):∃a c,v=.slice a es.length c:=by
 cases h
 . exact⟨_,_,rfl⟩
 . exact⟨_,_,rfl⟩
theorem V.ofRow{k:ah}{b off cap kk N:Nat}{E:TypeId}{es:List AV}{sp:cG}(g:es.length<=cap)(h:k.sh b=some (E,N))(i:off+cap*kk<=N)(l:∀e∈es,e.cells.length=kk)
 (f:∀(j:Nat) a,(flatten es)[j]?=some a->∃v,k.cell b (off+j)=some v/\V k v a/\bd.flat v=true) (m:sp.fits b off es.length kk cap):V k (.slice (some ⟨b,off,none⟩) es.length cap) (.sl kk es sp):=by
 refine .sl b off cap kk N E es sp (λj=>(k.cell b (off+j)).getD undef) g h i l (λj n=>?_) (λj a o=>?_) m
 . obtain⟨v,c,_,p⟩:=f j (flatten es)[j] (by simp[n])
   rw[c];exact⟨rfl,p⟩
 . obtain⟨v,c,d,_⟩:=f j a o
   rw[c];exact d
theorem V.lq{k:ah}{v:Value}{kk:Nat}{es:List AV}{sp:cG}(h:V k v (.sl kk es sp)):(∃a,v=.slice a 0 0/\es=[]/\(sp=.any\/(sp=.exact/\a.isSome=true)))\/
 ∃b off cap N E,v=.slice (some ⟨b,off,none⟩) es.length cap/\es.length<=cap/\k.sh b=some (E,N)/\off+cap*kk<=N/\(∀e∈es,e.cells.length=kk)/\(∀(j:Nat) a,(flatten es)[j]?=some a->∃v,k.cell b (off+j)=some v/\V k v a/\bd.flat v=true)/\sp.fits b off es.length kk cap:=by
 cases h with
 |sl b off cap _ N E _ _ c g i l m f n o=>exact .inr ⟨b,off,cap,N,E,rfl,g,i,l,m,λj a d=>⟨c j,(f j (List.getElem?_eq_some_iff.1 d).1).1,n j a d,(f j (List.getElem?_eq_some_iff.1 d).1).2⟩,o⟩
 |slnil a _ _ h=>exact .inl ⟨a,rfl,rfl,h⟩
theorem V.JN{k:ah}{b off cap kk N:Nat}{es:List AV}{sp:cG}(h:V k (.slice (some ⟨b,off,none⟩) N cap) (.sl kk es sp)):∀(j:Nat) a,(flatten es)[j]?=some a->∃v,k.cell b (off+j)=some v/\V k v a/\bd.flat v=true:=by
 intro j a d;cases h with
 |sl _ _ _ _ N E _ _ c g i l m e f n=>exact⟨c j,(e j (List.getElem?_eq_some_iff.1 d).1).1,f j a d,(e j (List.getElem?_eq_some_iff.1 d).1).2⟩
 |slnil=>simp[flatten]at d
section
variable{P:Program}(L:iG P){o:Oper}{env:Env}{σ:aa}{K:AV->aa->Prop}{Kp:AV->aa->Prop}
theorem bs{i:TI}{d:TypeDesc}{e:Nat}(h:dJ P i d=true)(a:i.kind=.slice e):d=.slice e:=by cases d<;>simp_all [dJ]
theorem qZ{i:TI}{d:TypeDesc}{n e:Nat}(h:dJ P i d=true)(a:i.kind=.array n e):d=.array n e:=by cases d<;>simp_all [dJ]
theorem AP{x:Operand}{b:Array TypeId}{t e:Nat}{i:TI}{kk:Nat}{es:List AV}{sp:cG}(j:o.op=.call ⟨.builtin .len,#[x],b⟩)(l:b[0]?=some t)(m:L.tt t=some i)(n:i.kind=.slice e)
 (f:ar env x=.sl kk es sp\/(ar env x=.nil/\es=[])) (p:K (.lit (.int .i64 es.length)) σ):aK P o env σ K Kp:=
 fun k O g q r=>by
  have h:=q x (by simp[j,Op.operands,Call.operands])
  have s:∃a c,g x=.slice a es.length c:=by
   rcases f with f|⟨f,rfl⟩
   . rw[f]at h;exact h.Hu.len
   . rw[f]at h
     generalize g x=v at h;cases h;exact⟨_,_,rfl⟩
  obtain⟨a,c,u⟩:=s;have:execOp g o=(do pure (Next.value (<-Builtin.len_ b o.type #[g x]))):=by simp[execOp,j,resolve,invoke,builtin]
  rw[this];refine af ?_;unfold Builtin.len_;simp only[l,List.getElem?_toArray,List.getElem?_cons_zero];refine af (aD L m λd _ hd=>?_);rw[bs hd n,u];exact aj (aj ⟨_,.inl rfl,.here ⟨.refl k,_,σ,.lit _,r,p⟩⟩)
theorem zn{x:Operand}{f:Array TypeId}{t e:Nat}{i:TI}{b off len cap:Nat}(j:o.op=.call ⟨.builtin .len,#[x],f⟩)(l:f[0]?=some t)(m:L.tt t=some i)(n:i.kind=.slice e)
 (p:ar env x=.ew b off len cap) (q:K (.lit (.int .i64 len)) σ):aK P o env σ K Kp:=
 λk O g r s=>by
  have h:=r x (by simp[j,Op.operands,Call.operands])
  have u:∃a c,g x=.slice a len c:=by rw[p]at h;generalize g x=v at h;cases h;exact⟨_,_,rfl⟩
  obtain⟨a,c,w⟩:=u;have:execOp g o=(do pure (Next.value (<-Builtin.len_ f o.type #[g x]))):=by simp[execOp,j,resolve,invoke,builtin]
  rw[this];refine af ?_;unfold Builtin.len_;simp only[l,List.getElem?_toArray,List.getElem?_cons_zero];refine af (aD L m λd _ hd=>?_)
  rw[bs hd n,w];exact aj (aj ⟨_,.inl rfl,.here ⟨.refl k,_,σ,.lit _,s,q⟩⟩)
theorem cZ{k:ah}{v:Value}{kd:IntKind}{n:Int}(h:V k v (.lit (.int kd n))):v=.int kd n:=by cases h;rfl
theorem v8{t e:Nat}{x l:Operand}{it f:TI}{es:List AV}{sp:cG}{n:Int}{kd:IntKind}{a:AV}(p:o.op=.indexAddr t x l)(D:L.tt t=some it)(F:it.kind=.slice e)(M:L.tt e=some f)
 (Q:ar env x=.sl f.size es sp) (R:ar env l=.lit (.int kd n)) (S:0<=n) (g:es[n.toNat]?=some a) (T:K (.cp a 0) σ):aK P o env σ K Kp:=
 aK.val (s:=λh=>Instr.indexAt t (h x) (h l)) (λh=>by simp[execOp,p]) λk O h G U=>by
  have m:=G x (by simp[p,Op.operands]);have H:=G l (by simp[p,Op.operands]);rw[Q]at m;rw[R]at H;rw[cZ H];have q:n.toNat<es.length:=(List.getElem?_eq_some_iff.1 g).1;generalize h x=v at m;have c:=m;cases m.Hu with
  |nil=>simp at q
  | row b off cap _ N E _ _ Y W Z r g5 g6=>
    unfold Instr.indexAt;refine af (aj ?_);refine af (aD L D λd _ hd=>?_);rw[bs hd F];dsimp only;refine af (aj ?_);dsimp only;refine af (aD L D λd2 _ w=>?_);rw[bs w F];dsimp only;rw[if_pos ⟨S,by omega⟩];refine af (bQ L M (aj (.here ⟨.refl k,_,σ,?_,U,T⟩)));rw[gz];have X:a.cells.length=f.size:=r a (List.mem_iff_getElem?.2 ⟨_,g⟩)
    have z:off+n.toNat*f.size+a.cells.length<=N:=by
     have hn:n.toNat<es.length:=(List.getElem?_eq_some_iff.1 g).1;have:=Nat.mul_le_mul_right f.size (show n.toNat+1<=cap by omega);rw[Nat.add_mul,Nat.one_mul]at this;omega
    refine V.cp b (off+n.toNat*f.size) 0 N E a (λj=>(k.cell b (off+n.toNat*f.size+j)).getD undef) W z (λj I=>?_) (λj y J=>?_)
    . have A:=iO r g j (by omega)
      obtain⟨u,i,_,B⟩:=c.JN (n.toNat*f.size+j) a.cells[j] (by rw[A];simp[I]);rw[<-Nat.add_assoc]at i;rw[i];exact⟨rfl,B⟩
    . have I:j<a.cells.length:=(List.getElem?_eq_some_iff.1 J).1
      have A:=iO r g j (by omega);obtain⟨u,i,C,_⟩:=c.JN (n.toNat*f.size+j) y (by rw[A];exact J);rw[<-Nat.add_assoc]at i;rw[i];exact C
end
section
variable{P:Program}(L:iG P){o:Oper}{env:Env}{σ:aa}{K:AV->aa->Prop}{Kp:AV->aa->Prop}
theorem uF{k:ah}{O:ai}{Kp:Value->ah->ai->Prop}{t:Nat}{info:TypeInfo}{K:Nat->ah->ai->Prop}(h:P.info? t=some info)(a:K info.size k O):eh P (sizeOf t) k O K Kp:=by unfold sizeOf typeInfo;refine af (af (bN ?_));rw[h];exact aj a
theorem uG{i:TI}{d:TypeDesc}(h:dJ P i d=true)(c:i.kind=.struct){j:Nat}{x:Nat × Nat × Nat}(e:i.jd[j]?=some x):∃fs f info,d=.struct fs/\fs[j]?=some f/\f.offset=x.1/\P.info? f.type=some info/\info.size=x.2.1/\f.type=x.2.2:=by
 cases d with
 | struct fs=>
   simp only[dJ,Bool.and_eq_true,beq_iff_eq]at h;have b:=congrArg (λl=>l[j]?) h.2;simp only[List.getElem?_map,e,Option.map_some]at b;obtain⟨f,g,a⟩:=Option.map_eq_some_iff.1 b;simp only[Prod.mk.injEq]at a;obtain⟨info,k,m⟩:=Option.map_eq_some_iff.1 a.2.1;exact⟨fs,f,info,rfl,by simpa using g,a.1,k,m,a.2.2⟩
 |_=>simp[dJ,c]at h
def rY(a:AV)(n:Nat):Option AV:=
 match a with
 |.cp v off=>some (.cp v (off+n))
 |.kp b l hole off=>some (.kp b l hole (off+n))
 |.ref b off=>some (.ref b (off+n))
 |_=>none
theorem V.rY{k:ah}{v:Value}{a a':AV}{n:Nat}(h:V k v a)(d:rY a n=some a'):∃b off,v=.pointer (some ⟨b,off,none⟩)/\V k (.pointer (some ⟨b,off+n,none⟩)) a':=by
 cases a<;>simp only[bd.rY,reduceCtorEq,Option.some.injEq]at d
 . subst d
   cases h with
   |cp b base _ N E _ c e f g i=>exact⟨b,_,rfl,by rw[Nat.add_assoc];exact .cp b base _ N E _ c e f g i⟩
 . subst d
   cases h with
   |kp _ _ N E _ _ c e f g i=>exact⟨_,_,rfl,.kp _ _ N E _ _ c e f g i⟩
 . subst d
   cases h;exact⟨_,_,rfl,.ref _ _⟩
theorem rZ{s j:Nat}{x:Operand}{i:TI}{f:Nat × Nat × Nat}{a':AV}(h:o.op=.fieldAddr s x j)(l:L.tt s=some i)(m:i.kind=.struct)(n:i.jd[j]?=some f)(p:f.2.1≠0)
 (q:rY (ar env x) f.1=some a') (r:K a' σ):aK P o env σ K Kp:=
 aK.val (s:=λa=>Instr.fieldAt s (a x) j) (λa=>by simp[execOp,h]) λk O a t u=>by
  obtain⟨b,off,e,c⟩:=(t x (by simp[h,Op.operands])).rY q;unfold Instr.fieldAt;refine af (aD L l λd _ hd=>?_);obtain⟨fs,g,info,rfl,v,w,y,z,_⟩:=uG hd m n;dsimp only;rw[v,e];dsimp only;refine af (aj ?_);unfold fieldPlace;refine af (af (uF y ?_));rw[z,if_neg p];refine aj (aj (.here ⟨.refl k,_,σ,?_,u,r⟩));rw[gz,w];exact c
theorem uH{t n e:Nat}{x a:Operand}{it i:TI}{z:Int}{kd:IntKind}{a':AV}(f:o.op=.indexAddr t x a)(j:L.tt t=some it)(l:it.kind=.array n e)(q:L.tt e=some i)
 (r:ar env a=.lit (.int kd z)) (u:0<=z/\z<n) (v:rY (ar env x) (z.toNat*i.size)=some a') (w:K a' σ):aK P o env σ K Kp:=
 aK.val (s:=λc=>Instr.indexAt t (c x) (c a)) (λc=>by simp[execOp,f]) λk O c m y=>by
  obtain⟨b,off,A,g⟩:=(m x (by simp[f,Op.operands])).rY v;have p:=m a (by simp[f,Op.operands]);rw[r]at p;rw[cZ p,A];unfold Instr.indexAt;refine af (aj ?_);refine af (aD L j λd _ hd=>?_);rw[qZ hd l];dsimp only;refine af (aj ?_);refine af (aj ?_);dsimp only;refine af (aD L j λB _ h=>?_);rw[qZ h l];dsimp only;rw[if_pos u];refine af (bQ L q (aj (.here ⟨.refl k,_,σ,?_,y,w⟩)));rw[gz];exact g
theorem uI{t e:Nat}{x c:Operand}{it i:TI}{b off len cap:Nat}{z:Int}{kd:IntKind}(f:o.op=.indexAddr t x c)(j:L.tt t=some it)(l:it.kind=.slice e)(p:L.tt e=some i)
 (q:ar env x=.ew b off len cap) (r:ar env c=.lit (.int kd z)) (u:0<=z/\z<len) (w:K (.ref b (off+z.toNat*i.size)) σ):aK P o env σ K Kp:=
 aK.val (s:=λa=>Instr.indexAt t (a x) (a c)) (λa=>by simp[execOp,f]) λk O a m y=>by
  have g:=m x (by simp[f,Op.operands]);have n:=m c (by simp[f,Op.operands]);rw[q]at g;rw[r]at n;rw[cZ n];generalize a x=v at g;cases g;unfold Instr.indexAt;refine af (aj ?_);refine af (aD L j λd _ hd=>?_);rw[bs hd l];dsimp only;refine af (aj ?_);dsimp only;refine af (aD L j λA _ h=>?_);rw[bs h l];dsimp only;rw[if_pos u];refine af (bQ L p (aj (.here ⟨.refl k,_,σ,?_,y,w⟩)));rw[gz];exact .ref _ _
theorem V.part{k:ah}{O:ai}{Kp:Value->ah->ai->Prop}{t off:Nat}{i:TI}{c:Array Value}{l:List AV}{a:AV}{K:Value->ah->ai->Prop}(h:c.size=l.length)(m:∀(j:Nat) v a,c[j]?=some v->l[j]?=some a->V k v a)
 (n:L.tt t=some i) (b:bW l off i.size i.agg=some a) (o:∀v,V k v a->K v k O):eh P (part t c off) k O K Kp:=by
 unfold Go.part;refine af (qd L n ?_);unfold bW at b;cases d:i.agg
 . simp only[d,Bool.false_eq_true,if_false]at b ⊢
   have e:off<l.length:=(List.getElem?_eq_some_iff.1 b).1;rw[show c[off]?=some c[off]from by simp[h,e]];exact o _ (m off _ a (by simp[h,e]) b)
 . simp only[d,if_true]at b ⊢
   split at b
   . next p=>
     simp only[Option.some.injEq]at b;subst b;refine af (bQ L n (aj (o _ (.agg _ _ ?_ λj v a g f=>?_))))
     . simp[h];omega
     . rw[Array.getElem?_extract]at g
       rw[List.getElem?_take]at f;split at f
       . rw[List.getElem?_drop]at f
         split at g
         . exact m _ v a g f
         . cases g
       . cases f
   . cases b
theorem B9{s j:Nat}{x:Operand}{i h:TI}{f:Nat × Nat × Nat}{l:List AV}{a:AV}(p:o.op=.field s x j)(q:L.tt s=some i)(r:i.kind=.struct)(t:i.jd[j]?=some f)(m:L.tt f.2.2=some h)
 (u:ar env x=.agg l) (w:bW l f.1 h.size h.agg=some a) (y:K a σ):aK P o env σ K Kp:=
 aK.val (s:=λe=>Instr.field s (e x) j) (λe=>by simp[execOp,p]) λk O e n z=>by
  have b:=n x (by simp[p,Op.operands]);rw[u]at b;generalize e x=v at b;cases b with
  | agg c l A B=>
    unfold Instr.field;refine af (aD L q λd _ hd=>?_);obtain⟨fs,g,info,rfl,b,C,E,F,D⟩:=uG hd r t;dsimp only;rw[b];dsimp only;refine af (aj ?_);rw[C,D];exact V.part L A B m w λv n=>.here ⟨.refl k,a,σ,n,z,y⟩
theorem Ca{t n e:Nat}{x f:Operand}{it g:TI}{z:Int}{kd:IntKind}{l:List AV}{a:AV}(i:o.op=.index t x f)(q:L.tt t=some it)(r:it.kind=.array n e)(m:L.tt e=some g)
 (u:ar env x=.agg l) (w:ar env f=.lit (.int kd z)) (y:0<=z/\z<n) (A:bW l (z.toNat*g.size) g.size g.agg=some a) (B:K a σ):aK P o env σ K Kp:=
 aK.val (s:=λb=>Instr.index t (b x) (b f)) (λb=>by simp[execOp,i]) λk O b h C=>by
  have j:=h x (by simp[i,Op.operands]);have p:=h f (by simp[i,Op.operands]);rw[u]at j;rw[w]at p;rw[cZ p];generalize b x=v at j;cases j with
  | agg c l D E=>
    unfold Instr.index;refine af (aj ?_);refine af (aD L q λd _ hd=>?_);rw[qZ hd r];dsimp only;rw[if_pos y];refine af (bQ L m ?_);exact V.part L D E m A λv h=>.here ⟨.refl k,a,σ,h,C,B⟩
def qE(op:BinOp)(k:IntKind)(x y:Int):Option Value:=
 match op with
 |.add=>some (.int k (k.wrap (x+y)))
 |.sub=>some (.int k (k.wrap (x-y)))
 |.mul=>some (.int k (k.wrap (x*y)))
 |.quo=>if y=0 then none else some (.int k (k.wrap (x.tdiv y)))
 |.rem=>if y=0 then none else some (.int k (x.tmod y))
 |.and=>some (.int k (k.wrap ((BitVec.ofInt k.bits x &&& BitVec.ofInt k.bits y).toNat)))
 |.or=>some (.int k (k.wrap ((BitVec.ofInt k.bits x|||BitVec.ofInt k.bits y).toNat)))
 |.xor=>some (.int k (k.wrap ((BitVec.ofInt k.bits x ^^^ BitVec.ofInt k.bits y).toNat)))
 |.eql=>some (.bool (x==y))
 |.neq=>some (.bool (x !=y))
 |.lss=>some (.bool (x<y))
 |.leq=>some (.bool (x<=y))
 |.gtr=>some (.bool (x>y))
 |.geq=>some (.bool (x>=y))
 |_=>none
theorem c9{op:BinOp}{t l:Nat}{x y:Operand}{kd:IntKind}{a b:Int}{v:Value}(g:o.op=.binOp op t x y l)(m:ar env x=.lit (.int kd a))(n:ar env y=.lit (.int kd b))(d:qE op kd a b=some v)(p:K (.lit v) σ):
 aK P o env σ K Kp:=λk O c f q=>by
 have i:=f x (by simp[g,Op.operands]);have j:=f y (by simp[g,Op.operands]);rw[m]at i;rw[n]at j;have r:=cZ i;have s:=cZ j
 have key:(do eqGuard op t x y (c x) (c y);binOp op t (c x) (c y))=(pure v:Sem Value):=by
  rw[r,s]
  cases op<;>simp only[qE,reduceCtorEq,Option.some.injEq]at d<;>
   first
    |(subst d;simp[eqGuard,binOp,Op.intArith,Op.intBits,Op.intCmp];done)
    | (split at d
       . cases d
       . next h=>simp only[Option.some.injEq]at d;subst d;simp[eqGuard,binOp,Op.intDiv,h])
 have:execOp c o=pure (.value v):=by
  have e:execOp c o=(do let v <-(do eqGuard op t x y (c x) (c y);binOp op t (c x) (c y));pure (.value v)):=by simp[execOp,g]
  rw[e,key];rfl
 rw[this];exact aj ⟨v,.inl rfl,.here ⟨.refl k,_,σ,.lit v,q,p⟩⟩
theorem wrap_i64{n:Int}(h:-9223372036854775808<=n/\n<=9223372036854775807):IntKind.i64.wrap n=n:=by simp only[IntKind.wrap,IntKind.bits,IntKind.signed];simp;omega
theorem nu{op:BinOp}{t e:Nat}{x y:Operand}{a b r:Int}(f:o.op=.binOp op t x y e)(g:ar env x=.lit (.int .i64 a))(h:ar env y=.lit (.int .i64 b))
 (d:(op=.add/\r=a+b)\/(op=.sub/\r=a-b)\/(op=.mul/\r=a*b)) (c:-9223372036854775808<=r/\r<=9223372036854775807) (i:K (.lit (.int .i64 r)) σ):aK P o env σ K Kp:=by
 have j:=wrap_i64 c;rcases d with⟨rfl,rfl⟩|⟨rfl,rfl⟩|⟨rfl,rfl⟩<;>exact c9 f g h (by simp only[qE,j]) i
theorem r7{op:BinOp}{t j:Nat}{x y:Operand}{kd l:IntKind}{a b:Int}{v:Value}(f:o.op=.binOp op t x y j)(m:ar env x=.lit (.int kd a))(n:ar env y=.lit (.int l b))(hb:0<=b)
 (g:(op=.shl/\v=.int kd (kd.wrap (a*2 ^ (min b.toNat kd.bits))))\/(op=.shr/\v=.int kd (a.fdiv (2 ^ (min b.toNat kd.bits))))) (p:K (.lit v) σ):
 aK P o env σ K Kp:=λk O c d q=>by
 have h:=d x (by simp[f,Op.operands]);have i:=d y (by simp[f,Op.operands]);rw[m]at h;rw[n]at i;have r:=cZ h;have s:=cZ i;have u:¬b<0:=by omega
 have key:(do eqGuard op t x y (c x) (c y);binOp op t (c x) (c y))=(pure v:Sem Value):=by
  rw[r,s];rcases g with⟨rfl,rfl⟩|⟨rfl,rfl⟩<;>simp[eqGuard,binOp,Op.shift,u]
 have:execOp c o=pure (.value v):=by
  have e:execOp c o=(do let v <-(do eqGuard op t x y (c x) (c y);binOp op t (c x) (c y));pure (.value v)):=by simp[execOp,f]
  rw[e,key];rfl
 rw[this];exact aj ⟨v,.inl rfl,.here ⟨.refl k,_,σ,.lit v,q,p⟩⟩
theorem rb{k:ah}{v:Value}{b:Bool}(h:V k v (.lit (.bool b))):v=.bool b:=by cases h;rfl
theorem JO{t:Nat}{x:Operand}{b:Bool}(c:o.op=.unOp .not t x)(e:ar env x=.lit (.bool b))(f:K (.lit (.bool !b)) σ):aK P o env σ K Kp:=λk O g a h=>by
 have d:=a x (by simp[c,Op.operands]);rw[e]at d;have:execOp g o=pure (.value (.bool !b)):=by simp[execOp,c,rb d,Op.unary]
 rw[this];exact aj ⟨_,.inl rfl,.here ⟨.refl k,_,σ,.lit _,h,f⟩⟩
theorem v9{s t:Nat}{x:Operand}{is it:TI}{kd f:IntKind}{b:IntKind}{a:Int}(g:o.op=.convert s t x)(j:L.tt s=some is)(l:L.tt t=some it)(m:is.kind=.int f)(n:it.kind=.int kd)(p:ar env x=.lit (.int b a))(q:K (.lit (.int kd (kd.wrap a))) σ):aK P o env σ K Kp:=
 aK.val (s:=λc=>convert s t (c x)) (λc=>by simp[execOp,g]) λk O c e r=>by
  have h:=e x (by simp[g,Op.operands])
  rw[p]at h;rw[cZ h];unfold convert;refine af (aD L j λd _ hd=>af (aD L l λi _ u=>?_))
  have v:i=.int kd:=by cases i<;>simp_all [dJ]
  have w:d=.int f:=by cases d<;>simp_all [dJ]
  subst w v;exact aj (.here ⟨.refl k,_,σ,.lit _,r,q⟩)
theorem qe{b:Builtin}{c:Array TypeId}{x y:Operand}{kd:IntKind}{p q:Int}(d:o.op=.call ⟨.builtin b,#[x,y],c⟩)(g:ar env x=.lit (.int kd p))(h:ar env y=.lit (.int kd q))
 {r:Int}(hb:(b=.min/\r=if q<p then q else p)\/(b=.max/\r=if q>p then q else p)) (i:K (.lit (.int kd r)) σ):aK P o env σ K Kp:=λk O j a l=>by
 have e:=a x (by simp[d,Op.operands,Call.operands])
 have f:=a y (by simp[d,Op.operands,Call.operands])
 rw[g]at e;rw[h]at f;have m:=cZ e;have n:=cZ f
 have:execOp j o=pure (.value (.int kd r)):=by
  rcases hb with⟨rfl,rfl⟩|⟨rfl,rfl⟩<;>
  simp[execOp,d,resolve,invoke,builtin,m,n,Builtin.min_,Builtin.max_,Builtin.min2,Builtin.max2]
 rw[this];exact aj ⟨_,.inl rfl,.here ⟨.refl k,_,σ,.lit _,l,i⟩⟩
theorem nv{t:Nat}{x:Operand}{i:TI}(l:o.op=.makeInterface t x)(m:L.tt t=some i)(n:i.kind≠.iface)(p:K (.lg t (ar env x)) σ):aK P o env σ K Kp:=
 aK.val (s:=λf=>Instr.makeInterface t (f x)) (λf=>by simp[execOp,l]) λk O f g q=>by
  unfold Instr.makeInterface;refine af (aD L m λd _ hd=>?_)
  have:∀ms,d≠.interface ms:=λms e=>by subst e;simp[dJ]at hd;exact n hd
  have fin:eh P (pure (Value.iface t (f x)):Sem Value) k O (λv c h=>lR c h λj r=>k.Le j/\∃a b,V j v a/\Rel j r b/\K a b) (λv c h=>k.Le c/\∃a b,V c v a/\Rel c h b/\Kp a b):=aj (.here ⟨.refl k,_,σ,.lg _ _ _ (g x (by simp[l,Op.operands])),q,p⟩)
  cases d<;>first|exact fin|exact absurd rfl (this _)
theorem Vs.ofArray{k:ah}{ρ:Operand->Value}{env:Env}{xs:Array Operand}(h:∀x∈xs,V k (ρ x) (ar env x)):(xs.map ρ).size=(xs.toList.map (ar env)).length/\∀(i:Nat) v a,(xs.map ρ)[i]?=some v->(xs.toList.map (ar env))[i]?=some a->V k v a:=by
 refine⟨by simp,λi v a b c=>?_⟩;simp only[Array.getElem?_map,List.getElem?_map,Array.getElem?_toList]at b c;cases d:xs[i]? with
 |none=>rw[d]at b;cases b
 |some x=>rw[d]at b c;simp at b c;subst b;subst c;exact h x (Array.mem_of_getElem? d)
theorem uJ{fn:Fn}{fs cs:Array Operand}(b:o.op=.makeFunc fn fs cs)(d:K (.fn fn (fs.toList.map (ar env)) (cs.toList.map (ar env))) σ):aK P o env σ K Kp:=λk O ρ a e=>by
 have:execOp ρ o=pure (.value (.func fn (fs.map ρ) (cs.map ρ))):=by simp[execOp,b,Instr.makeFunc]
 rw[this];obtain⟨f,g⟩:=Vs.ofArray (k:=k) (ρ:=ρ) (env:=env) (xs:=fs) λx c=>a x (by simp[b,Op.operands,c])
 obtain⟨h,i⟩:=Vs.ofArray (k:=k) (ρ:=ρ) (env:=env) (xs:=cs) λx c=>a x (by simp[b,Op.operands,c])
 exact aj ⟨_,.inl rfl,.here ⟨.refl k,_,σ,.fn _ _ _ _ _ f g h i,e,d⟩⟩
theorem wh{x:Operand}{j:Nat}{l:List AV}{a:AV}(e:o.op=.extract x j)(i:ar env x=.bG l)(f:l[j]?=some a)(m:K a σ):aK P o env σ K Kp:=λk O g b n=>by
 have d:=b x (by simp[e,Op.operands])
 rw[i]at d;generalize p:g x=v at d;cases d with
 | bG c l q r=>
   have h:j<c.size:=by rw[q];exact(List.getElem?_eq_some_iff.1 f).1
   have:execOp g o=pure (.value c[j]):=by simp[execOp,e,Instr.extract,p,h]
   rw[this];exact aj ⟨_,.inl rfl,.here ⟨.refl k,_,σ,r j _ a (by simp[h]) f,n,m⟩⟩
theorem qI{x:Operand}{B t:Nat}{i:TI}{d:Nat}{y:AV}(C:o.op=.typeAssert x B t true)(D:L.tt t=some i)(G:i.kind≠.iface)(H:ar env x=.lg d y)
 (p:K (if d=t then .bG [y,.lit (.bool true)]else .bG [jZ i.zero,.lit (.bool false)]) σ):aK P o env σ K Kp:=
 aK.val (s:=λm=>Instr.typeAssert (m x) B t true) (λm=>by simp[execOp,C]) λk O m q E=>by
  have g:=q x (by simp[C,Op.operands]);rw[H]at g;generalize m x=v at g;cases g with
  | lg _ v _ I=>
    unfold Instr.typeAssert;refine af (aD L D λF _ hd=>?_);have r:∀ms,F≠.interface ms:=λms e=>by subst e;simp[dJ]at hd;exact G hd
    have pair:∀{u:Value}{b:Bool}{a:AV},V k u a->V k (.tuple #[u,.bool b]) (.bG [a,.lit (.bool b)]):=λ{u b a} h=>.bG _ _ rfl λj w c g n=>by
     match j with
     |0=>simp at g n;subst g;subst n;exact h
     |1=>simp at g n;subst g;subst n;exact .lit _
     |j+2=>simp at g
    have fin:eh P (if d=t then(pure (.tuple #[v,.bool true]):Sem Value)else(do pure (.tuple #[<-zeroValue t,.bool false]))) k O (λv l z=>lR l z λA J=>k.Le A/\∃a f,V A v a/\Rel A J f/\K a f) (λv l z=>k.Le l/\∃a f,V l v a/\Rel l z f/\Kp a f):=by
     split at p
     . next e=>rw[if_pos e];exact aj (.here ⟨.refl k,_,σ,pair I,E,p⟩)
     . next e=>rw[if_neg e];exact af (cU L D (aj (.here ⟨.refl k,_,σ,pair (.jZ k _),E,p⟩)))
    cases F<;>first|exact fin|exact absurd rfl (r _)
theorem fq{x:Operand}(g:o.op=.nilCheck x)(h:(∃v off,ar env x=.cp v off)\/(∃b off,ar env x=.ref b off)\/(∃f l r,ar env x=.fn (.func f) l r)\/∃b l hole off,ar env x=.kp b l hole off)(i:K (ar env x) σ):aK P o env σ K Kp:=λk O c d j=>by
 have a:=d x (by simp[g,Op.operands])
 have:execOp c o=pure (.value (c x)):=by rcases h with⟨v,off,e⟩|⟨b,off,e⟩|⟨f,l,r,e⟩|⟨b,l,hole,off,e⟩<;>rw[e]at a<;>generalize m:c x=w at a<;>cases a<;>simp[execOp,g,m]
 rw[this];exact aj ⟨_,.inl rfl,.here ⟨.refl k,_,σ,a,j,i⟩⟩
theorem Cb{x:Operand}{t:Nat}{y:AV}(c:o.op=.panic x)(e:ar env x=.lg t y)(f:Kp (.lg t y) σ):aK P o env σ K Kp:=λk O d a g=>by
 have b:=a x (by simp[c,Op.operands])
 rw[e]at b;generalize h:d x=w at b;cases b with
 | lg _ v _ i=>
   have:execOp d o=Sem.halt (.panic (.iface t v)):=by simp[execOp,c,h,Instr.panic,goPanic];rfl
   rw[this];exact⟨.refl k,_,σ,.lg _ _ _ i,g,f⟩
theorem Cc{op:BinOp}{t F e:Nat}{x y:Operand}{i:TI}{kk:Nat}{es:List AV}{sp:cG}{isNil:Bool}(u:o.op=.binOp op t x y F)(G:L.tt t=some i)(H:i.kind=.slice e)(I:ar env y=.nil)
 (J:(ar env x=.nil/\isNil=true)\/(ar env x=.sl kk es sp/\es≠[]/\isNil=false)\/(ar env x=.sl kk es sp/\sp≠.any/\isNil=false)){b:Bool}(m:(op=.eql/\b=isNil)\/(op=.neq/\b=!isNil)) (M:K (.lit (.bool b)) σ):aK P o env σ K Kp:=
 aK.val (s:=λf=>do eqGuard op t x y (f x) (f y);binOp op t (f x) (f y)) (λf=>by simp[execOp,u]) λk O f p N=>by
  have j:=p x (by simp[u,Op.operands])
  have z:=p y (by simp[u,Op.operands])
  rw[I]at z;have Q:f y=.slice none 0 0:=by generalize f y=w at z;cases z;rfl
  have A : ∃a n c,f x=.slice a n c/\a.isNone=isNil:=by
   rcases J with⟨e,rfl⟩|⟨e,l,rfl⟩|⟨e,l,rfl⟩<;>rw[e]at j
   . generalize f x=w at j;cases j;exact⟨_,_,_,rfl,rfl⟩
   . generalize f x=w at j
     cases j.Hu with
     |nil=>exact absurd rfl l
     |row=>exact⟨_,_,_,rfl,rfl⟩
   . generalize f x=w at j
     cases j.Hu with
     | nil a _ _ h=>
       rcases h with h|⟨_,h⟩
       . exact absurd h l
       . cases a with
         |none=>cases h
         |some a=>exact⟨_,_,_,rfl,rfl⟩
     |row=>exact⟨_,_,_,rfl,rfl⟩
  obtain⟨a,n,c,A,E⟩:=A;rw[A,Q];have S:eqGuard op t x y (.slice a n c) (.slice none 0 0)=pure ():=by rcases m with⟨rfl,_⟩|⟨rfl,_⟩<;>simp[eqGuard]
  rw[S];refine af (aj ?_)
  have fin:∀{s:Sem Value},s=(do pure (.bool b))->eh P s k O (λv q B=>lR q B λC T=>k.Le C/\∃a g,V C v a/\Rel C T g/\K a g) (λv q B=>k.Le q/\∃a g,V q v a/\Rel q B g/\Kp a g):=λe=>by rw[e];exact aj (.here ⟨.refl k,_,σ,.lit _,N,M⟩)
  have r:∀(R:Bool->ah->ai->Prop) (D:Value->ah->ai->Prop),R isNil k O->eh P (Op.equal t (.slice a n c) (.slice none 0 0)) k O R D:=λR D U=>by
   show eh P (Op.equalIn (9999+1) t (.slice a n c) (.slice none 0 0)) k O R D;rw[Op.equalIn];refine af (aD L G λd _ hd=>?_)
   rw[bs hd H];cases a<;>simp at E<;>subst E<;>exact aj U
  rcases m with⟨rfl,rfl⟩|⟨rfl,rfl⟩
  . exact af (s:=Op.equal t (.slice a n c) (.slice none 0 0)) (r _ _ (fin rfl))
  . exact af (s:=Op.equal t (.slice a n c) (.slice none 0 0)) (r _ _ (fin rfl))
end
end Go.bd
