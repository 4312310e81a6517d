/- Part 3 of the proof. -/
import Derived.Test.YtgpeapadphphpaaGreatDoorC2
set_option linter.all false
namespace Go.Pal
open Go.Conc
def Know.frz (k:Know) (r:Nat) (c:Array Value) (n:Nat):Know:={ k with cell:=fun b j=>if b=r∧j<n then c[j]? else k.cell b j }
def OwnM.del (O:OwnM) (r:Nat):OwnM:=fun b=>if b=r then none else O b
theorem ghost_drop (k:Know) (O:OwnM) (r:Nat) (hn:∀ f,O r≠some (.part f)):Ghost k O k (O.del r):=fun w h=>by
  have hd:∀ b x,(O.del r) b=some x->O b=some x:=fun b x e=>by
    unfold OwnM.del at e;split at e
    . cases e
    . exact e
  have hc:∀ b i,Covers (O.del r) b i->Covers O b i:=fun b i hh=>by
    rcases hh with ⟨o,h1⟩|⟨n,h1,h2⟩|⟨f,h1,h2⟩
    . exact .inl ⟨o,hd _ _ h1⟩
    . exact .inr (.inl ⟨n,hd _ _ h1,h2⟩)
    . exact .inr (.inr ⟨f,hd _ _ h1,h2⟩)
  exact ⟨⟨fun b i v e hcc=>h.apart b i v e (hc b i hcc),h.cell,h.sh,fun b o e=>h.obj b o (hd b _ e),fun b n e=>h.tail b n (hd b _ e),fun b f e=>h.part b f (hd b _ e)⟩,
    ⟨.refl k,Nat.le_refl _,fun _ _ _=>rfl,fun _ _ _ _ c _ h=>⟨c,h,rfl,fun _ _=>rfl⟩,fun _ _ _ _ c _ h=>⟨c,h,rfl,fun _ _=>rfl⟩,fun _ _=>rfl,fun b x e => .inl ⟨x,hd b x e,.refl x⟩,fun _ _ _ h => .inl h,fun _ _ h => .inl h,by simp,rfl,rfl,rfl,by simp,fun b f hb=>⟨f,by unfold OwnM.del;rw [if_neg (fun e=>by rw [e] at hb;exact hn f hb)];exact hb⟩⟩⟩
theorem ghost_freeze {k:Know} {O:OwnM} {r n:Nat} {c:Array Value} {e:TypeId} (ho:O r=some (.obj (.cells c e (0,0)))) (hs:k.sh r=some (e,c.size)):Ghost k O (k.frz r c n) (O.set r (.tail n)):=fun w h=>by
  have hw:=h.obj _ _ ho
  have hno:∀ j,k.cell r j=none:=fun j=>by
    cases q:k.cell r j with
    | none=>rfl
    | some v=>exact (h.apart _ _ _ q (.inl ⟨_,ho⟩)).elim
  have hle:k.Le (k.frz r c n):=⟨fun b i v hv=>by
    have : ¬ (b=r∧i<n):=fun x=>by rw [x.1,hno] at hv;cases hv
    simpa [Know.frz,this] using hv,fun _ _ h=>h⟩
  refine ⟨⟨fun b i v hv hc=>?_,fun b i v hv=>?_,h.sh,fun b o hb=>?_,fun b m hb=>?_,fun b f hb=>?_⟩,⟨hle,Nat.le_refl _,fun _ _ _=>rfl,fun _ _ _ _ c _ h=>⟨c,h,rfl,fun _ _=>rfl⟩,fun _ _ _ _ c _ h=>⟨c,h,rfl,fun _ _=>rfl⟩,fun _ _=>rfl,fun b x hx=>?_,fun b i v hv=>?_,fun _ _ h => .inl h,by simp,rfl,rfl,rfl,by simp,fun b f hb=>⟨f,by rw [show (O.set r (.tail n)) b=O b from by simp only [OwnM.set];rw [if_neg (fun e=>by rw [e,ho] at hb;cases hb)]];exact hb⟩⟩⟩
  . by_cases hb:b=r
    . subst hb
      rcases hc with ⟨o,h1⟩|⟨m,h1,h2⟩|⟨f,h1,h2⟩
      . simp [OwnM.set] at h1
      rotate_left
      . simp [OwnM.set] at h1
      . simp only [OwnM.set,if_true,Option.some.injEq,Own.tail.injEq] at h1
        subst h1;have : ¬ (i<n):=by omega
        simp only [Know.frz,this,and_false,if_false,hno] at hv;cases hv
    . have hv':k.cell b i=some v:=by simpa [Know.frz,hb] using hv
      exact h.apart b i v hv' (by simpa [Covers,OwnM.set,hb] using hc)
  . by_cases hb:b=r∧i<n
    . obtain ⟨rfl,hi⟩:=hb
      simp only [Know.frz,hi,and_self,if_true] at hv;simp [World.cell?,hw,hv]
    . exact h.cell b i v (by simpa only [Know.frz,hb,if_false] using hv)
  . by_cases hbr:b=r
    . subst hbr;simp [OwnM.set] at hb
    . exact h.obj b o (by simpa [OwnM.set,hbr] using hb)
  . by_cases hbr:b=r
    . subst hbr;exact ⟨c,e,hw,hs⟩
    . exact h.tail b m (by simpa [OwnM.set,hbr] using hb)
  . by_cases hbr:b=r
    . subst hbr;simp [OwnM.set] at hb
    . exact h.part b f (by simpa [OwnM.set,hbr] using hb)
  . by_cases hbr:b=r
    . subst hbr
      simp only [OwnM.set,if_true,Option.some.injEq] at hx;subst hx;exact .inl ⟨_,ho,trivial⟩
    . exact .inl ⟨x,by simpa [OwnM.set,hbr] using hx,.refl x⟩
  . by_cases hb:b=r∧i<n
    . obtain ⟨rfl,_⟩:=hb
      exact .inr (.inl (.inl ⟨_,ho⟩))
    . exact .inl (by simpa only [Know.frz,hb,if_false] using hv)
theorem Know.Le.put {k:Know} {b i:Nat} {v:Value} (h:k.cell b i=none):k.Le (k.put b i v):=⟨fun c j u hu=>by
  have : ¬ (c=b∧j=i):=fun x=>by rw [x.1,x.2,h] at hu;cases hu
  simpa [Know.put,this] using hu,fun _ _ h=>h⟩
theorem Know.Le.made {k:Know} {r:Nat} {o:Obj} (h:k.sh r=none):k.Le (k.made r o):=by
  cases o <;> first|exact .refl k|skip
  exact ⟨fun _ _ _ h=>h,fun b s hs=>by
    have:b≠r:=fun x=>by rw [x,h] at hs;cases hs
    simpa [Know.made,Know.setSh,this] using hs⟩
theorem Know.Le.frz {k:Know} {r n:Nat} {c:Array Value} (h:∀ j,k.cell r j=none):k.Le (k.frz r c n):=⟨fun b i v hv=>by
    have : ¬ (b=r∧i<n):=fun x=>by rw [x.1,h] at hv;cases hv
    simpa [Know.frz,this] using hv,fun _ _ h=>h⟩
def RowAt (k:Know) (O:OwnM) (b base:Nat) (l:List AV):Prop := ∀ (j:Nat) a,l[j]? = some a->∃ v,Reads k O ⟨b,base+j,none⟩ v∧V k v a∧flat v=true
def subcells (l:List AV) (off size:Nat) (agg:Bool):Option AV:=if agg then (if off+size≤l.length then some (.agg ((l.drop off).take size)) else none) else l[off]?
theorem addr_add (b off n:Nat):Addr.add ⟨b,off,none⟩ n=⟨b,off+n,none⟩:=by
  unfold Addr.add;split
  . next h=>subst h;rfl
  . rfl
section
variable {P:Program} (L:Lay P) {k:Know} {O:OwnM} {Kp:Value->Know->OwnM->Prop}
theorem swp_load {K:Value->Know->OwnM->Prop} {a:Addr} {v:Value} (h:Reads k O a v) (hK:K v k O):swp P (load a) k O K Kp:=⟨rfl,v,h,hK⟩
theorem swp_loadCellsFrom {K:Array Value->Know->OwnM->Prop} {b base:Nat} {l:List AV} (hr:RowAt k O b base l) {off:Nat} :
    ∀ (n i:Nat) (acc:Array Value),off+i+n≤l.length->(∀ vs:List Value,vs.length=n->(∀ (j:Nat) v a,vs[j]? = some v->l[off+i+j]? = some a->V k v a)->(∀ v∈vs,flat v=true)->K (acc ++ vs.toArray) k O) ->
      swp P (loadCellsFrom ⟨b,base+off,none⟩ i n acc) k O K Kp:=by
  intro n
  induction n with
  | zero=>intro i acc _ h;exact swp_pure (by simpa using h [] rfl (fun j v a h=>by simp at h) (by simp))
  | succ n ih=>
    intro i acc hlen h;have hlt:off+i<l.length:=by omega
    obtain ⟨v,h1,h2,h3⟩:=hr (off+i) l[off+i] (by simp [hlt])
    unfold loadCellsFrom;rw [addr_add];refine swp_bind' (swp_load (v:=v) (by rw [Nat.add_assoc];exact h1) ?_)
    refine ih (i+1) (acc.push v) (by omega) fun vs hvs hv hfl=>?_
    have:=h (v :: vs) (by simp [hvs]) (fun j u a hj ha=>?_) (fun u hu=>by
      rcases List.mem_cons.1 hu with rfl|hu
      . exact h3
      . exact hfl u hu)
    . simpa using this
    . cases j with
      | zero=>
        simp at hj ha;subst hj
        have:a=l[off+i]:=by
          have e:l[off+i]? = some l[off+i]:=by simp [hlt]
          rw [e] at ha;exact (Option.some.inj ha).symm
        rw [this];exact h2
      | succ j=>exact hv j u a (by simpa using hj) (by rw [← ha];congr 1;omega)
theorem swp_loadVar {K:Value->Know->OwnM->Prop} {b base off:Nat} {l:List AV} {t:Nat} {i:TI} {a:AV} (hr:RowAt k O b base l) (ht:L.tt t=some i) (hs:subcells l off i.size i.agg=some a)
    (hK:∀ v,V k v a->K v k O):swp P (loadVar t ⟨b,base+off,none⟩) k O K Kp:=by
  unfold loadVar;refine swp_bind' (swp_isAgg L ht ?_);unfold subcells at hs;cases hagg:i.agg
  . simp only [hagg] at hs
    obtain ⟨v,h1,h2,_⟩:=hr off a (by simpa using hs)
    simp only [Bool.false_eq_true,if_false];exact swp_load h1 (hK v h2)
  . simp only [hagg,if_true] at hs ⊢
    split at hs
    . next hle=>
      simp only [Option.some.injEq] at hs;subst hs;refine swp_bind' (swp_sizeOf L ht ?_);unfold loadCells;refine swp_bind' (swp_loadCellsFrom hr _ 0 _ (by omega) fun vs hvs hv _=>?_)
      refine swp_pure (hK _ (.agg _ _ ?_ fun j v a hj ha=>?_))
      . simp [hvs];omega
      . refine hv j v a (by simpa using hj) ?_
        rw [List.getElem?_take] at ha;split at ha
        . rw [List.getElem?_drop] at ha;simpa using ha
        . cases ha
    . cases hs
theorem RowAt.own {b:Nat} {c:Array Value} {e:TypeId} {fz:Nat × Nat} {l:List AV} (ho:O b=some (.obj (.cells c e fz))) (hl:c.size=l.length) (hv:∀ (i:Nat) v a,c[i]? = some v->l[i]? = some a->V k v a) (hf:∀ (i:Nat) v,c[i]? = some v->flat v=true):RowAt k O b 0 l:=fun j a ha=>by
  have hj:j<c.size:=by rw [hl];exact (List.getElem?_eq_some_iff.1 ha).1
  refine ⟨c[j],⟨rfl,.inr ⟨c,e,fz,ho,by simp [hj]⟩⟩,hv j _ a (by simp [hj]) ha,hf j _ (by simp [hj])⟩
theorem RowAt.known {b base:Nat} {l:List AV} {c:Nat->Value} (h1:∀ j,j<l.length->k.cell b (base+j)=some (c j)∧flat (c j)=true) (h2:∀ (j:Nat) a,l[j]? = some a->V k (c j) a):RowAt k O b base l:=fun j a ha=>
  ⟨c j,⟨rfl,.inl (h1 j (List.getElem?_eq_some_iff.1 ha).1).1⟩,h2 j a ha,(h1 j (List.getElem?_eq_some_iff.1 ha).1).2⟩
end
def ksub (l:List AV) (hole:List Nat) (off size:Nat) (agg:Bool):Option AV:=if agg then (if off+size≤l.length∧hole.all (fun h=>decide (h<off∨off+size≤h))=true then some (.agg ((l.drop off).take size)) else none) else if hole.contains off=true then none else l[off]?
def aload (i:TI) (σ:Store):AV->Option AV
  | .cp v off=>subcells v.cells off i.size i.agg
  | .kp _ l hole off=>ksub l hole off i.size i.agg
  | .ref b off=>match σ b with|some (.cells l)=>subcells l off i.size i.agg|_=>none
  | _=>none
def AV.flat:AV->Bool
  | .lit v=>Pal.flat v
  | .junk=>false
  | .agg _=>false
  | .tup _=>false
  | _=>true
theorem V.flat {k:Know} {v:Value} {a:AV} (h:V k v a) (hf:a.flat=true):Pal.flat v=true:=by
  cases h <;> first|rfl|exact hf|simp [AV.flat] at hf
theorem V.cells {k:Know} {v:Value} {a:AV} (h:V k v a) (hf:a.cells.all AV.flat=true):v.cells.size=a.cells.length∧(∀ (i:Nat) u x,v.cells[i]? = some u->a.cells[i]? = some x->V k u x)∧∀ (i:Nat) u,v.cells[i]? = some u->Pal.flat u=true:=by
  by_cases hagg:∃ l,a = .agg l
  . obtain ⟨l,rfl⟩:=hagg
    cases h with
    | agg c l h1 h2=>
      refine ⟨h1,h2,fun i u hu=>?_⟩
      have hi:i<l.length:=by rw [← h1];exact (Array.getElem?_eq_some_iff.1 hu).1
      refine (h2 i u l[i] hu (by simp [hi])).flat ?_
      simp only [AV.cells,List.all_eq_true] at hf;exact hf _ (List.getElem_mem hi)
  . have ha:a.cells=[a]:=by cases a <;> first|rfl|exact absurd ⟨_,rfl⟩ hagg
    have hfl:a.flat=true:=by rw [ha] at hf;simpa using hf
    have hvf:=h.flat hfl;have hv:v.cells=#[v]:=by cases v <;> first|rfl|cases hvf
    rw [ha,hv];refine ⟨rfl,fun i u x hu hx=>?_,fun i u hu=>?_⟩
    . cases i with
      | zero=>simp at hu hx;subst hu;subst hx;exact h
      | succ i=>simp at hu
    . cases i with
      | zero=>simp at hu;subst hu;exact hvf
      | succ i=>simp at hu
def splice (l:List AV) (off:Nat) (c:List AV):List AV:=l.take off ++ c ++ l.drop (off+c.length)
def astore (i:TI) (σ:Store) (p v:AV):Option Store:=
  match p with
  | .ref b off=>match σ b with
    | some (.cells l)=>if v.cells.length=i.size∧off+i.size≤l.length∧v.cells.all AV.flat=true then some (σ.set b (.cells (splice l off v.cells))) else none
    | _=>none
  | _=>none
section
variable {P:Program} (L:Lay P) {k:Know} {O:OwnM} {Kp:Value->Know->OwnM->Prop}
theorem swp_storeCells {K:Unit->Know->OwnM->Prop} {b off:Nat} {e:TypeId}:∀ (vs:List Value) (i:Nat) (c:Array Value) (O:OwnM),O b=some (.obj (.cells c e (0,0)))->off+i+vs.length≤c.size->(∀ v∈vs,flat v=true) ->
    (∀ (O':OwnM) (c':Array Value),O'=O.set b (.obj (.cells c' e (0,0)))->c'.size=c.size->(∀ j,c'[j]? = if off+i≤j∧j<off+i+vs.length then vs[j-(off+i)]? else c[j]?)->K () k O') ->
    swp P (storeCells ⟨b,off,none⟩ vs i) k O K Kp:=by
  intro vs
  induction vs with
  | nil=>
    intro i c O ho hlen hf h;refine swp_pure (h O c ?_ rfl fun j=>?_)
    . funext x
      by_cases hx:x=b
      . subst hx;simp [OwnM.set,ho]
      . simp [OwnM.set,hx]
    . have : ¬ (off+i≤j∧j<off+i+([]:List Value).length):=by simp
      rw [if_neg this]
  | cons v vs ih=>
    intro i c O ho hlen hf h;simp only [List.length_cons] at hlen;unfold storeCells;rw [addr_add];refine swp_bind' (s:=store ⟨b,off+i,none⟩ v) ⟨rfl,hf v (by simp),rfl,.inl ⟨c,e,ho,by simp;omega,?_⟩⟩
    refine ih (i+1) (c.setIfInBounds (off+i) v) _ (by simp [OwnM.set]) (by simp;omega) (fun u hu=>hf u (by simp [hu])) fun O' c' hO hsz hc=>?_
    refine h O' c' ?_ (by simpa using hsz) fun j=>?_
    . rw [hO];funext x;by_cases hx:x=b <;> simp [OwnM.set,hx]
    . rw [hc j]
      by_cases h1:j=off+i
      . subst h1
        have : ¬ (off+(i+1)≤off+i∧off+i<off+(i+1)+vs.length):=by omega
        rw [if_neg this,if_pos (by simp)]
        have hlt:off+i<c.size:=by omega
        simp [hlt]
      . rw [Array.getElem?_setIfInBounds_ne (Ne.symm h1)]
        by_cases h2:off+(i+1)≤j∧j<off+(i+1)+vs.length
        . rw [if_pos h2,if_pos (by simp;omega)]
          have:j-(off+i)=(j-(off+(i+1)))+1:=by omega
          rw [this,List.getElem?_cons_succ]
        . rw [if_neg h2,if_neg (by simp;omega)]
theorem splice_get {l c:List AV} {off:Nat} (h:off+c.length≤l.length) (j:Nat):(splice l off c)[j]? = if off≤j∧j<off+c.length then c[j-off]? else l[j]?:=by
  unfold splice;have hl:(l.take off).length=off:=by simp;omega
  by_cases h1:j<off
  . rw [List.append_assoc,List.getElem?_append_left (by omega),if_neg (by omega),List.getElem?_take,if_pos h1]
  . rw [List.append_assoc,List.getElem?_append_right (by omega),hl]
    by_cases h2:j<off+c.length
    . rw [List.getElem?_append_left (by omega),if_pos (by omega)]
    . rw [List.getElem?_append_right (by omega),if_neg (by omega),List.getElem?_drop]
      congr 1;omega
theorem splice_length {l c:List AV} {off:Nat} (h:off+c.length≤l.length):(splice l off c).length=l.length:=by
  unfold splice;simp;omega
theorem swp_storeVar {K:Unit->Know->OwnM->Prop} {σ σ':Store} {p a:AV} {v:Value} {ad:Addr} {t:Nat} {i:TI} (hr:Rel k O σ) (hp:V k (.pointer (some ad)) p) (hv:V k v a) (ht:L.tt t=some i) (hs:astore i σ p a=some σ')
    (hK:∀ O',Rel k O' σ'->K () k O'):swp P (storeVar t ad v) k O K Kp:=by
  unfold astore at hs;cases p <;> simp only [] at hs <;> try cases hs
  rename_i b off;cases hp;cases hb:σ b with
  | none=>rw [hb] at hs;cases hs
  | some x=>
    rw [hb] at hs;cases x with
    | cells l =>
      simp only [] at hs;split at hs
      . next hcond=>
        obtain ⟨h1,h2,h3⟩:=hcond;simp only [Option.some.injEq] at hs;subst hs;obtain ⟨y,ho,hy⟩:=hr.1 b _ hb (by simp)
        cases hy with
        | cells c e l g1 g2 g3=>
          obtain ⟨q1,q2,q3⟩:=hv.cells h3;unfold storeVar;refine swp_bind' (swp_sizeOf L ht ?_);have hsz : ¬ v.cells.size≠i.size:=by rw [q1,h1];simp
          simp only [if_neg hsz];refine swp_bind' (swp_pure ?_)
          refine swp_storeCells v.cells.toList 0 c O ho (by simp only [Array.length_toList];omega) (fun u hu=>by
              obtain ⟨j,hj,rfl⟩:=List.mem_iff_getElem.1 hu;exact q3 j _ (by simp at hj;simp [hj])) fun O' c' hO hc1 hc2=>?_
          subst hO;have hlen:off+a.cells.length≤l.length:=by omega
          refine hK _ (hr.set (.cells c' e _ (by rw [hc1,splice_length hlen];exact g1) (fun j u x hu hx=>?_) fun j u hu=>?_))
          . rw [hc2] at hu
            rw [splice_get hlen] at hx;simp only [Nat.add_zero,Array.length_toList,q1] at hu
            by_cases hj:off≤j∧j<off+a.cells.length
            . rw [if_pos hj] at hu hx
              exact q2 _ u x (by simpa using hu) hx
            . rw [if_neg hj] at hu hx
              exact g2 j u x hu hx
          . rw [hc2] at hu
            split at hu
            . exact q3 _ u (by simpa using hu)
            . exact g3 j u hu
      . cases hs
    | _=>cases hs
theorem rowAt_of {σ:Store} {p:AV} {ad:Addr} {i:TI} {a:AV} (hr:Rel k O σ) (hp:V k (.pointer (some ad)) p) (hs:aload i σ p=some a):∃ b base off l,ad=⟨b,base+off,none⟩∧RowAt k O b base l∧subcells l off i.size i.agg=some a:=by
  unfold aload at hs;cases p <;> simp only [] at hs <;> try cases hs
  . rename_i v off
    cases hp with
    | cp b base off N E v c _ _ h1 h2=>exact ⟨b,base,off,v.cells,rfl,.known h1 h2,hs⟩
  . rename_i b l hole off
    cases hp with
    | kp _ _ N E _ _ c _ _ h1 h2=>
      unfold ksub at hs;split at hs
      . next hagg=>
        split at hs
        . next hc=>
          simp only [Option.some.injEq] at hs;subst hs;have hlen:((l.drop off).take i.size).length=i.size:=by simp;omega
          refine ⟨b,off,0,(l.drop off).take i.size,by simp,fun j a ha=>?_,by simp [subcells,hagg,hlen,List.take_take]⟩
          have hj:j<i.size:=by rw [← hlen];exact (List.getElem?_eq_some_iff.1 ha).1
          have ha':l[off+j]? = some a:=by
            rw [List.getElem?_take,if_pos hj,List.getElem?_drop] at ha;exact ha
          have hno:off+j ∉ hole:=fun hh=>by
            have:=List.all_eq_true.1 hc.2 _ hh;simp at this;omega
          obtain ⟨e1,e2⟩:=h1 (off+j) (List.getElem?_eq_some_iff.1 ha').1 hno;exact ⟨c (off+j),⟨rfl,.inl e1⟩,h2 _ a hno ha',e2⟩
        . cases hs
      . next hagg=>
        split at hs
        . cases hs
        . next hc=>
          have hno:off ∉ hole:=by simpa using hc
          refine ⟨b,off,0,[a],by simp,fun j y hy=>?_,by simp [subcells,hagg]⟩
          match j with
          | 0=>
            simp at hy;subst hy;obtain ⟨e1,e2⟩:=h1 off (List.getElem?_eq_some_iff.1 hs).1 hno;exact ⟨c off,⟨rfl,.inl e1⟩,h2 _ _ hno hs,e2⟩
          | j+1=>simp at hy
  . rename_i b off
    cases hp;cases hb:σ b with
    | none=>rw [hb] at hs;cases hs
    | some x=>
      rw [hb] at hs;cases x with
      | cells l=>
        obtain ⟨y,ho,hy⟩:=hr.1 b _ hb (by simp)
        cases hy with
        | cells c e l g1 g2 g3=>exact ⟨b,0,off,l,by simp,.own ho g1 g2 g3,hs⟩
      | _=>cases hs
end
theorem V.isPtr {k:Know} {v:Value} {p:AV} (h:V k v p) (hp:(∃ x off,p = .cp x off)∨(∃ b off,p = .ref b off)∨∃ b l hole off,p = .kp b l hole off):∃ ad,v = .pointer (some ad):=by
  rcases hp with ⟨x,off,rfl⟩|⟨b,off,rfl⟩|⟨b,l,hole,off,rfl⟩ <;> cases h <;> exact ⟨_,rfl⟩
theorem aload_ptr {i:TI} {σ:Store} {p a:AV} (h:aload i σ p=some a):(∃ x off,p = .cp x off)∨(∃ b off,p = .ref b off)∨∃ b l hole off,p = .kp b l hole off:=by
  cases p <;> first|exact .inl ⟨_,_,rfl⟩|exact .inr (.inl ⟨_,_,rfl⟩) | exact .inr (.inr ⟨_,_,_,_,rfl⟩) | cases h
theorem astore_ptr {i:TI} {σ σ':Store} {p a:AV} (h:astore i σ p a=some σ'):(∃ x off,p = .cp x off)∨(∃ b off,p = .ref b off)∨∃ b l hole off,p = .kp b l hole off:=by
  cases p <;> first|exact .inl ⟨_,_,rfl⟩|exact .inr (.inl ⟨_,_,rfl⟩) | cases h
section
variable {P:Program} (L:Lay P) {o:Oper} {env:Env} {σ:Store} {K:AV->Store->Prop} {Kp:AV->Store->Prop}
theorem OpSem.val {s:(Operand->Value)->Sem Value} (he:∀ ρ,execOp ρ o=(do pure (.value (← s ρ))))
    (h:∀ k O (ρ:Operand->Value),(∀ x∈o.op.operands,V k (ρ x) (aeval env x))->Rel k O σ ->
      swp P (s ρ) k O (fun v k' O'=>Turns k' O' fun k2 O2=>k.Le k2∧∃ a σ',V k2 v a∧Rel k2 O2 σ'∧K a σ') (fun v k' O'=>k.Le k'∧∃ a σ',V k' v a∧Rel k' O' σ'∧Kp a σ')):OpSem P o env σ K Kp:=fun k O ρ hv hr=>by
  rw [he];refine swp_bind' (swp_mono _ (h k O ρ hv hr) (fun v k' O' hh=>?_) (fun v k' O' hh=>hh))
  exact swp_pure ⟨v,.inl rfl,hh⟩
theorem os_move {x:Operand} (ho:o.op = .move x∨o.op = .assign x) (hK:K (aeval env x) σ):OpSem P o env σ K Kp:=fun k O ρ hv hr=>by
  have:execOp ρ o=pure (.value (ρ x)):=by rcases ho with ho|ho <;> simp [execOp,ho]
  rw [this];refine swp_pure ⟨ρ x,.inl rfl,.here ⟨.refl k,_,_,hv x ?_,hr,hK⟩⟩
  rcases ho with ho|ho <;> simp [ho,Op.operands]
theorem os_pick {c a b:Operand} {x:Bool} (ho:o.op = .pick c a b) (hc:aeval env c = .lit (.bool x)) (hK:K (if x then aeval env a else aeval env b) σ):OpSem P o env σ K Kp:=fun k O ρ hv hr=>by
  have h1:=hv c (by simp [ho,Op.operands])
  have h2:=hv a (by simp [ho,Op.operands])
  have h3:=hv b (by simp [ho,Op.operands])
  rw [hc] at h1;generalize hq:ρ c=v at h1;cases h1;have:execOp ρ o=pure (.value (if x then ρ a else ρ b)):=by simp [execOp,ho,hq,asBool]
  rw [this];refine swp_pure ⟨_,.inl rfl,.here ⟨.refl k,_,_,?_,hr,hK⟩⟩;cases x <;> simp [h2,h3]
theorem os_load {t:Nat} {p:Operand} {i:TI} {a:AV} (ho:o.op = .load t p) (ht:L.tt t=some i) (hl:aload i σ (aeval env p)=some a) (hK:K a σ):OpSem P o env σ K Kp:=
  OpSem.val (s:=fun ρ=>Instr.loadAt t (ρ p)) (fun ρ=>by simp [execOp,ho]) fun k O ρ hv hr=>by
    have hp:=hv p (by simp [ho,Op.operands])
    obtain ⟨ad,e⟩:=hp.isPtr (aload_ptr hl);rw [e] at hp;obtain ⟨b,base,off,l,rfl,hrow,hs⟩:=rowAt_of hr hp hl;simp only [Instr.loadAt,e,Instr.sureAddr];exact swp_bind' (swp_pure (swp_loadVar L hrow ht hs fun v hv => .here ⟨.refl k,a,σ,hv,hr,hK⟩))
theorem os_store {t:Nat} {p x:Operand} {i:TI} {σ':Store} (ho:o.op = .store t p x) (ht:L.tt t=some i) (hs:astore i σ (aeval env p) (aeval env x)=some σ') (hK:K (.lit undef) σ'):OpSem P o env σ K Kp:=fun k O ρ hv hr=>by
  have hp:=hv p (by simp [ho,Op.operands])
  have hx:=hv x (by simp [ho,Op.operands])
  obtain ⟨ad,e⟩:=hp.isPtr (astore_ptr hs);rw [e] at hp;have:execOp ρ o=(do storeVar t ad (ρ x);pure .skip):=by simp [execOp,ho,Instr.storeAt,e,Instr.sureAddr]
  rw [this];exact swp_bind' (swp_storeVar L hr hp hx ht hs fun O' hr'=>swp_pure ⟨undef,.inr ⟨rfl,rfl⟩,.here ⟨.refl k,.lit undef,σ',.lit _,hr',hK⟩⟩)
end
def AV.W (a a':AV):Prop := ∀ k v,V k v a->V k v a'
theorem AV.W.refl (a:AV):a.W a:=fun _ _ h=>h
abbrev AV.nil:AV:=.lit (.slice none 0 0)
theorem W_nil (kk:Nat):AV.nil.W (.sl kk [] .any):=fun k v h=>by cases h;exact .slnil kk
theorem W_any (kk:Nat) (es:List AV) (sp:Spare):(AV.sl kk es sp).W (.sl kk es .any):=fun k v h=>by
  cases h with
  | sl b off cap _ N E _ _ c h1 h2 h3 h4 h5 h6 h7=>exact .sl b off cap kk N E es .any c h1 h2 h3 h4 h5 h6 trivial
  | slnil=>exact .slnil kk
def zav:Value->AV
  | .agg c => .agg (c.toList.map .lit)
  | v => .lit v
theorem V.zav (k:Know) (v:Value):V k v (zav v):=by
  cases v <;> first|exact .lit _|skip
  rename_i c;refine .agg _ _ (by simp) fun i v a h1 h2=>?_
  simp only [List.getElem?_map] at h2;rw [show c.toList[i]? = c[i]? from by simp,h1] at h2
  simp at h2;subst h2;exact .lit v
theorem flatten_cons (a:AV) (es:List AV):flatten (a :: es)=a.cells ++ flatten es:=rfl
theorem flatten_append (es fs:List AV):flatten (es ++ fs)=flatten es ++ flatten fs:=by simp [flatten]
theorem flatten_length {kk:Nat}:∀ {es:List AV},(∀ e∈es,e.cells.length=kk)->(flatten es).length=es.length*kk
  | [],_=>by simp [flatten]
  | a :: es,h=>by
    rw [flatten_cons,List.length_append,flatten_length (fun e he=>h e (by simp [he])),h a (by simp),List.length_cons,Nat.succ_mul,Nat.add_comm]
theorem flatten_get {kk:Nat}:∀ {es:List AV} (_:∀ e∈es,e.cells.length=kk) {i:Nat} {a:AV} (_:es[i]? = some a) (j:Nat) (_:j<kk),(flatten es)[i*kk+j]? = a.cells[j]?
  | [],_,i,a,hi,_,_=>by simp at hi
  | x :: es,h,0,a,hi,j,hj=>by
    simp at hi;subst hi;rw [flatten_cons,Nat.zero_mul,Nat.zero_add,List.getElem?_append_left (by rw [h x (by simp)];exact hj)]
  | x :: es,h,i+1,a,hi,j,hj=>by
    rw [flatten_cons,List.getElem?_append_right (by rw [h x (by simp),Nat.succ_mul];omega),h x (by simp)]
    have:(i+1)*kk+j-kk=i*kk+j:=by rw [Nat.succ_mul];omega
    rw [this];exact flatten_get (fun e he=>h e (by simp [he])) (by simpa using hi) j hj
section
variable {P:Program} (L:Lay P) {k:Know} {O:OwnM} {Kp:Value->Know->OwnM->Prop}
theorem Rel.del_fresh {σ:Store} (h:Rel k O σ) {r:Nat} (hr:O r=none) {k':Know} (hk:k.Le k') {x y:Own}:Rel k' (((O.set r x).set r y).del r) σ:=⟨fun b a e hn=>by
  obtain ⟨z,h1,h2⟩:=h.1 b a e hn;have:b≠r:=fun q=>by rw [q,hr] at h1;cases h1
  exact ⟨z,by simp [OwnM.del,OwnM.set,this,h1],h2.mono hk⟩,fun b e=>by
  obtain ⟨h1,s,h2⟩:=h.2 b e;refine ⟨?_,s,hk.sh _ _ h2⟩
  by_cases q:b=r
  . simp [OwnM.del,q]
  . simp [OwnM.del,OwnM.set,q,h1]⟩
theorem swp_newRow_known {K:Addr->Know->OwnM->Prop} {E:TypeId} {c:Array Value}
    (hK:∀ r k' O',Fresh k O r->(Turns k' O' fun k2 O2=>k.Le k2∧(∀ j v,c[j]? = some v->k2.cell r j=some v)∧k2.sh r=some (E,c.size)∧(∀ σ,Rel k O σ->Rel k2 O2 σ))->K ⟨r,0,none⟩ k' O'):swp P (newRow E c) k O K Kp:=by
  refine swp_bind' (s:=newObj (.cells c E)) ⟨rfl,fun r hr=>swp_pure (hK r _ _ hr ?_)⟩
  obtain ⟨f1,f2,f3⟩:=hr;have hk1:k.Le (k.made r (.cells c E)):=.made f3;have hno:∀ j,(k.made r (.cells c E)).cell r j=none:=f2;refine ⟨_,_,(ghost_freeze (n:=c.size) (c:=c) (e:=E) (r:=r) (by simp [OwnM.set]) (by simp [Know.made,Know.setSh])).trans (ghost_drop _ _ r (by simp [OwnM.set])),hk1.trans (.frz hno),fun j v hj=>?_,by simp [Know.frz,Know.made,Know.setSh],fun σ h=>h.del_fresh f1 (hk1.trans (.frz hno))⟩
  have hlt:j<c.size:=(Array.getElem?_eq_some_iff.1 hj).1;simp only [Know.frz,true_and,hlt,if_true];exact hj
theorem swp_newRow_own {K:Addr->Know->OwnM->Prop} {E:TypeId} {c:Array Value} {σ:Store} (h:Rel k O σ) {l:List AV} (hc:c.size=l.length) (hv:∀ (i:Nat) v a,c[i]? = some v->l[i]? = some a->V k v a) (hf:∀ (i:Nat) v,c[i]? = some v->flat v=true)
    (hK:∀ r k' O',σ r=none->k.Le k'->Rel k' O' (σ.set r (.cells l))->K ⟨r,0,none⟩ k' O'):swp P (newRow E c) k O K Kp:=by
  refine swp_bind' (s:=newObj (.cells c E)) ⟨rfl,fun r hr=>swp_pure (hK r _ _ (h.isNone hr.1 hr.2.2) (.made hr.2.2) ?_)⟩
  exact (h.mono (.made hr.2.2)).set (.cells c E l hc (fun i v a h1 h2=>(hv i v a h1 h2).mono (.made hr.2.2)) hf)
end
section
variable {P:Program} (L:Lay P) {o:Oper} {env:Env} {σ:Store} {K:AV->Store->Prop} {Kp:AV->Store->Prop}
theorem os_alloc {t:Nat} {i:TI} (ho:o.op = .alloc t) (ht:L.tt t=some i) (hf:(zav i.zero).cells.all AV.flat=true) (hK:∀ b,σ b=none->K (.ref b 0) (σ.set b (.cells (zav i.zero).cells))):OpSem P o env σ K Kp:=
  OpSem.val (s:=fun _=>Instr.alloc t true (.tuple #[])) (fun ρ=>by simp [execOp,ho]) fun k O ρ hv hr=>by
    unfold Instr.alloc;refine swp_bind' (swp_zeroValue L ht ?_);obtain ⟨h1,h2,h3⟩:=(V.zav k i.zero).cells hf;refine swp_bind' (swp_newRow_own hr h1 h2 h3 fun r k' O' hn hk hr'=>swp_pure ?_)
    exact .here ⟨hk,_,_,.ref r 0,hr',hK r hn⟩
theorem os_box_mut {t:Nat} {x:Operand} (ho:o.op = .box t x) (hf:(aeval env x).cells.all AV.flat=true) (hK:∀ b,σ b=none->K (.ref b 0) (σ.set b (.cells (aeval env x).cells))):OpSem P o env σ K Kp:=
  OpSem.val (s:=fun ρ=>Instr.box t (ρ x)) (fun ρ=>by simp [execOp,ho]) fun k O ρ hv hr=>by
    unfold Instr.box;obtain ⟨h1,h2,h3⟩:=(hv x (by simp [ho,Op.operands])).cells hf
    refine swp_bind' (swp_newRow_own hr h1 h2 h3 fun r k' O' hn hk hr'=>swp_pure ?_)
    exact .here ⟨hk,_,_,.ref r 0,hr',hK r hn⟩
theorem os_box {t:Nat} {x:Operand} (ho:o.op = .box t x) (hf:(aeval env x).cells.all AV.flat=true) (hK:K (.cp (aeval env x) 0) σ):OpSem P o env σ K Kp:=
  OpSem.val (s:=fun ρ=>Instr.box t (ρ x)) (fun ρ=>by simp [execOp,ho]) fun k O ρ hv hr=>by
    unfold Instr.box;obtain ⟨h1,h2,h3⟩:=(hv x (by simp [ho,Op.operands])).cells hf
    refine swp_bind' (swp_newRow_known fun r k' O' hn ht=>swp_pure ?_)
    obtain ⟨k2,O2,g,hk,hc,hs,hrel⟩:=ht;refine ⟨k2,O2,g,hk,_,σ,?_,hrel σ hr,hK⟩;refine V.cp r 0 0 _ _ _ (fun j=>(ρ x).cells.getD j undef) hs (by omega) (fun j hj=>?_) (fun j a ha=>?_)
    . have hlt:j<(ρ x).cells.size:=by rw [h1];exact hj
      rw [Nat.zero_add,hc j ((ρ x).cells[j]) (by simp [hlt])]
      have:=h3 j ((ρ x).cells[j]) (by simp [hlt])
      simpa [Array.getD,hlt] using this
    . have hlt:j<(ρ x).cells.size:=by rw [h1];exact (List.getElem?_eq_some_iff.1 ha).1
      have:=(h2 j ((ρ x).cells[j]) a (by simp [hlt]) ha).mono hk
      simpa [Array.getD,hlt] using this
end
inductive SlIs (k:Know):Value->Nat->List AV->Spare->Prop
  | nil (kk:Nat):SlIs k (.slice none 0 0) kk [] .any
  | row (b off cap kk N:Nat) (E:TypeId) (es:List AV) (sp:Spare):es.length≤cap->k.sh b=some (E,N)->off+cap*kk≤N->(∀ e∈es,e.cells.length=kk) ->
      (∀ O,RowAt k O b off (flatten es))->sp.fits b off es.length kk cap->SlIs k (.slice (some ⟨b,off,none⟩) es.length cap) kk es sp
theorem V.slIs {k:Know} {v:Value} {kk:Nat} {es:List AV} {sp:Spare} (h:V k v (.sl kk es sp)):SlIs k v kk es sp:=by
  cases h with
  | sl b off cap _ N E _ _ c h1 h2 h3 h4 h5 h6 h7=>exact .row b off cap kk N E es sp h1 h2 h3 h4 (fun O => .known h5 h6) h7
  | slnil=>exact .nil kk
theorem SlIs.len {k:Know} {v:Value} {kk:Nat} {es:List AV} {sp:Spare} (h:SlIs k v kk es sp):∃ a c,v = .slice a es.length c:=by
  cases h
  . exact ⟨_,_,rfl⟩
  . exact ⟨_,_,rfl⟩
theorem V.ofRow {k:Know} {b off cap kk N:Nat} {E:TypeId} {es:List AV} {sp:Spare} (h1:es.length≤cap) (h2:k.sh b=some (E,N)) (h3:off+cap*kk≤N) (h4:∀ e∈es,e.cells.length=kk)
    (h5:∀ (j:Nat) a,(flatten es)[j]? = some a->∃ v,k.cell b (off+j)=some v∧V k v a∧Pal.flat v=true) (h6:sp.fits b off es.length kk cap):V k (.slice (some ⟨b,off,none⟩) es.length cap) (.sl kk es sp):=by
  refine .sl b off cap kk N E es sp (fun j=>(k.cell b (off+j)).getD undef) h1 h2 h3 h4 (fun j hj=>?_) (fun j a ha=>?_) h6
  . obtain ⟨v,hv,_,hf⟩:=h5 j (flatten es)[j] (by simp [hj])
    rw [hv];exact ⟨rfl,hf⟩
  . obtain ⟨v,hv,hva,_⟩:=h5 j a ha
    rw [hv];exact hva
theorem V.slCases {k:Know} {v:Value} {kk:Nat} {es:List AV} {sp:Spare} (h:V k v (.sl kk es sp)):(v = .slice none 0 0∧es=[]∧sp = .any) ∨
    ∃ b off cap N E,v = .slice (some ⟨b,off,none⟩) es.length cap∧es.length≤cap∧k.sh b=some (E,N)∧off+cap*kk≤N∧(∀ e∈es,e.cells.length=kk)∧(∀ (j:Nat) a,(flatten es)[j]? = some a->∃ v,k.cell b (off+j)=some v∧V k v a∧Pal.flat v=true)∧sp.fits b off es.length kk cap:=by
  cases h with
  | sl b off cap _ N E _ _ c h1 h2 h3 h4 h5 h6 h7=>exact .inr ⟨b,off,cap,N,E,rfl,h1,h2,h3,h4,fun j a ha=>⟨c j,(h5 j (List.getElem?_eq_some_iff.1 ha).1).1,h6 j a ha,(h5 j (List.getElem?_eq_some_iff.1 ha).1).2⟩,h7⟩
  | slnil=>exact .inl ⟨rfl,rfl,rfl⟩
theorem V.slCell {k:Know} {b off cap kk N:Nat} {es:List AV} {sp:Spare} (h:V k (.slice (some ⟨b,off,none⟩) N cap) (.sl kk es sp)):∀ (j:Nat) a,(flatten es)[j]? = some a->∃ v,k.cell b (off+j)=some v∧V k v a∧Pal.flat v=true:=by
  intro j a ha;cases h with
  | sl _ _ _ _ N E _ _ c h1 h2 h3 h4 h5 h6 h7=>exact ⟨c j,(h5 j (List.getElem?_eq_some_iff.1 ha).1).1,h6 j a ha,(h5 j (List.getElem?_eq_some_iff.1 ha).1).2⟩
section
variable {P:Program} (L:Lay P) {o:Oper} {env:Env} {σ:Store} {K:AV->Store->Prop} {Kp:AV->Store->Prop}
theorem kind_slice {i:TI} {d:TypeDesc} {e:Nat} (h:kindOK P i d=true) (hk:i.kind = .slice e):d = .slice e:=by
  cases d <;> simp_all [kindOK]
theorem kind_array {i:TI} {d:TypeDesc} {n e:Nat} (h:kindOK P i d=true) (hk:i.kind = .array n e):d = .array n e:=by
  cases d <;> simp_all [kindOK]
theorem os_len {x:Operand} {tys:Array TypeId} {t e:Nat} {i:TI} {kk:Nat} {es:List AV} {sp:Spare} (ho:o.op = .call ⟨.builtin .len,#[x],tys⟩) (h0:tys[0]? = some t) (ht:L.tt t=some i) (hk:i.kind = .slice e)
    (hx:aeval env x = .sl kk es sp∨(aeval env x = .nil∧es=[])) (hK:K (.lit (.int .i64 es.length)) σ):OpSem P o env σ K Kp:=
  fun k O ρ hv hr=>by
    have h:=hv x (by simp [ho,Op.operands,Call.operands])
    have hs:∃ a c,ρ x = .slice a es.length c:=by
      rcases hx with hx|⟨hx,rfl⟩
      . rw [hx] at h;exact h.slIs.len
      . rw [hx] at h
        generalize ρ x=v at h;cases h;exact ⟨_,_,rfl⟩
    obtain ⟨a,c,e1⟩:=hs;have:execOp ρ o=(do pure (Next.value (← Builtin.len_ tys o.type #[ρ x]))):=by simp [execOp,ho,resolve,invoke,builtin]
    rw [this];refine swp_bind' ?_;unfold Builtin.len_;simp only [h0,List.getElem?_toArray,List.getElem?_cons_zero];refine swp_bind' (swp_underlying L ht fun d _ hd=>?_)
    rw [kind_slice hd hk,e1];exact swp_pure (swp_pure ⟨_,.inl rfl,.here ⟨.refl k,_,σ,.lit _,hr,hK⟩⟩)
theorem os_lenMsl {x:Operand} {tys:Array TypeId} {t e:Nat} {i:TI} {b off len cap:Nat} (ho:o.op = .call ⟨.builtin .len,#[x],tys⟩) (h0:tys[0]? = some t) (ht:L.tt t=some i) (hk:i.kind = .slice e)
    (hx:aeval env x = .msl b off len cap) (hK:K (.lit (.int .i64 len)) σ):OpSem P o env σ K Kp:=
  fun k O ρ hv hr=>by
    have h:=hv x (by simp [ho,Op.operands,Call.operands])
    have hs:∃ a c,ρ x = .slice a len c:=by
      rw [hx] at h;generalize ρ x=v at h;cases h;exact ⟨_,_,rfl⟩
    obtain ⟨a,c,e1⟩:=hs;have:execOp ρ o=(do pure (Next.value (← Builtin.len_ tys o.type #[ρ x]))):=by simp [execOp,ho,resolve,invoke,builtin]
    rw [this];refine swp_bind' ?_;unfold Builtin.len_;simp only [h0,List.getElem?_toArray,List.getElem?_cons_zero];refine swp_bind' (swp_underlying L ht fun d _ hd=>?_)
    rw [kind_slice hd hk,e1];exact swp_pure (swp_pure ⟨_,.inl rfl,.here ⟨.refl k,_,σ,.lit _,hr,hK⟩⟩)
theorem asInt_lit {k:Know} {v:Value} {kd:IntKind} {n:Int} (h:V k v (.lit (.int kd n))):v = .int kd n:=by cases h;rfl
theorem os_indexSl {t e:Nat} {x ix:Operand} {it ie:TI} {es:List AV} {sp:Spare} {n:Int} {kd:IntKind} {a:AV} (ho:o.op = .indexAddr t x ix) (ht:L.tt t=some it) (hk:it.kind = .slice e) (he:L.tt e=some ie)
    (hx:aeval env x = .sl ie.size es sp) (hi:aeval env ix = .lit (.int kd n)) (h0:0≤n) (ha:es[n.toNat]? = some a) (hK:K (.cp a 0) σ):OpSem P o env σ K Kp:=
  OpSem.val (s:=fun ρ=>Instr.indexAt t (ρ x) (ρ ix)) (fun ρ=>by simp [execOp,ho]) fun k O ρ hv hr=>by
    have h1:=hv x (by simp [ho,Op.operands])
    have h2:=hv ix (by simp [ho,Op.operands])
    rw [hx] at h1;rw [hi] at h2;rw [asInt_lit h2];have hlt:n.toNat<es.length:=(List.getElem?_eq_some_iff.1 ha).1;generalize ρ x=v at h1;have hcells:=h1;cases h1.slIs with
    | nil=>simp at hlt
    | row b off cap _ N E _ _ g1 g2 g3 g4 g5 g6=>
      unfold Instr.indexAt;refine swp_bind' (swp_pure ?_);refine swp_bind' (swp_underlying L ht fun d _ hd=>?_)
      rw [kind_slice hd hk];dsimp only;refine swp_bind' (swp_pure ?_);dsimp only;refine swp_bind' (swp_underlying L ht fun d2 _ hd2=>?_)
      rw [kind_slice hd2 hk];dsimp only;rw [if_pos ⟨h0,by omega⟩]
      refine swp_bind' (swp_sizeOf L he (swp_pure (.here ⟨.refl k,_,σ,?_,hr,hK⟩)));rw [addr_add];have hac:a.cells.length=ie.size:=g4 a (List.mem_iff_getElem?.2 ⟨_,ha⟩)
      have hbd:off+n.toNat*ie.size+a.cells.length≤N:=by
        have hn:n.toNat<es.length:=(List.getElem?_eq_some_iff.1 ha).1;have:=Nat.mul_le_mul_right ie.size (show n.toNat+1≤cap by omega)
        rw [Nat.add_mul,Nat.one_mul] at this;omega
      refine V.cp b (off+n.toNat*ie.size) 0 N E a (fun j=>(k.cell b (off+n.toNat*ie.size+j)).getD undef) g2 hbd (fun j hj=>?_) (fun j y hy=>?_)
      . have hf:=flatten_get g4 ha j (by omega)
        obtain ⟨u,hu,_,hfl⟩:=hcells.slCell (n.toNat*ie.size+j) a.cells[j] (by rw [hf];simp [hj])
        rw [← Nat.add_assoc] at hu;rw [hu];exact ⟨rfl,hfl⟩
      . have hj:j<a.cells.length:=(List.getElem?_eq_some_iff.1 hy).1
        have hf:=flatten_get g4 ha j (by omega)
        obtain ⟨u,hu,hua,_⟩:=hcells.slCell (n.toNat*ie.size+j) y (by rw [hf];exact hy)
        rw [← Nat.add_assoc] at hu;rw [hu];exact hua
end
section
variable {P:Program} (L:Lay P) {o:Oper} {env:Env} {σ:Store} {K:AV->Store->Prop} {Kp:AV->Store->Prop}
theorem swp_sizeOf' {k:Know} {O:OwnM} {Kp:Value->Know->OwnM->Prop} {t:Nat} {info:TypeInfo} {K:Nat->Know->OwnM->Prop} (h:P.info? t=some info) (hK:K info.size k O):swp P (sizeOf t) k O K Kp:=by
  unfold sizeOf typeInfo;refine swp_bind' (swp_bind' (swp_program ?_));rw [h];exact swp_pure hK
theorem kind_struct {i:TI} {d:TypeDesc} (h:kindOK P i d=true) (hk:i.kind = .struct) {j:Nat} {x:Nat × Nat × Nat} (hx:i.flds[j]? = some x):∃ fs f info,d = .struct fs∧fs[j]? = some f∧f.offset=x.1∧P.info? f.type=some info∧info.size=x.2.1∧f.type=x.2.2:=by
  cases d with
  | struct fs=>
    simp only [kindOK,Bool.and_eq_true,beq_iff_eq] at h;have h2:=congrArg (fun l=>l[j]?) h.2
    simp only [List.getElem?_map,hx,Option.map_some] at h2;obtain ⟨f,hf,he⟩:=Option.map_eq_some_iff.1 h2;simp only [Prod.mk.injEq] at he;obtain ⟨info,hi,hs⟩:=Option.map_eq_some_iff.1 he.2.1;exact ⟨fs,f,info,rfl,by simpa using hf,he.1,hi,hs,he.2.2⟩
  | _=>simp [kindOK,hk] at h
def aptr (a:AV) (n:Nat):Option AV:=
  match a with
  | .cp v off=>some (.cp v (off+n))
  | .kp b l hole off=>some (.kp b l hole (off+n))
  | .ref b off=>some (.ref b (off+n))
  | _=>none
theorem V.aptr {k:Know} {v:Value} {a a':AV} {n:Nat} (h:V k v a) (ha:aptr a n=some a'):∃ b off,v = .pointer (some ⟨b,off,none⟩)∧V k (.pointer (some ⟨b,off+n,none⟩)) a':=by
  cases a <;> simp only [Pal.aptr,reduceCtorEq,Option.some.injEq] at ha
  . subst ha
    cases h with
    | cp b base _ N E _ c h0 h3 h1 h2=>exact ⟨b,_,rfl,by rw [Nat.add_assoc];exact .cp b base _ N E _ c h0 h3 h1 h2⟩
  . subst ha
    cases h with
    | kp _ _ N E _ _ c h0 h3 h1 h2=>exact ⟨_,_,rfl,.kp _ _ N E _ _ c h0 h3 h1 h2⟩
  . subst ha
    cases h;exact ⟨_,_,rfl,.ref _ _⟩
theorem os_fieldAddr {s j:Nat} {x:Operand} {i:TI} {f:Nat × Nat × Nat} {a':AV} (ho:o.op = .fieldAddr s x j) (ht:L.tt s=some i) (hk:i.kind = .struct) (hf:i.flds[j]? = some f) (hz:f.2.1≠0)
    (ha:aptr (aeval env x) f.1=some a') (hK:K a' σ):OpSem P o env σ K Kp:=
  OpSem.val (s:=fun ρ=>Instr.fieldAt s (ρ x) j) (fun ρ=>by simp [execOp,ho]) fun k O ρ hv hr=>by
    obtain ⟨b,off,e,hv'⟩:=(hv x (by simp [ho,Op.operands])).aptr ha
    unfold Instr.fieldAt;refine swp_bind' (swp_underlying L ht fun d _ hd=>?_)
    obtain ⟨fs,g,info,rfl,h1,h2,h3,h4,_⟩:=kind_struct hd hk hf;dsimp only;rw [h1,e];dsimp only;refine swp_bind' (swp_pure ?_);unfold fieldPlace;refine swp_bind' (swp_bind' (swp_sizeOf' h3 ?_));rw [h4,if_neg hz];refine swp_pure (swp_pure (.here ⟨.refl k,_,σ,?_,hr,hK⟩));rw [addr_add,h2];exact hv'
theorem os_indexArr {t n e:Nat} {x ix:Operand} {it ie:TI} {z:Int} {kd:IntKind} {a':AV} (ho:o.op = .indexAddr t x ix) (ht:L.tt t=some it) (hk:it.kind = .array n e) (he:L.tt e=some ie)
    (hi:aeval env ix = .lit (.int kd z)) (h0:0≤z∧z<n) (ha:aptr (aeval env x) (z.toNat*ie.size)=some a') (hK:K a' σ):OpSem P o env σ K Kp:=
  OpSem.val (s:=fun ρ=>Instr.indexAt t (ρ x) (ρ ix)) (fun ρ=>by simp [execOp,ho]) fun k O ρ hv hr=>by
    obtain ⟨b,off,e1,hv'⟩:=(hv x (by simp [ho,Op.operands])).aptr ha
    have h2:=hv ix (by simp [ho,Op.operands])
    rw [hi] at h2;rw [asInt_lit h2,e1];unfold Instr.indexAt;refine swp_bind' (swp_pure ?_);refine swp_bind' (swp_underlying L ht fun d _ hd=>?_)
    rw [kind_array hd hk];dsimp only;refine swp_bind' (swp_pure ?_);refine swp_bind' (swp_pure ?_);dsimp only;refine swp_bind' (swp_underlying L ht fun d2 _ hd2=>?_)
    rw [kind_array hd2 hk];dsimp only;rw [if_pos h0];refine swp_bind' (swp_sizeOf L he (swp_pure (.here ⟨.refl k,_,σ,?_,hr,hK⟩)));rw [addr_add];exact hv'
theorem os_indexOwn {t e:Nat} {x ix:Operand} {it ie:TI} {b off len cap:Nat} {z:Int} {kd:IntKind} (ho:o.op = .indexAddr t x ix) (ht:L.tt t=some it) (hk:it.kind = .slice e) (he:L.tt e=some ie)
    (hx:aeval env x = .msl b off len cap) (hi:aeval env ix = .lit (.int kd z)) (h0:0≤z∧z<len) (hK:K (.ref b (off+z.toNat*ie.size)) σ):OpSem P o env σ K Kp:=
  OpSem.val (s:=fun ρ=>Instr.indexAt t (ρ x) (ρ ix)) (fun ρ=>by simp [execOp,ho]) fun k O ρ hv hr=>by
    have h1:=hv x (by simp [ho,Op.operands])
    have h2:=hv ix (by simp [ho,Op.operands])
    rw [hx] at h1;rw [hi] at h2;rw [asInt_lit h2];generalize ρ x=v at h1;cases h1;unfold Instr.indexAt;refine swp_bind' (swp_pure ?_);refine swp_bind' (swp_underlying L ht fun d _ hd=>?_)
    rw [kind_slice hd hk];dsimp only;refine swp_bind' (swp_pure ?_);dsimp only;refine swp_bind' (swp_underlying L ht fun d2 _ hd2=>?_)
    rw [kind_slice hd2 hk];dsimp only;rw [if_pos h0];refine swp_bind' (swp_sizeOf L he (swp_pure (.here ⟨.refl k,_,σ,?_,hr,hK⟩)));rw [addr_add];exact .ref _ _
theorem V.part {k:Know} {O:OwnM} {Kp:Value->Know->OwnM->Prop} {t off:Nat} {i:TI} {c:Array Value} {l:List AV} {a:AV} {K:Value->Know->OwnM->Prop} (hl:c.size=l.length) (hv:∀ (j:Nat) v a,c[j]? = some v->l[j]? = some a->V k v a)
    (ht:L.tt t=some i) (hs:subcells l off i.size i.agg=some a) (hK:∀ v,V k v a->K v k O):swp P (part t c off) k O K Kp:=by
  unfold Go.part;refine swp_bind' (swp_isAgg L ht ?_);unfold subcells at hs;cases hagg:i.agg
  . simp only [hagg,Bool.false_eq_true,if_false] at hs ⊢
    have hlt:off<l.length:=(List.getElem?_eq_some_iff.1 hs).1;rw [show c[off]? = some c[off] from by simp [hl,hlt]]
    exact hK _ (hv off _ a (by simp [hl,hlt]) hs)
  . simp only [hagg,if_true] at hs ⊢
    split at hs
    . next hle=>
      simp only [Option.some.injEq] at hs;subst hs;refine swp_bind' (swp_sizeOf L ht (swp_pure (hK _ (.agg _ _ ?_ fun j v a hj ha=>?_))))
      . simp [hl];omega
      . rw [Array.getElem?_extract] at hj
        rw [List.getElem?_take] at ha;split at ha
        . rw [List.getElem?_drop] at ha
          split at hj
          . exact hv _ v a hj ha
          . cases hj
        . cases ha
    . cases hs
theorem os_field {s j:Nat} {x:Operand} {i fi:TI} {f:Nat × Nat × Nat} {l:List AV} {a:AV} (ho:o.op = .field s x j) (ht:L.tt s=some i) (hk:i.kind = .struct) (hf:i.flds[j]? = some f) (hft:L.tt f.2.2=some fi)
    (hx:aeval env x = .agg l) (hs:subcells l f.1 fi.size fi.agg=some a) (hK:K a σ):OpSem P o env σ K Kp:=
  OpSem.val (s:=fun ρ=>Instr.field s (ρ x) j) (fun ρ=>by simp [execOp,ho]) fun k O ρ hv hr=>by
    have h1:=hv x (by simp [ho,Op.operands])
    rw [hx] at h1;generalize ρ x=v at h1;cases h1 with
    | agg c l g1 g2=>
      unfold Instr.field;refine swp_bind' (swp_underlying L ht fun d _ hd=>?_)
      obtain ⟨fs,g,info,rfl,h1,h2,h3,h4,h5⟩:=kind_struct hd hk hf;dsimp only;rw [h1];dsimp only;refine swp_bind' (swp_pure ?_);rw [h2,h5];exact V.part L g1 g2 hft hs fun v hv => .here ⟨.refl k,a,σ,hv,hr,hK⟩
theorem os_index {t n e:Nat} {x ix:Operand} {it ie:TI} {z:Int} {kd:IntKind} {l:List AV} {a:AV} (ho:o.op = .index t x ix) (ht:L.tt t=some it) (hk:it.kind = .array n e) (he:L.tt e=some ie)
    (hx:aeval env x = .agg l) (hi:aeval env ix = .lit (.int kd z)) (h0:0≤z∧z<n) (hs:subcells l (z.toNat*ie.size) ie.size ie.agg=some a) (hK:K a σ):OpSem P o env σ K Kp:=
  OpSem.val (s:=fun ρ=>Instr.index t (ρ x) (ρ ix)) (fun ρ=>by simp [execOp,ho]) fun k O ρ hv hr=>by
    have h1:=hv x (by simp [ho,Op.operands])
    have h2:=hv ix (by simp [ho,Op.operands])
    rw [hx] at h1;rw [hi] at h2;rw [asInt_lit h2];generalize ρ x=v at h1;cases h1 with
    | agg c l g1 g2=>
      unfold Instr.index;refine swp_bind' (swp_pure ?_);refine swp_bind' (swp_underlying L ht fun d _ hd=>?_)
      rw [kind_array hd hk];dsimp only;rw [if_pos h0];refine swp_bind' (swp_sizeOf L he ?_);exact V.part L g1 g2 he hs fun v hv => .here ⟨.refl k,a,σ,hv,hr,hK⟩
def ibin (op:BinOp) (k:IntKind) (x y:Int):Option Value:=
  match op with
  | .add=>some (.int k (k.wrap (x+y)))
  | .sub=>some (.int k (k.wrap (x-y)))
  | .mul=>some (.int k (k.wrap (x*y)))
  | .quo=>if y=0 then none else some (.int k (k.wrap (x.tdiv y)))
  | .rem=>if y=0 then none else some (.int k (x.tmod y))
  | .and=>some (.int k (k.wrap ((BitVec.ofInt k.bits x &&& BitVec.ofInt k.bits y).toNat)))
  | .or=>some (.int k (k.wrap ((BitVec.ofInt k.bits x ||| BitVec.ofInt k.bits y).toNat)))
  | .xor=>some (.int k (k.wrap ((BitVec.ofInt k.bits x ^^^ BitVec.ofInt k.bits y).toNat)))
  | .eql=>some (.bool (x == y))
  | .neq=>some (.bool (x != y))
  | .lss=>some (.bool (x<y))
  | .leq=>some (.bool (x≤y))
  | .gtr=>some (.bool (x > y))
  | .geq=>some (.bool (x ≥ y))
  | _=>none
theorem os_binInt {op:BinOp} {t t2:Nat} {x y:Operand} {kd:IntKind} {a b:Int} {v:Value} (ho:o.op = .binOp op t x y t2) (hx:aeval env x = .lit (.int kd a)) (hy:aeval env y = .lit (.int kd b)) (hv:ibin op kd a b=some v) (hK:K (.lit v) σ) :
    OpSem P o env σ K Kp:=fun k O ρ hρ hr=>by
  have h1:=hρ x (by simp [ho,Op.operands])
  have h2:=hρ y (by simp [ho,Op.operands])
  rw [hx] at h1;rw [hy] at h2;have e1:=asInt_lit h1;have e2:=asInt_lit h2
  have key : (do eqGuard op t x y (ρ x) (ρ y);binOp op t (ρ x) (ρ y))=(pure v:Sem Value):=by
    rw [e1,e2]
    cases op <;> simp only [ibin,reduceCtorEq,Option.some.injEq] at hv <;>
      first
        | (subst hv;simp [eqGuard,binOp,Op.intArith,Op.intBits,Op.intCmp];done)
        | (split at hv
           . cases hv
           . next hne=>simp only [Option.some.injEq] at hv;subst hv;simp [eqGuard,binOp,Op.intDiv,hne])
  have:execOp ρ o=pure (.value v):=by
    have e:execOp ρ o=(do let v ← (do eqGuard op t x y (ρ x) (ρ y);binOp op t (ρ x) (ρ y));pure (.value v)):=by simp [execOp,ho]
    rw [e,key];rfl
  rw [this];exact swp_pure ⟨v,.inl rfl,.here ⟨.refl k,_,σ,.lit v,hr,hK⟩⟩
theorem wrap_i64 {n:Int} (h : -9223372036854775808≤n∧n≤9223372036854775807):IntKind.i64.wrap n=n:=by
  simp only [IntKind.wrap,IntKind.bits,IntKind.signed];simp;omega
theorem os_arith {op:BinOp} {t t2:Nat} {x y:Operand} {a b r:Int} (ho:o.op = .binOp op t x y t2) (hx:aeval env x = .lit (.int .i64 a)) (hy:aeval env y = .lit (.int .i64 b))
    (hop:(op = .add∧r=a+b)∨(op = .sub∧r=a-b)∨(op = .mul∧r=a*b)) (hfit : -9223372036854775808≤r∧r≤9223372036854775807) (hK:K (.lit (.int .i64 r)) σ):OpSem P o env σ K Kp:=by
  have hw:=wrap_i64 hfit
  rcases hop with ⟨rfl,rfl⟩|⟨rfl,rfl⟩|⟨rfl,rfl⟩ <;> exact os_binInt ho hx hy (by simp only [ibin,hw]) hK
theorem os_shift {op:BinOp} {t t2:Nat} {x y:Operand} {kd ky:IntKind} {a b:Int} {v:Value} (ho:o.op = .binOp op t x y t2) (hx:aeval env x = .lit (.int kd a)) (hy:aeval env y = .lit (.int ky b)) (hb:0≤b)
    (hop:(op = .shl∧v = .int kd (kd.wrap (a*2 ^ (min b.toNat kd.bits))))∨(op = .shr∧v = .int kd (a.fdiv (2 ^ (min b.toNat kd.bits))))) (hK:K (.lit v) σ) :
    OpSem P o env σ K Kp:=fun k O ρ hρ hr=>by
  have h1:=hρ x (by simp [ho,Op.operands])
  have h2:=hρ y (by simp [ho,Op.operands])
  rw [hx] at h1;rw [hy] at h2;have e1:=asInt_lit h1;have e2:=asInt_lit h2;have hn : ¬ b<0:=by omega
  have key:(do eqGuard op t x y (ρ x) (ρ y);binOp op t (ρ x) (ρ y))=(pure v:Sem Value):=by
    rw [e1,e2]
    rcases hop with ⟨rfl,rfl⟩|⟨rfl,rfl⟩ <;> simp [eqGuard,binOp,Op.shift,hn]
  have:execOp ρ o=pure (.value v):=by
    have e:execOp ρ o=(do let v ← (do eqGuard op t x y (ρ x) (ρ y);binOp op t (ρ x) (ρ y));pure (.value v)):=by simp [execOp,ho]
    rw [e,key];rfl
  rw [this];exact swp_pure ⟨v,.inl rfl,.here ⟨.refl k,_,σ,.lit v,hr,hK⟩⟩
theorem asBool_lit {k:Know} {v:Value} {b:Bool} (h:V k v (.lit (.bool b))):v = .bool b:=by cases h;rfl
theorem os_not {t:Nat} {x:Operand} {b:Bool} (ho:o.op = .unOp .not t x) (hx:aeval env x = .lit (.bool b)) (hK:K (.lit (.bool !b)) σ):OpSem P o env σ K Kp:=fun k O ρ hρ hr=>by
  have h1:=hρ x (by simp [ho,Op.operands])
  rw [hx] at h1;have:execOp ρ o=pure (.value (.bool !b)):=by simp [execOp,ho,asBool_lit h1,Op.unary]
  rw [this];exact swp_pure ⟨_,.inl rfl,.here ⟨.refl k,_,σ,.lit _,hr,hK⟩⟩
theorem os_convInt {s t:Nat} {x:Operand} {is it:TI} {kd ks:IntKind} {kd':IntKind} {a:Int} (ho:o.op = .convert s t x) (hs:L.tt s=some is) (ht:L.tt t=some it) (hks:is.kind = .int ks) (hkt:it.kind = .int kd) (hx:aeval env x = .lit (.int kd' a)) (hK:K (.lit (.int kd (kd.wrap a))) σ):OpSem P o env σ K Kp:=
  OpSem.val (s:=fun ρ=>convert s t (ρ x)) (fun ρ=>by simp [execOp,ho]) fun k O ρ hρ hr=>by
    have h1:=hρ x (by simp [ho,Op.operands])
    rw [hx] at h1;rw [asInt_lit h1];unfold convert;refine swp_bind' (swp_underlying L hs fun d _ hd=>swp_bind' (swp_underlying L ht fun d2 _ hd2=>?_))
    have e2:d2 = .int kd:=by cases d2 <;> simp_all [kindOK]
    have e1:d = .int ks:=by cases d <;> simp_all [kindOK]
    subst e1 e2;exact swp_pure (.here ⟨.refl k,_,σ,.lit _,hr,hK⟩)
theorem os_minmax {b:Builtin} {tys:Array TypeId} {x y:Operand} {kd:IntKind} {p q:Int} (ho:o.op = .call ⟨.builtin b,#[x,y],tys⟩) (hx:aeval env x = .lit (.int kd p)) (hy:aeval env y = .lit (.int kd q))
    {r:Int} (hb:(b = .min∧r=if q<p then q else p)∨(b = .max∧r=if q > p then q else p)) (hK:K (.lit (.int kd r)) σ):OpSem P o env σ K Kp:=fun k O ρ hρ hr=>by
  have h1:=hρ x (by simp [ho,Op.operands,Call.operands])
  have h2:=hρ y (by simp [ho,Op.operands,Call.operands])
  rw [hx] at h1;rw [hy] at h2;have e1:=asInt_lit h1;have e2:=asInt_lit h2
  have:execOp ρ o=pure (.value (.int kd r)):=by
    rcases hb with ⟨rfl,rfl⟩|⟨rfl,rfl⟩ <;>
    simp [execOp,ho,resolve,invoke,builtin,e1,e2,Builtin.min_,Builtin.max_,Builtin.min2,Builtin.max2]
  rw [this];exact swp_pure ⟨_,.inl rfl,.here ⟨.refl k,_,σ,.lit _,hr,hK⟩⟩
theorem os_makeInterface {t:Nat} {x:Operand} {i:TI} (ho:o.op = .makeInterface t x) (ht:L.tt t=some i) (hk:i.kind ≠ .iface) (hK:K (.ifc t (aeval env x)) σ):OpSem P o env σ K Kp:=
  OpSem.val (s:=fun ρ=>Instr.makeInterface t (ρ x)) (fun ρ=>by simp [execOp,ho]) fun k O ρ hρ hr=>by
    unfold Instr.makeInterface;refine swp_bind' (swp_underlying L ht fun d _ hd=>?_)
    have:∀ ms,d ≠ .interface ms:=fun ms e=>by subst e;simp [kindOK] at hd;exact hk hd
    have fin:swp P (pure (Value.iface t (ρ x)):Sem Value) k O (fun v k' O'=>Turns k' O' fun k2 O2=>k.Le k2∧∃ a σ',V k2 v a∧Rel k2 O2 σ'∧K a σ') (fun v k' O'=>k.Le k'∧∃ a σ',V k' v a∧Rel k' O' σ'∧Kp a σ'):=
      swp_pure (.here ⟨.refl k,_,σ,.ifc _ _ _ (hρ x (by simp [ho,Op.operands])),hr,hK⟩)
    cases d <;> first|exact fin|exact absurd rfl (this _)
theorem Vs.ofArray {k:Know} {ρ:Operand->Value} {env:Env} {xs:Array Operand} (h:∀ x∈xs,V k (ρ x) (aeval env x)):(xs.map ρ).size=(xs.toList.map (aeval env)).length∧∀ (i:Nat) v a,(xs.map ρ)[i]? = some v->(xs.toList.map (aeval env))[i]? = some a->V k v a:=by
  refine ⟨by simp,fun i v a h1 h2=>?_⟩
  simp only [Array.getElem?_map,List.getElem?_map,Array.getElem?_toList] at h1 h2;cases hx:xs[i]? with
  | none=>rw [hx] at h1;cases h1
  | some x=>
    rw [hx] at h1 h2;simp at h1 h2;subst h1;subst h2;exact h x (Array.mem_of_getElem? hx)
theorem os_makeFunc {fn:Fn} {fs cs:Array Operand} (ho:o.op = .makeFunc fn fs cs) (hK:K (.fn fn (fs.toList.map (aeval env)) (cs.toList.map (aeval env))) σ):OpSem P o env σ K Kp:=fun k O ρ hρ hr=>by
  have:execOp ρ o=pure (.value (.func fn (fs.map ρ) (cs.map ρ))):=by simp [execOp,ho,Instr.makeFunc]
  rw [this];obtain ⟨a1,a2⟩:=Vs.ofArray (k:=k) (ρ:=ρ) (env:=env) (xs:=fs) fun x hx=>hρ x (by simp [ho,Op.operands,hx])
  obtain ⟨b1,b2⟩:=Vs.ofArray (k:=k) (ρ:=ρ) (env:=env) (xs:=cs) fun x hx=>hρ x (by simp [ho,Op.operands,hx])
  exact swp_pure ⟨_,.inl rfl,.here ⟨.refl k,_,σ,.fn _ _ _ _ _ a1 a2 b1 b2,hr,hK⟩⟩
theorem os_extract {x:Operand} {j:Nat} {l:List AV} {a:AV} (ho:o.op = .extract x j) (hx:aeval env x = .tup l) (ha:l[j]? = some a) (hK:K a σ):OpSem P o env σ K Kp:=fun k O ρ hρ hr=>by
  have h1:=hρ x (by simp [ho,Op.operands])
  rw [hx] at h1;generalize hq:ρ x=v at h1;cases h1 with
  | tup c l g1 g2=>
    have hj:j<c.size:=by rw [g1];exact (List.getElem?_eq_some_iff.1 ha).1
    have:execOp ρ o=pure (.value c[j]):=by simp [execOp,ho,Instr.extract,hq,hj]
    rw [this];exact swp_pure ⟨_,.inl rfl,.here ⟨.refl k,_,σ,g2 j _ a (by simp [hj]) ha,hr,hK⟩⟩
theorem os_typeAssert {x:Operand} {xt t:Nat} {i:TI} {d:Nat} {y:AV} (ho:o.op = .typeAssert x xt t true) (ht:L.tt t=some i) (hk:i.kind ≠ .iface) (hx:aeval env x = .ifc d y)
    (hK:K (if d=t then .tup [y,.lit (.bool true)] else .tup [zav i.zero,.lit (.bool false)]) σ):OpSem P o env σ K Kp:=
  OpSem.val (s:=fun ρ=>Instr.typeAssert (ρ x) xt t true) (fun ρ=>by simp [execOp,ho]) fun k O ρ hρ hr=>by
    have h1:=hρ x (by simp [ho,Op.operands])
    rw [hx] at h1;generalize ρ x=v at h1;cases h1 with
    | ifc _ v _ hv=>
      unfold Instr.typeAssert;refine swp_bind' (swp_underlying L ht fun dd _ hd=>?_)
      have hni:∀ ms,dd ≠ .interface ms:=fun ms e=>by subst e;simp [kindOK] at hd;exact hk hd
      have pair:∀ {u:Value} {b:Bool} {a:AV},V k u a->V k (.tuple #[u,.bool b]) (.tup [a,.lit (.bool b)]):=fun {u b a} h => .tup _ _ rfl fun j w c h1 h2=>by
        match j with
        | 0=>simp at h1 h2;subst h1;subst h2;exact h
        | 1=>simp at h1 h2;subst h1;subst h2;exact .lit _
        | j+2=>simp at h1
      have fin:swp P (if d=t then (pure (.tuple #[v,.bool true]):Sem Value) else (do pure (.tuple #[← zeroValue t,.bool false]))) k O (fun v k' O'=>Turns k' O' fun k2 O2=>k.Le k2∧∃ a σ',V k2 v a∧Rel k2 O2 σ'∧K a σ') (fun v k' O'=>k.Le k'∧∃ a σ',V k' v a∧Rel k' O' σ'∧Kp a σ'):=by
        split at hK
        . next e=>rw [if_pos e];exact swp_pure (.here ⟨.refl k,_,σ,pair hv,hr,hK⟩)
        . next e=>rw [if_neg e];exact swp_bind' (swp_zeroValue L ht (swp_pure (.here ⟨.refl k,_,σ,pair (.zav k _),hr,hK⟩)))
      cases dd <;> first|exact fin|exact absurd rfl (hni _)
theorem os_nilCheck {x:Operand} (ho:o.op = .nilCheck x) (hx:(∃ v off,aeval env x = .cp v off)∨(∃ b off,aeval env x = .ref b off)∨(∃ f l r,aeval env x = .fn (.func f) l r)∨∃ b l hole off,aeval env x = .kp b l hole off) (hK:K (aeval env x) σ):OpSem P o env σ K Kp:=fun k O ρ hρ hr=>by
  have h1:=hρ x (by simp [ho,Op.operands])
  have:execOp ρ o=pure (.value (ρ x)):=by
    rcases hx with ⟨v,off,e⟩|⟨b,off,e⟩|⟨f,l,r,e⟩|⟨b,l,hole,off,e⟩ <;> rw [e] at h1 <;> generalize hq:ρ x=w at h1 <;> cases h1 <;> simp [execOp,ho,hq]
  rw [this];exact swp_pure ⟨_,.inl rfl,.here ⟨.refl k,_,σ,h1,hr,hK⟩⟩
theorem os_panic {x:Operand} {t:Nat} {y:AV} (ho:o.op = .panic x) (hx:aeval env x = .ifc t y) (hK:Kp (.ifc t y) σ):OpSem P o env σ K Kp:=fun k O ρ hρ hr=>by
  have h1:=hρ x (by simp [ho,Op.operands])
  rw [hx] at h1;generalize hq:ρ x=w at h1;cases h1 with
  | ifc _ v _ hv=>
    have:execOp ρ o=Sem.halt (.panic (.iface t v)):=by simp [execOp,ho,hq,Instr.panic,goPanic];rfl
    rw [this];exact ⟨.refl k,_,σ,.ifc _ _ _ hv,hr,hK⟩
theorem os_sliceNil {op:BinOp} {t t2 e:Nat} {x y:Operand} {i:TI} {kk:Nat} {es:List AV} {sp:Spare} {isNil:Bool} (ho:o.op = .binOp op t x y t2) (ht:L.tt t=some i) (hk:i.kind = .slice e) (hy:aeval env y = .nil)
    (hx:(aeval env x = .nil∧isNil=true)∨(aeval env x = .sl kk es sp∧es≠[]∧isNil=false)∨(aeval env x = .sl kk es sp∧sp ≠ .any∧isNil=false)) {b:Bool} (hop:(op = .eql∧b=isNil)∨(op = .neq∧b = !isNil)) (hK:K (.lit (.bool b)) σ):OpSem P o env σ K Kp:=
  OpSem.val (s:=fun ρ=>do eqGuard op t x y (ρ x) (ρ y);binOp op t (ρ x) (ρ y)) (fun ρ=>by simp [execOp,ho]) fun k O ρ hρ hr=>by
    have h1:=hρ x (by simp [ho,Op.operands])
    have h2:=hρ y (by simp [ho,Op.operands])
    rw [hy] at h2;have e2:ρ y = .slice none 0 0:=by generalize ρ y=w at h2;cases h2;rfl
    have e1:∃ a n c,ρ x = .slice a n c∧a.isNone=isNil:=by
      rcases hx with ⟨e,rfl⟩|⟨e,hne,rfl⟩|⟨e,hne,rfl⟩ <;> rw [e] at h1
      . generalize ρ x=w at h1;cases h1;exact ⟨_,_,_,rfl,rfl⟩
      . generalize ρ x=w at h1
        cases h1.slIs with
        | nil=>exact absurd rfl hne
        | row=>exact ⟨_,_,_,rfl,rfl⟩
      . generalize ρ x=w at h1
        cases h1.slIs with
        | nil=>exact absurd rfl hne
        | row=>exact ⟨_,_,_,rfl,rfl⟩
    obtain ⟨a,n,c,e1,hn⟩:=e1;rw [e1,e2];have hg:eqGuard op t x y (.slice a n c) (.slice none 0 0)=pure ():=by rcases hop with ⟨rfl,_⟩|⟨rfl,_⟩ <;> simp [eqGuard]
    rw [hg];refine swp_bind' (swp_pure ?_)
    have fin:∀ {s:Sem Value},s=(do pure (.bool b))->swp P s k O (fun v k' O'=>Turns k' O' fun k2 O2=>k.Le k2∧∃ a σ',V k2 v a∧Rel k2 O2 σ'∧K a σ') (fun v k' O'=>k.Le k'∧∃ a σ',V k' v a∧Rel k' O' σ'∧Kp a σ'):=fun e=>by
      rw [e];exact swp_pure (.here ⟨.refl k,_,σ,.lit _,hr,hK⟩)
    have heq:∀ (R:Bool->Know->OwnM->Prop) (Rp:Value->Know->OwnM->Prop),R isNil k O->swp P (Op.equal t (.slice a n c) (.slice none 0 0)) k O R Rp:=fun R Rp hR=>by
      show swp P (Op.equalIn (9999+1) t (.slice a n c) (.slice none 0 0)) k O R Rp;rw [Op.equalIn];refine swp_bind' (swp_underlying L ht fun d _ hd=>?_)
      rw [kind_slice hd hk];cases a <;> simp at hn <;> subst hn <;> exact swp_pure hR
    rcases hop with ⟨rfl,rfl⟩|⟨rfl,rfl⟩
    . exact swp_bind' (s:=Op.equal t (.slice a n c) (.slice none 0 0)) (heq _ _ (fin rfl))
    . exact swp_bind' (s:=Op.equal t (.slice a n c) (.slice none 0 0)) (heq _ _ (fin rfl))
end
end Go.Pal
