/- Part 3 of the proof. -/
import Derived.Test.YtelgggdkahhhfaaGreatDoorC2
set_option linter.all false
namespace Go.aZ
open Go.Conc
def AV.W (a a':AV):Prop := ∀ k v,V k v a->V k v a'
theorem AV.W.refl (a:AV):a.W a:=fun _ _ h=>h
abbrev AV.nil:AV:=.lit (.slice none 0 0)
theorem iC (kk:Nat):AV.nil.W (.sl kk [] .any):=fun k v h=>by cases h;exact .slnil kk
theorem fq (kk:Nat) (es:List AV) (sp:bK):(AV.sl kk es sp).W (.sl kk es .any):=fun k v h=>by
 cases h with
 | sl b off cap _ N E _ _ c h1 h2 h3 h4 h5 h6 h7=>exact .sl b off cap kk N E es .any c h1 h2 h3 h4 h5 h6 trivial
 | slnil=>exact .slnil kk
def jK:Value->AV
 | .agg c => .agg (c.toList.map .lit)
 | v => .lit v
theorem V.jK (k:ag) (v:Value):V k v (jK v):=by
 cases v <;> first|exact .lit _|skip
 rename_i c;refine .agg _ _ (by simp) fun i v a h1 h2=>?_
 simp only[List.getElem?_map] at h2;rw[show c.toList[i]? = c[i]? from by simp,h1] at h2
 simp at h2;subst h2;exact .lit v
theorem flatten_cons (a:AV) (es:List AV):flatten (a :: es)=a.cells ++ flatten es:=rfl
theorem flatten_append (es fs:List AV):flatten (es ++ fs)=flatten es ++ flatten fs:=by simp[flatten]
theorem aV {kk:Nat}:∀ {es:List AV},(∀ e∈es,e.cells.length=kk)->(flatten es).length=es.length*kk
 | [],_=>by simp[flatten]
 | a :: es,h=>by
   rw[flatten_cons,List.length_append,aV (fun e he=>h e (by simp[he])),h a (by simp),List.length_cons,Nat.succ_mul,Nat.add_comm]
theorem lf {kk:Nat}:∀ {es:List AV} (_:∀ e∈es,e.cells.length=kk) {i:Nat} {a:AV} (_:es[i]? = some a) (j:Nat) (_:j<kk),(flatten es)[i*kk+j]? = a.cells[j]?
 | [],_,i,a,hi,_,_=>by simp at hi
 | x :: es,h,0,a,hi,j,hj=>by
   simp at hi;subst hi;rw[flatten_cons,Nat.zero_mul,Nat.zero_add,List.getElem?_append_left (by rw[h x (by simp)];exact hj)]
 | x :: es,h,i+1,a,hi,j,hj=>by
   rw[flatten_cons,List.getElem?_append_right (by rw[h x (by simp),Nat.succ_mul];omega),h x (by simp)]
   have:(i+1)*kk+j-kk=i*kk+j:=by rw[Nat.succ_mul];omega
   rw[this];exact lf (fun e he=>h e (by simp[he])) (by simpa using hi) j hj
section
variable {P:Program} (L:iB P) {k:ag} {O:ah} {Kp:Value->ag->ah->Prop}
theorem Rel.Ad {σ:aa} (h:Rel k O σ) {r:Nat} (hr:O r=none) {k':ag} (hk:k.Le k') {x y:Own}:Rel k' (((O.set r x).set r y).del r) σ:=⟨fun b a e hn=>by
 obtain⟨z,h1,h2⟩:=h.1 b a e hn;have:b≠r:=fun q=>by rw[q,hr] at h1;cases h1
 exact⟨z,by simp[ah.del,ah.set,this,h1],h2.mono hk⟩,fun b e=>by
 obtain⟨h1,s,h2⟩:=h.2 b e;refine⟨?_,s,hk.sh _ _ h2⟩
 by_cases q:b=r
 . simp[ah.del,q]
 . simp[ah.del,ah.set,q,h1]⟩
theorem jV {K:Addr->ag->ah->Prop} {E:TypeId} {c:Array Value}
 (hK:∀ r k' O',y8 k O r->(jU k' O' fun k2 O2=>k.Le k2∧(∀ j v,c[j]? = some v->k2.cell r j=some v)∧k2.sh r=some (E,c.size)∧(∀ σ,Rel k O σ->Rel k2 O2 σ))->K ⟨r,0,none⟩ k' O'):dm P (newRow E c) k O K Kp:=by
 refine af (s:=newObj (.cells c E)) ⟨rfl,fun r hr=>ai (hK r _ _ hr ?_)⟩
 obtain⟨f1,f2,f3⟩:=hr;have hk1:k.Le (k.made r (.cells c E)):=.made f3;have hno:∀ j,(k.made r (.cells c E)).cell r j=none:=f2;refine⟨_,_,(kr (n:=c.size) (c:=c) (e:=E) (r:=r) (by simp[ah.set]) (by simp[ag.made,ag.cD])).trans (xR _ _ r (by simp[ah.set])),hk1.trans (.qB hno),fun j v hj=>?_,by simp[ag.qB,ag.made,ag.cD],fun σ h=>h.Ad f1 (hk1.trans (.qB hno))⟩
 have hlt:j<c.size:=(Array.getElem?_eq_some_iff.1 hj).1;simp only[ag.qB,true_and,hlt,if_true];exact hj
theorem fN {K:Addr->ag->ah->Prop} {E:TypeId} {c:Array Value} {σ:aa} (h:Rel k O σ) {l:List AV} (hc:c.size=l.length) (hv:∀ (i:Nat) v a,c[i]? = some v->l[i]? = some a->V k v a) (hf:∀ (i:Nat) v,c[i]? = some v->flat v=true)
 (hK:∀ r k' O',σ r=none->k.Le k'->Rel k' O' (σ.set r (.cells l))->K ⟨r,0,none⟩ k' O'):dm P (newRow E c) k O K Kp:=by
 refine af (s:=newObj (.cells c E)) ⟨rfl,fun r hr=>ai (hK r _ _ (h.isNone hr.1 hr.2.2) (.made hr.2.2) ?_)⟩
 exact (h.mono (.made hr.2.2)).set (.cells c E l hc (fun i v a h1 h2=>(hv i v a h1 h2).mono (.made hr.2.2)) hf)
end
section
variable {P:Program} (L:iB P) {o:Oper} {env:Env} {σ:aa} {K:AV->aa->Prop} {Kp:AV->aa->Prop}
theorem vR {t:Nat} {i:TI} (ho:o.op = .alloc t) (ht:L.tt t=some i) (hf:(jK i.zero).cells.all AV.flat=true) (hK:∀ b,σ b=none->K (.ref b 0) (σ.set b (.cells (jK i.zero).cells))):aE P o env σ K Kp:=
 aE.val (s:=fun _=>Instr.alloc t true (.tuple #[])) (fun ρ=>by simp[execOp,ho]) fun k O ρ hv hr=>by
  unfold Instr.alloc;refine af (bP L ht ?_);obtain⟨h1,h2,h3⟩:=(V.jK k i.zero).cells hf;refine af (fN hr h1 h2 h3 fun r k' O' hn hk hr'=>ai ?_)
  exact .here ⟨hk,_,_,.ref r 0,hr',hK r hn⟩
theorem qD {t:Nat} {x:Operand} (ho:o.op = .box t x) (hf:(am env x).cells.all AV.flat=true) (hK:∀ b,σ b=none->K (.ref b 0) (σ.set b (.cells (am env x).cells))):aE P o env σ K Kp:=
 aE.val (s:=fun ρ=>Instr.box t (ρ x)) (fun ρ=>by simp[execOp,ho]) fun k O ρ hv hr=>by
  unfold Instr.box;obtain⟨h1,h2,h3⟩:=(hv x (by simp[ho,Op.operands])).cells hf
  refine af (fN hr h1 h2 h3 fun r k' O' hn hk hr'=>ai ?_)
  exact .here ⟨hk,_,_,.ref r 0,hr',hK r hn⟩
theorem Cn {t:Nat} {x:Operand} (ho:o.op = .box t x) (hf:(am env x).cells.all AV.flat=true) (hK:K (.cp (am env x) 0) σ):aE P o env σ K Kp:=
 aE.val (s:=fun ρ=>Instr.box t (ρ x)) (fun ρ=>by simp[execOp,ho]) fun k O ρ hv hr=>by
  unfold Instr.box;obtain⟨h1,h2,h3⟩:=(hv x (by simp[ho,Op.operands])).cells hf
  refine af (jV fun r k' O' hn ht=>ai ?_)
  obtain⟨k2,O2,g,hk,hc,hs,hrel⟩:=ht;refine⟨k2,O2,g,hk,_,σ,?_,hrel σ hr,hK⟩;refine V.cp r 0 0 _ _ _ (fun j=>(ρ x).cells.getD j undef) hs (by omega) (fun j hj=>?_) (fun j a ha=>?_)
  . have hlt:j<(ρ x).cells.size:=by rw[h1];exact hj
    rw[Nat.zero_add,hc j ((ρ x).cells[j]) (by simp[hlt])]
    have:=h3 j ((ρ x).cells[j]) (by simp[hlt])
    simpa[Array.getD,hlt] using this
  . have hlt:j<(ρ x).cells.size:=by rw[h1];exact (List.getElem?_eq_some_iff.1 ha).1
    have:=(h2 j ((ρ x).cells[j]) a (by simp[hlt]) ha).mono hk
    simpa[Array.getD,hlt] using this
end
inductive Co (k:ag):Value->Nat->List AV->bK->Prop
 | nil (kk:Nat):Co k (.slice none 0 0) kk [] .any
 | row (b off cap kk N:Nat) (E:TypeId) (es:List AV) (sp:bK):es.length≤cap->k.sh b=some (E,N)->off+cap*kk≤N->(∀ e∈es,e.cells.length=kk) ->
    (∀ O,m9 k O b off (flatten es))->sp.fits b off es.length kk cap->Co k (.slice (some ⟨b,off,none⟩) es.length cap) kk es sp
theorem V.Ae {k:ag} {v:Value} {kk:Nat} {es:List AV} {sp:bK} (h:V k v (.sl kk es sp)):Co k v kk es sp:=by
 cases h with
 | sl b off cap _ N E _ _ c h1 h2 h3 h4 h5 h6 h7=>exact .row b off cap kk N E es sp h1 h2 h3 h4 (fun O => .known h5 h6) h7
 | slnil=>exact .nil kk
theorem Co.len {k:ag} {v:Value} {kk:Nat} {es:List AV} {sp:bK} (h:Co k v kk es sp):∃ a c,v = .slice a es.length c:=by
 cases h
 . exact⟨_,_,rfl⟩
 . exact⟨_,_,rfl⟩
theorem V.ofRow {k:ag} {b off cap kk N:Nat} {E:TypeId} {es:List AV} {sp:bK} (h1:es.length≤cap) (h2:k.sh b=some (E,N)) (h3:off+cap*kk≤N) (h4:∀ e∈es,e.cells.length=kk)
 (h5:∀ (j:Nat) a,(flatten es)[j]? = some a->∃ v,k.cell b (off+j)=some v∧V k v a∧aZ.flat v=true) (h6:sp.fits b off es.length kk cap):V k (.slice (some ⟨b,off,none⟩) es.length cap) (.sl kk es sp):=by
 refine .sl b off cap kk N E es sp (fun j=>(k.cell b (off+j)).getD undef) h1 h2 h3 h4 (fun j hj=>?_) (fun j a ha=>?_) h6
 . obtain⟨v,hv,_,hf⟩:=h5 j (flatten es)[j] (by simp[hj])
   rw[hv];exact⟨rfl,hf⟩
 . obtain⟨v,hv,hva,_⟩:=h5 j a ha
   rw[hv];exact hva
theorem V.jt {k:ag} {v:Value} {kk:Nat} {es:List AV} {sp:bK} (h:V k v (.sl kk es sp)):(v = .slice none 0 0∧es=[]∧sp = .any) ∨
 ∃ b off cap N E,v = .slice (some ⟨b,off,none⟩) es.length cap∧es.length≤cap∧k.sh b=some (E,N)∧off+cap*kk≤N∧(∀ e∈es,e.cells.length=kk)∧(∀ (j:Nat) a,(flatten es)[j]? = some a->∃ v,k.cell b (off+j)=some v∧V k v a∧aZ.flat v=true)∧sp.fits b off es.length kk cap:=by
 cases h with
 | sl b off cap _ N E _ _ c h1 h2 h3 h4 h5 h6 h7=>exact .inr ⟨b,off,cap,N,E,rfl,h1,h2,h3,h4,fun j a ha=>⟨c j,(h5 j (List.getElem?_eq_some_iff.1 ha).1).1,h6 j a ha,(h5 j (List.getElem?_eq_some_iff.1 ha).1).2⟩,h7⟩
 | slnil=>exact .inl ⟨rfl,rfl,rfl⟩
theorem V.Cp {k:ag} {b off cap kk N:Nat} {es:List AV} {sp:bK} (h:V k (.slice (some ⟨b,off,none⟩) N cap) (.sl kk es sp)):∀ (j:Nat) a,(flatten es)[j]? = some a->∃ v,k.cell b (off+j)=some v∧V k v a∧aZ.flat v=true:=by
 intro j a ha;cases h with
 | sl _ _ _ _ N E _ _ c h1 h2 h3 h4 h5 h6 h7=>exact⟨c j,(h5 j (List.getElem?_eq_some_iff.1 ha).1).1,h6 j a ha,(h5 j (List.getElem?_eq_some_iff.1 ha).1).2⟩
section
variable {P:Program} (L:iB P) {o:Oper} {env:Env} {σ:aa} {K:AV->aa->Prop} {Kp:AV->aa->Prop}
theorem bf {i:TI} {d:TypeDesc} {e:Nat} (h:bY P i d=true) (hk:i.kind = .slice e):d = .slice e:=by
 cases d <;> simp_all [bY]
theorem mI {i:TI} {d:TypeDesc} {n e:Nat} (h:bY P i d=true) (hk:i.kind = .array n e):d = .array n e:=by
 cases d <;> simp_all [bY]
theorem uy {x:Operand} {tys:Array TypeId} {t e:Nat} {i:TI} {kk:Nat} {es:List AV} {sp:bK} (ho:o.op = .call ⟨.builtin .len,#[x],tys⟩) (h0:tys[0]? = some t) (ht:L.tt t=some i) (hk:i.kind = .slice e)
 (hx:am env x = .sl kk es sp∨(am env x = .nil∧es=[])) (hK:K (.lit (.int .i64 es.length)) σ):aE P o env σ K Kp:=
 fun k O ρ hv hr=>by
  have h:=hv x (by simp[ho,Op.operands,Call.operands])
  have hs:∃ a c,ρ x = .slice a es.length c:=by
   rcases hx with hx|⟨hx,rfl⟩
   . rw[hx] at h;exact h.Ae.len
   . rw[hx] at h
     generalize ρ x=v at h;cases h;exact⟨_,_,rfl⟩
  obtain⟨a,c,e1⟩:=hs;have:execOp ρ o=(do pure (Next.value (← Builtin.len_ tys o.type #[ρ x]))):=by simp[execOp,ho,resolve,invoke,builtin]
  rw[this];refine af ?_;unfold Builtin.len_;simp only[h0,List.getElem?_toArray,List.getElem?_cons_zero];refine af (aq L ht fun d _ hd=>?_)
  rw[bf hd hk,e1];exact ai (ai ⟨_,.inl rfl,.here ⟨.refl k,_,σ,.lit _,hr,hK⟩⟩)
theorem sU {x:Operand} {tys:Array TypeId} {t e:Nat} {i:TI} {b off len cap:Nat} (ho:o.op = .call ⟨.builtin .len,#[x],tys⟩) (h0:tys[0]? = some t) (ht:L.tt t=some i) (hk:i.kind = .slice e)
 (hx:am env x = .gq b off len cap) (hK:K (.lit (.int .i64 len)) σ):aE P o env σ K Kp:=
 fun k O ρ hv hr=>by
  have h:=hv x (by simp[ho,Op.operands,Call.operands])
  have hs:∃ a c,ρ x = .slice a len c:=by
   rw[hx] at h;generalize ρ x=v at h;cases h;exact⟨_,_,rfl⟩
  obtain⟨a,c,e1⟩:=hs;have:execOp ρ o=(do pure (Next.value (← Builtin.len_ tys o.type #[ρ x]))):=by simp[execOp,ho,resolve,invoke,builtin]
  rw[this];refine af ?_;unfold Builtin.len_;simp only[h0,List.getElem?_toArray,List.getElem?_cons_zero];refine af (aq L ht fun d _ hd=>?_)
  rw[bf hd hk,e1];exact ai (ai ⟨_,.inl rfl,.here ⟨.refl k,_,σ,.lit _,hr,hK⟩⟩)
theorem bL {k:ag} {v:Value} {kd:IntKind} {n:Int} (h:V k v (.lit (.int kd n))):v = .int kd n:=by cases h;rfl
theorem qE {t e:Nat} {x ix:Operand} {it ie:TI} {es:List AV} {sp:bK} {n:Int} {kd:IntKind} {a:AV} (ho:o.op = .indexAddr t x ix) (ht:L.tt t=some it) (hk:it.kind = .slice e) (he:L.tt e=some ie)
 (hx:am env x = .sl ie.size es sp) (hi:am env ix = .lit (.int kd n)) (h0:0≤n) (ha:es[n.toNat]? = some a) (hK:K (.cp a 0) σ):aE P o env σ K Kp:=
 aE.val (s:=fun ρ=>Instr.indexAt t (ρ x) (ρ ix)) (fun ρ=>by simp[execOp,ho]) fun k O ρ hv hr=>by
  have h1:=hv x (by simp[ho,Op.operands])
  have h2:=hv ix (by simp[ho,Op.operands])
  rw[hx] at h1;rw[hi] at h2;rw[bL h2];have hlt:n.toNat<es.length:=(List.getElem?_eq_some_iff.1 ha).1;generalize ρ x=v at h1;have hcells:=h1;cases h1.Ae with
  | nil=>simp at hlt
  | row b off cap _ N E _ _ g1 g2 g3 g4 g5 g6=>
    unfold Instr.indexAt;refine af (ai ?_);refine af (aq L ht fun d _ hd=>?_)
    rw[bf hd hk];dsimp only;refine af (ai ?_);dsimp only;refine af (aq L ht fun d2 _ hd2=>?_)
    rw[bf hd2 hk];dsimp only;rw[if_pos ⟨h0,by omega⟩]
    refine af (bs L he (ai (.here ⟨.refl k,_,σ,?_,hr,hK⟩)));rw[eF];have hac:a.cells.length=ie.size:=g4 a (List.mem_iff_getElem?.2 ⟨_,ha⟩)
    have hbd:off+n.toNat*ie.size+a.cells.length≤N:=by
     have hn:n.toNat<es.length:=(List.getElem?_eq_some_iff.1 ha).1;have:=Nat.mul_le_mul_right ie.size (show n.toNat+1≤cap by omega)
     rw[Nat.add_mul,Nat.one_mul] at this;omega
    refine V.cp b (off+n.toNat*ie.size) 0 N E a (fun j=>(k.cell b (off+n.toNat*ie.size+j)).getD undef) g2 hbd (fun j hj=>?_) (fun j y hy=>?_)
    . have hf:=lf g4 ha j (by omega)
      obtain⟨u,hu,_,hfl⟩:=hcells.Cp (n.toNat*ie.size+j) a.cells[j] (by rw[hf];simp[hj])
      rw[← Nat.add_assoc] at hu;rw[hu];exact⟨rfl,hfl⟩
    . have hj:j<a.cells.length:=(List.getElem?_eq_some_iff.1 hy).1
      have hf:=lf g4 ha j (by omega)
      obtain⟨u,hu,hua,_⟩:=hcells.Cp (n.toNat*ie.size+j) y (by rw[hf];exact hy)
      rw[← Nat.add_assoc] at hu;rw[hu];exact hua
end
section
variable {P:Program} (L:iB P) {o:Oper} {env:Env} {σ:aa} {K:AV->aa->Prop} {Kp:AV->aa->Prop}
theorem pu {k:ag} {O:ah} {Kp:Value->ag->ah->Prop} {t:Nat} {info:TypeInfo} {K:Nat->ag->ah->Prop} (h:P.info? t=some info) (hK:K info.size k O):dm P (sizeOf t) k O K Kp:=by
 unfold sizeOf typeInfo;refine af (af (cJ ?_));rw[h];exact ai hK
theorem pv {i:TI} {d:TypeDesc} (h:bY P i d=true) (hk:i.kind = .struct) {j:Nat} {x:Nat × Nat × Nat} (hx:i.fL[j]? = some x):∃ fs f info,d = .struct fs∧fs[j]? = some f∧f.offset=x.1∧P.info? f.type=some info∧info.size=x.2.1∧f.type=x.2.2:=by
 cases d with
 | struct fs=>
   simp only[bY,Bool.and_eq_true,beq_iff_eq] at h;have h2:=congrArg (fun l=>l[j]?) h.2
   simp only[List.getElem?_map,hx,Option.map_some] at h2;obtain⟨f,hf,he⟩:=Option.map_eq_some_iff.1 h2;simp only[Prod.mk.injEq] at he;obtain⟨info,hi,hs⟩:=Option.map_eq_some_iff.1 he.2.1;exact⟨fs,f,info,rfl,by simpa using hf,he.1,hi,hs,he.2.2⟩
 | _=>simp[bY,hk] at h
def na (a:AV) (n:Nat):Option AV:=
 match a with
 | .cp v off=>some (.cp v (off+n))
 | .kp b l hole off=>some (.kp b l hole (off+n))
 | .ref b off=>some (.ref b (off+n))
 | _=>none
theorem V.na {k:ag} {v:Value} {a a':AV} {n:Nat} (h:V k v a) (ha:na a n=some a'):∃ b off,v = .pointer (some ⟨b,off,none⟩)∧V k (.pointer (some ⟨b,off+n,none⟩)) a':=by
 cases a <;> simp only[aZ.na,reduceCtorEq,Option.some.injEq] at ha
 . subst ha
   cases h with
   | cp b base _ N E _ c h0 h3 h1 h2=>exact⟨b,_,rfl,by rw[Nat.add_assoc];exact .cp b base _ N E _ c h0 h3 h1 h2⟩
 . subst ha
   cases h with
   | kp _ _ N E _ _ c h0 h3 h1 h2=>exact⟨_,_,rfl,.kp _ _ N E _ _ c h0 h3 h1 h2⟩
 . subst ha
   cases h;exact⟨_,_,rfl,.ref _ _⟩
theorem nc {s j:Nat} {x:Operand} {i:TI} {f:Nat × Nat × Nat} {a':AV} (ho:o.op = .fieldAddr s x j) (ht:L.tt s=some i) (hk:i.kind = .struct) (hf:i.fL[j]? = some f) (hz:f.2.1≠0)
 (ha:na (am env x) f.1=some a') (hK:K a' σ):aE P o env σ K Kp:=
 aE.val (s:=fun ρ=>Instr.fieldAt s (ρ x) j) (fun ρ=>by simp[execOp,ho]) fun k O ρ hv hr=>by
  obtain⟨b,off,e,hv'⟩:=(hv x (by simp[ho,Op.operands])).na ha
  unfold Instr.fieldAt;refine af (aq L ht fun d _ hd=>?_)
  obtain⟨fs,g,info,rfl,h1,h2,h3,h4,_⟩:=pv hd hk hf;dsimp only;rw[h1,e];dsimp only;refine af (ai ?_);unfold fieldPlace;refine af (af (pu h3 ?_));rw[h4,if_neg hz];refine ai (ai (.here ⟨.refl k,_,σ,?_,hr,hK⟩));rw[eF,h2];exact hv'
theorem px {t n e:Nat} {x ix:Operand} {it ie:TI} {z:Int} {kd:IntKind} {a':AV} (ho:o.op = .indexAddr t x ix) (ht:L.tt t=some it) (hk:it.kind = .array n e) (he:L.tt e=some ie)
 (hi:am env ix = .lit (.int kd z)) (h0:0≤z∧z<n) (ha:na (am env x) (z.toNat*ie.size)=some a') (hK:K a' σ):aE P o env σ K Kp:=
 aE.val (s:=fun ρ=>Instr.indexAt t (ρ x) (ρ ix)) (fun ρ=>by simp[execOp,ho]) fun k O ρ hv hr=>by
  obtain⟨b,off,e1,hv'⟩:=(hv x (by simp[ho,Op.operands])).na ha
  have h2:=hv ix (by simp[ho,Op.operands])
  rw[hi] at h2;rw[bL h2,e1];unfold Instr.indexAt;refine af (ai ?_);refine af (aq L ht fun d _ hd=>?_)
  rw[mI hd hk];dsimp only;refine af (ai ?_);refine af (ai ?_);dsimp only;refine af (aq L ht fun d2 _ hd2=>?_)
  rw[mI hd2 hk];dsimp only;rw[if_pos h0];refine af (bs L he (ai (.here ⟨.refl k,_,σ,?_,hr,hK⟩)));rw[eF];exact hv'
theorem py {t e:Nat} {x ix:Operand} {it ie:TI} {b off len cap:Nat} {z:Int} {kd:IntKind} (ho:o.op = .indexAddr t x ix) (ht:L.tt t=some it) (hk:it.kind = .slice e) (he:L.tt e=some ie)
 (hx:am env x = .gq b off len cap) (hi:am env ix = .lit (.int kd z)) (h0:0≤z∧z<len) (hK:K (.ref b (off+z.toNat*ie.size)) σ):aE P o env σ K Kp:=
 aE.val (s:=fun ρ=>Instr.indexAt t (ρ x) (ρ ix)) (fun ρ=>by simp[execOp,ho]) fun k O ρ hv hr=>by
  have h1:=hv x (by simp[ho,Op.operands])
  have h2:=hv ix (by simp[ho,Op.operands])
  rw[hx] at h1;rw[hi] at h2;rw[bL h2];generalize ρ x=v at h1;cases h1;unfold Instr.indexAt;refine af (ai ?_);refine af (aq L ht fun d _ hd=>?_)
  rw[bf hd hk];dsimp only;refine af (ai ?_);dsimp only;refine af (aq L ht fun d2 _ hd2=>?_)
  rw[bf hd2 hk];dsimp only;rw[if_pos h0];refine af (bs L he (ai (.here ⟨.refl k,_,σ,?_,hr,hK⟩)));rw[eF];exact .ref _ _
theorem V.part {k:ag} {O:ah} {Kp:Value->ag->ah->Prop} {t off:Nat} {i:TI} {c:Array Value} {l:List AV} {a:AV} {K:Value->ag->ah->Prop} (hl:c.size=l.length) (hv:∀ (j:Nat) v a,c[j]? = some v->l[j]? = some a->V k v a)
 (ht:L.tt t=some i) (hs:bC l off i.size i.agg=some a) (hK:∀ v,V k v a->K v k O):dm P (part t c off) k O K Kp:=by
 unfold Go.part;refine af (ov L ht ?_);unfold bC at hs;cases hagg:i.agg
 . simp only[hagg,Bool.false_eq_true,if_false] at hs ⊢
   have hlt:off<l.length:=(List.getElem?_eq_some_iff.1 hs).1;rw[show c[off]? = some c[off] from by simp[hl,hlt]]
   exact hK _ (hv off _ a (by simp[hl,hlt]) hs)
 . simp only[hagg,if_true] at hs ⊢
   split at hs
   . next hle=>
     simp only[Option.some.injEq] at hs;subst hs;refine af (bs L ht (ai (hK _ (.agg _ _ ?_ fun j v a hj ha=>?_))))
     . simp[hl];omega
     . rw[Array.getElem?_extract] at hj
       rw[List.getElem?_take] at ha;split at ha
       . rw[List.getElem?_drop] at ha
         split at hj
         . exact hv _ v a hj ha
         . cases hj
       . cases ha
   . cases hs
theorem vS {s j:Nat} {x:Operand} {i fi:TI} {f:Nat × Nat × Nat} {l:List AV} {a:AV} (ho:o.op = .field s x j) (ht:L.tt s=some i) (hk:i.kind = .struct) (hf:i.fL[j]? = some f) (hft:L.tt f.2.2=some fi)
 (hx:am env x = .agg l) (hs:bC l f.1 fi.size fi.agg=some a) (hK:K a σ):aE P o env σ K Kp:=
 aE.val (s:=fun ρ=>Instr.field s (ρ x) j) (fun ρ=>by simp[execOp,ho]) fun k O ρ hv hr=>by
  have h1:=hv x (by simp[ho,Op.operands])
  rw[hx] at h1;generalize ρ x=v at h1;cases h1 with
  | agg c l g1 g2=>
    unfold Instr.field;refine af (aq L ht fun d _ hd=>?_)
    obtain⟨fs,g,info,rfl,h1,h2,h3,h4,h5⟩:=pv hd hk hf;dsimp only;rw[h1];dsimp only;refine af (ai ?_);rw[h2,h5];exact V.part L g1 g2 hft hs fun v hv => .here ⟨.refl k,a,σ,hv,hr,hK⟩
theorem vT {t n e:Nat} {x ix:Operand} {it ie:TI} {z:Int} {kd:IntKind} {l:List AV} {a:AV} (ho:o.op = .index t x ix) (ht:L.tt t=some it) (hk:it.kind = .array n e) (he:L.tt e=some ie)
 (hx:am env x = .agg l) (hi:am env ix = .lit (.int kd z)) (h0:0≤z∧z<n) (hs:bC l (z.toNat*ie.size) ie.size ie.agg=some a) (hK:K a σ):aE P o env σ K Kp:=
 aE.val (s:=fun ρ=>Instr.index t (ρ x) (ρ ix)) (fun ρ=>by simp[execOp,ho]) fun k O ρ hv hr=>by
  have h1:=hv x (by simp[ho,Op.operands])
  have h2:=hv ix (by simp[ho,Op.operands])
  rw[hx] at h1;rw[hi] at h2;rw[bL h2];generalize ρ x=v at h1;cases h1 with
  | agg c l g1 g2=>
    unfold Instr.index;refine af (ai ?_);refine af (aq L ht fun d _ hd=>?_)
    rw[mI hd hk];dsimp only;rw[if_pos h0];refine af (bs L he ?_);exact V.part L g1 g2 he hs fun v hv => .here ⟨.refl k,a,σ,hv,hr,hK⟩
def me (op:BinOp) (k:IntKind) (x y:Int):Option Value:=
 match op with
 | .add=>some (.int k (k.wrap (x+y)))
 | .sub=>some (.int k (k.wrap (x-y)))
 | .mul=>some (.int k (k.wrap (x*y)))
 | .quo=>if y=0 then none else some (.int k (k.wrap (x.tdiv y)))
 | .rem=>if y=0 then none else some (.int k (x.tmod y))
 | .and=>some (.int k (k.wrap ((BitVec.ofInt k.bits x &&& BitVec.ofInt k.bits y).toNat)))
 | .or=>some (.int k (k.wrap ((BitVec.ofInt k.bits x ||| BitVec.ofInt k.bits y).toNat)))
 | .xor=>some (.int k (k.wrap ((BitVec.ofInt k.bits x ^^^ BitVec.ofInt k.bits y).toNat)))
 | .eql=>some (.bool (x == y))
 | .neq=>some (.bool (x != y))
 | .lss=>some (.bool (x<y))
 | .leq=>some (.bool (x≤y))
 | .gtr=>some (.bool (x > y))
 | .geq=>some (.bool (x ≥ y))
 | _=>none
theorem bE {op:BinOp} {t t2:Nat} {x y:Operand} {kd:IntKind} {a b:Int} {v:Value} (ho:o.op = .binOp op t x y t2) (hx:am env x = .lit (.int kd a)) (hy:am env y = .lit (.int kd b)) (hv:me op kd a b=some v) (hK:K (.lit v) σ) :
 aE P o env σ K Kp:=fun k O ρ hρ hr=>by
 have h1:=hρ x (by simp[ho,Op.operands])
 have h2:=hρ y (by simp[ho,Op.operands])
 rw[hx] at h1;rw[hy] at h2;have e1:=bL h1;have e2:=bL h2
 have key : (do eqGuard op t x y (ρ x) (ρ y);binOp op t (ρ x) (ρ y))=(pure v:Sem Value):=by
  rw[e1,e2]
  cases op <;> simp only[me,reduceCtorEq,Option.some.injEq] at hv <;>
   first
    | (subst hv;simp[eqGuard,binOp,Op.intArith,Op.intBits,Op.intCmp];done)
    | (split at hv
       . cases hv
       . next hne=>simp only[Option.some.injEq] at hv;subst hv;simp[eqGuard,binOp,Op.intDiv,hne])
 have:execOp ρ o=pure (.value v):=by
  have e:execOp ρ o=(do let v ← (do eqGuard op t x y (ρ x) (ρ y);binOp op t (ρ x) (ρ y));pure (.value v)):=by simp[execOp,ho]
  rw[e,key];rfl
 rw[this];exact ai ⟨v,.inl rfl,.here ⟨.refl k,_,σ,.lit v,hr,hK⟩⟩
theorem wrap_i64 {n:Int} (h : -9223372036854775808≤n∧n≤9223372036854775807):IntKind.i64.wrap n=n:=by
 simp only[IntKind.wrap,IntKind.bits,IntKind.signed];simp;omega
theorem jW {op:BinOp} {t t2:Nat} {x y:Operand} {a b r:Int} (ho:o.op = .binOp op t x y t2) (hx:am env x = .lit (.int .i64 a)) (hy:am env y = .lit (.int .i64 b))
 (hop:(op = .add∧r=a+b)∨(op = .sub∧r=a-b)∨(op = .mul∧r=a*b)) (hfit : -9223372036854775808≤r∧r≤9223372036854775807) (hK:K (.lit (.int .i64 r)) σ):aE P o env σ K Kp:=by
 have hw:=wrap_i64 hfit
 rcases hop with ⟨rfl,rfl⟩|⟨rfl,rfl⟩|⟨rfl,rfl⟩ <;> exact bE ho hx hy (by simp only[me,hw]) hK
theorem nf {op:BinOp} {t t2:Nat} {x y:Operand} {kd ky:IntKind} {a b:Int} {v:Value} (ho:o.op = .binOp op t x y t2) (hx:am env x = .lit (.int kd a)) (hy:am env y = .lit (.int ky b)) (hb:0≤b)
 (hop:(op = .shl∧v = .int kd (kd.wrap (a*2 ^ (min b.toNat kd.bits))))∨(op = .shr∧v = .int kd (a.fdiv (2 ^ (min b.toNat kd.bits))))) (hK:K (.lit v) σ) :
 aE P o env σ K Kp:=fun k O ρ hρ hr=>by
 have h1:=hρ x (by simp[ho,Op.operands])
 have h2:=hρ y (by simp[ho,Op.operands])
 rw[hx] at h1;rw[hy] at h2;have e1:=bL h1;have e2:=bL h2;have hn : ¬ b<0:=by omega
 have key:(do eqGuard op t x y (ρ x) (ρ y);binOp op t (ρ x) (ρ y))=(pure v:Sem Value):=by
  rw[e1,e2]
  rcases hop with ⟨rfl,rfl⟩|⟨rfl,rfl⟩ <;> simp[eqGuard,binOp,Op.shift,hn]
 have:execOp ρ o=pure (.value v):=by
  have e:execOp ρ o=(do let v ← (do eqGuard op t x y (ρ x) (ρ y);binOp op t (ρ x) (ρ y));pure (.value v)):=by simp[execOp,ho]
  rw[e,key];rfl
 rw[this];exact ai ⟨v,.inl rfl,.here ⟨.refl k,_,σ,.lit v,hr,hK⟩⟩
theorem mJ {k:ag} {v:Value} {b:Bool} (h:V k v (.lit (.bool b))):v = .bool b:=by cases h;rfl
theorem Cq {t:Nat} {x:Operand} {b:Bool} (ho:o.op = .unOp .not t x) (hx:am env x = .lit (.bool b)) (hK:K (.lit (.bool !b)) σ):aE P o env σ K Kp:=fun k O ρ hρ hr=>by
 have h1:=hρ x (by simp[ho,Op.operands])
 rw[hx] at h1;have:execOp ρ o=pure (.value (.bool !b)):=by simp[execOp,ho,mJ h1,Op.unary]
 rw[this];exact ai ⟨_,.inl rfl,.here ⟨.refl k,_,σ,.lit _,hr,hK⟩⟩
theorem qF {s t:Nat} {x:Operand} {is it:TI} {kd ks:IntKind} {kd':IntKind} {a:Int} (ho:o.op = .convert s t x) (hs:L.tt s=some is) (ht:L.tt t=some it) (hks:is.kind = .int ks) (hkt:it.kind = .int kd) (hx:am env x = .lit (.int kd' a)) (hK:K (.lit (.int kd (kd.wrap a))) σ):aE P o env σ K Kp:=
 aE.val (s:=fun ρ=>convert s t (ρ x)) (fun ρ=>by simp[execOp,ho]) fun k O ρ hρ hr=>by
  have h1:=hρ x (by simp[ho,Op.operands])
  rw[hx] at h1;rw[bL h1];unfold convert;refine af (aq L hs fun d _ hd=>af (aq L ht fun d2 _ hd2=>?_))
  have e2:d2 = .int kd:=by cases d2 <;> simp_all [bY]
  have e1:d = .int ks:=by cases d <;> simp_all [bY]
  subst e1 e2;exact ai (.here ⟨.refl k,_,σ,.lit _,hr,hK⟩)
theorem lO {b:Builtin} {tys:Array TypeId} {x y:Operand} {kd:IntKind} {p q:Int} (ho:o.op = .call ⟨.builtin b,#[x,y],tys⟩) (hx:am env x = .lit (.int kd p)) (hy:am env y = .lit (.int kd q))
 {r:Int} (hb:(b = .min∧r=if q<p then q else p)∨(b = .max∧r=if q > p then q else p)) (hK:K (.lit (.int kd r)) σ):aE P o env σ K Kp:=fun k O ρ hρ hr=>by
 have h1:=hρ x (by simp[ho,Op.operands,Call.operands])
 have h2:=hρ y (by simp[ho,Op.operands,Call.operands])
 rw[hx] at h1;rw[hy] at h2;have e1:=bL h1;have e2:=bL h2
 have:execOp ρ o=pure (.value (.int kd r)):=by
  rcases hb with ⟨rfl,rfl⟩|⟨rfl,rfl⟩ <;>
  simp[execOp,ho,resolve,invoke,builtin,e1,e2,Builtin.min_,Builtin.max_,Builtin.min2,Builtin.max2]
 rw[this];exact ai ⟨_,.inl rfl,.here ⟨.refl k,_,σ,.lit _,hr,hK⟩⟩
theorem jX {t:Nat} {x:Operand} {i:TI} (ho:o.op = .makeInterface t x) (ht:L.tt t=some i) (hk:i.kind ≠ .iface) (hK:K (.kZ t (am env x)) σ):aE P o env σ K Kp:=
 aE.val (s:=fun ρ=>Instr.makeInterface t (ρ x)) (fun ρ=>by simp[execOp,ho]) fun k O ρ hρ hr=>by
  unfold Instr.makeInterface;refine af (aq L ht fun d _ hd=>?_)
  have:∀ ms,d ≠ .interface ms:=fun ms e=>by subst e;simp[bY] at hd;exact hk hd
  have fin:dm P (pure (Value.iface t (ρ x)):Sem Value) k O (fun v k' O'=>jU k' O' fun k2 O2=>k.Le k2∧∃ a σ',V k2 v a∧Rel k2 O2 σ'∧K a σ') (fun v k' O'=>k.Le k'∧∃ a σ',V k' v a∧Rel k' O' σ'∧Kp a σ'):=
   ai (.here ⟨.refl k,_,σ,.kZ _ _ _ (hρ x (by simp[ho,Op.operands])),hr,hK⟩)
  cases d <;> first|exact fin|exact absurd rfl (this _)
theorem Vs.ofArray {k:ag} {ρ:Operand->Value} {env:Env} {xs:Array Operand} (h:∀ x∈xs,V k (ρ x) (am env x)):(xs.map ρ).size=(xs.toList.map (am env)).length∧∀ (i:Nat) v a,(xs.map ρ)[i]? = some v->(xs.toList.map (am env))[i]? = some a->V k v a:=by
 refine⟨by simp,fun i v a h1 h2=>?_⟩
 simp only[Array.getElem?_map,List.getElem?_map,Array.getElem?_toList] at h1 h2;cases hx:xs[i]? with
 | none=>rw[hx] at h1;cases h1
 | some x=>
   rw[hx] at h1 h2;simp at h1 h2;subst h1;subst h2;exact h x (Array.mem_of_getElem? hx)
theorem pz {fn:Fn} {fs cs:Array Operand} (ho:o.op = .makeFunc fn fs cs) (hK:K (.fn fn (fs.toList.map (am env)) (cs.toList.map (am env))) σ):aE P o env σ K Kp:=fun k O ρ hρ hr=>by
 have:execOp ρ o=pure (.value (.func fn (fs.map ρ) (cs.map ρ))):=by simp[execOp,ho,Instr.makeFunc]
 rw[this];obtain⟨a1,a2⟩:=Vs.ofArray (k:=k) (ρ:=ρ) (env:=env) (xs:=fs) fun x hx=>hρ x (by simp[ho,Op.operands,hx])
 obtain⟨b1,b2⟩:=Vs.ofArray (k:=k) (ρ:=ρ) (env:=env) (xs:=cs) fun x hx=>hρ x (by simp[ho,Op.operands,hx])
 exact ai ⟨_,.inl rfl,.here ⟨.refl k,_,σ,.fn _ _ _ _ _ a1 a2 b1 b2,hr,hK⟩⟩
theorem qG {x:Operand} {j:Nat} {l:List AV} {a:AV} (ho:o.op = .extract x j) (hx:am env x = .cB l) (ha:l[j]? = some a) (hK:K a σ):aE P o env σ K Kp:=fun k O ρ hρ hr=>by
 have h1:=hρ x (by simp[ho,Op.operands])
 rw[hx] at h1;generalize hq:ρ x=v at h1;cases h1 with
 | cB c l g1 g2=>
   have hj:j<c.size:=by rw[g1];exact (List.getElem?_eq_some_iff.1 ha).1
   have:execOp ρ o=pure (.value c[j]):=by simp[execOp,ho,Instr.extract,hq,hj]
   rw[this];exact ai ⟨_,.inl rfl,.here ⟨.refl k,_,σ,g2 j _ a (by simp[hj]) ha,hr,hK⟩⟩
theorem mh {x:Operand} {xt t:Nat} {i:TI} {d:Nat} {y:AV} (ho:o.op = .typeAssert x xt t true) (ht:L.tt t=some i) (hk:i.kind ≠ .iface) (hx:am env x = .kZ d y)
 (hK:K (if d=t then .cB [y,.lit (.bool true)] else .cB [jK i.zero,.lit (.bool false)]) σ):aE P o env σ K Kp:=
 aE.val (s:=fun ρ=>Instr.typeAssert (ρ x) xt t true) (fun ρ=>by simp[execOp,ho]) fun k O ρ hρ hr=>by
  have h1:=hρ x (by simp[ho,Op.operands])
  rw[hx] at h1;generalize ρ x=v at h1;cases h1 with
  | kZ _ v _ hv=>
    unfold Instr.typeAssert;refine af (aq L ht fun dd _ hd=>?_)
    have hni:∀ ms,dd ≠ .interface ms:=fun ms e=>by subst e;simp[bY] at hd;exact hk hd
    have pair:∀ {u:Value} {b:Bool} {a:AV},V k u a->V k (.tuple #[u,.bool b]) (.cB [a,.lit (.bool b)]):=fun {u b a} h => .cB _ _ rfl fun j w c h1 h2=>by
     match j with
     | 0=>simp at h1 h2;subst h1;subst h2;exact h
     | 1=>simp at h1 h2;subst h1;subst h2;exact .lit _
     | j+2=>simp at h1
    have fin:dm P (if d=t then (pure (.tuple #[v,.bool true]):Sem Value) else (do pure (.tuple #[← zeroValue t,.bool false]))) k O (fun v k' O'=>jU k' O' fun k2 O2=>k.Le k2∧∃ a σ',V k2 v a∧Rel k2 O2 σ'∧K a σ') (fun v k' O'=>k.Le k'∧∃ a σ',V k' v a∧Rel k' O' σ'∧Kp a σ'):=by
     split at hK
     . next e=>rw[if_pos e];exact ai (.here ⟨.refl k,_,σ,pair hv,hr,hK⟩)
     . next e=>rw[if_neg e];exact af (bP L ht (ai (.here ⟨.refl k,_,σ,pair (.jK k _),hr,hK⟩)))
    cases dd <;> first|exact fin|exact absurd rfl (hni _)
theorem de {x:Operand} (ho:o.op = .nilCheck x) (hx:(∃ v off,am env x = .cp v off)∨(∃ b off,am env x = .ref b off)∨(∃ f l r,am env x = .fn (.func f) l r)∨∃ b l hole off,am env x = .kp b l hole off) (hK:K (am env x) σ):aE P o env σ K Kp:=fun k O ρ hρ hr=>by
 have h1:=hρ x (by simp[ho,Op.operands])
 have:execOp ρ o=pure (.value (ρ x)):=by
  rcases hx with ⟨v,off,e⟩|⟨b,off,e⟩|⟨f,l,r,e⟩|⟨b,l,hole,off,e⟩ <;> rw[e] at h1 <;> generalize hq:ρ x=w at h1 <;> cases h1 <;> simp[execOp,ho,hq]
 rw[this];exact ai ⟨_,.inl rfl,.here ⟨.refl k,_,σ,h1,hr,hK⟩⟩
theorem vU {x:Operand} {t:Nat} {y:AV} (ho:o.op = .panic x) (hx:am env x = .kZ t y) (hK:Kp (.kZ t y) σ):aE P o env σ K Kp:=fun k O ρ hρ hr=>by
 have h1:=hρ x (by simp[ho,Op.operands])
 rw[hx] at h1;generalize hq:ρ x=w at h1;cases h1 with
 | kZ _ v _ hv=>
   have:execOp ρ o=Sem.halt (.panic (.iface t v)):=by simp[execOp,ho,hq,Instr.panic,goPanic];rfl
   rw[this];exact⟨.refl k,_,σ,.kZ _ _ _ hv,hr,hK⟩
theorem vV {op:BinOp} {t t2 e:Nat} {x y:Operand} {i:TI} {kk:Nat} {es:List AV} {sp:bK} {isNil:Bool} (ho:o.op = .binOp op t x y t2) (ht:L.tt t=some i) (hk:i.kind = .slice e) (hy:am env y = .nil)
 (hx:(am env x = .nil∧isNil=true)∨(am env x = .sl kk es sp∧es≠[]∧isNil=false)∨(am env x = .sl kk es sp∧sp ≠ .any∧isNil=false)) {b:Bool} (hop:(op = .eql∧b=isNil)∨(op = .neq∧b = !isNil)) (hK:K (.lit (.bool b)) σ):aE P o env σ K Kp:=
 aE.val (s:=fun ρ=>do eqGuard op t x y (ρ x) (ρ y);binOp op t (ρ x) (ρ y)) (fun ρ=>by simp[execOp,ho]) fun k O ρ hρ hr=>by
  have h1:=hρ x (by simp[ho,Op.operands])
  have h2:=hρ y (by simp[ho,Op.operands])
  rw[hy] at h2;have e2:ρ y = .slice none 0 0:=by generalize ρ y=w at h2;cases h2;rfl
  have e1:∃ a n c,ρ x = .slice a n c∧a.isNone=isNil:=by
   rcases hx with ⟨e,rfl⟩|⟨e,hne,rfl⟩|⟨e,hne,rfl⟩ <;> rw[e] at h1
   . generalize ρ x=w at h1;cases h1;exact⟨_,_,_,rfl,rfl⟩
   . generalize ρ x=w at h1
     cases h1.Ae with
     | nil=>exact absurd rfl hne
     | row=>exact⟨_,_,_,rfl,rfl⟩
   . generalize ρ x=w at h1
     cases h1.Ae with
     | nil=>exact absurd rfl hne
     | row=>exact⟨_,_,_,rfl,rfl⟩
  obtain⟨a,n,c,e1,hn⟩:=e1;rw[e1,e2];have hg:eqGuard op t x y (.slice a n c) (.slice none 0 0)=pure ():=by rcases hop with ⟨rfl,_⟩|⟨rfl,_⟩ <;> simp[eqGuard]
  rw[hg];refine af (ai ?_)
  have fin:∀ {s:Sem Value},s=(do pure (.bool b))->dm P s k O (fun v k' O'=>jU k' O' fun k2 O2=>k.Le k2∧∃ a σ',V k2 v a∧Rel k2 O2 σ'∧K a σ') (fun v k' O'=>k.Le k'∧∃ a σ',V k' v a∧Rel k' O' σ'∧Kp a σ'):=fun e=>by
   rw[e];exact ai (.here ⟨.refl k,_,σ,.lit _,hr,hK⟩)
  have heq:∀ (R:Bool->ag->ah->Prop) (Rp:Value->ag->ah->Prop),R isNil k O->dm P (Op.equal t (.slice a n c) (.slice none 0 0)) k O R Rp:=fun R Rp hR=>by
   show dm P (Op.equalIn (9999+1) t (.slice a n c) (.slice none 0 0)) k O R Rp;rw[Op.equalIn];refine af (aq L ht fun d _ hd=>?_)
   rw[bf hd hk];cases a <;> simp at hn <;> subst hn <;> exact ai hR
  rcases hop with ⟨rfl,rfl⟩|⟨rfl,rfl⟩
  . exact af (s:=Op.equal t (.slice a n c) (.slice none 0 0)) (heq _ _ (fin rfl))
  . exact af (s:=Op.equal t (.slice a n c) (.slice none 0 0)) (heq _ _ (fin rfl))
end
def xT (a:AV) (kk:Nat) (es:List AV):Prop:=(a = .nil∧es=[])∨∃ sp,a = .sl kk es sp
def Tok (σ0 σ:aa) (a:AV) (kk:Nat) (es:List AV):Prop:=
 σ0.Le σ∧((a = .nil∧es=[])∨a = .sl kk es .exact∨∃ b e,σ0 b=none∧a = .sl kk es (.tok b e)∧σ b=some (.tail e))
theorem Tok.I6 {σ0 σ:aa} {a:AV} {kk:Nat} {es:List AV} (h:Tok σ0 σ a kk es):xT a kk es:=by
 rcases h.2 with h|h|⟨b,e,_,h,_⟩
 . exact .inl h
 . exact .inr ⟨_,h⟩
 . exact .inr ⟨_,h⟩
theorem xT.W {a:AV} {kk:Nat} {es:List AV} (h:xT a kk es):a.W (.sl kk es .any):=by
 rcases h with ⟨rfl,rfl⟩|⟨sp,rfl⟩
 . exact iC kk
 . exact fq kk es sp
theorem Tok.W {σ0 σ:aa} {a:AV} {kk:Nat} {es:List AV} (h:Tok σ0 σ a kk es):a.W (.sl kk es .any):=h.I6.W
theorem Tok.nil (σ:aa) (kk:Nat):Tok σ σ .nil kk []:=⟨fun _ _ h=>h,.inl ⟨rfl,rfl⟩⟩
theorem Tok.exact (σ:aa) (kk:Nat) (es:List AV):Tok σ σ (.sl kk es .exact) kk es:=⟨fun _ _ h=>h,.inr (.inl rfl)⟩
section
variable {P:Program} (L:iB P) {k:ag} {O:ah} {Kp:Value->ag->ah->Prop}
theorem sn {K:Unit->ag->ah->Prop} {b off N:Nat} {E:TypeId}:∀ (vs:List Value) (i:Nat) (k:ag) (O:ah),O b=some (.tail (off+i))->k.sh b=some (E,N)->off+i+vs.length≤N->(∀ v∈vs,flat v=true) ->
 (∀ k' O',k.Le k'->(∀ (j:Nat) v,vs[j]? = some v->k'.cell b (off+i+j)=some v)->O'=O.set b (.tail (off+i+vs.length))->K () k' O')->dm P (storeCells ⟨b,off,none⟩ vs i) k O K Kp:=by
 intro vs
 induction vs with
 | nil=>
   intro i k O ho hs hlen hf h;refine ai (h k O (.refl k) (fun j v hj=>by simp at hj) ?_)
   funext x
   by_cases hx:x=b
   . subst hx;simp[ah.set,ho]
   . simp[ah.set,hx]
 | cons v vs ih=>
   intro i k O ho hs hlen hf h;simp only[List.length_cons] at hlen;unfold storeCells;rw[eF];refine af (s:=store ⟨b,off+i,none⟩ v) ⟨rfl,hf v (by simp),rfl,.inr ⟨E,N,ho,hs,by show off+i<N;omega,fun hn=>?_⟩⟩
   refine ih (i+1) _ _ (by simp[ah.set];omega) hs (by omega) (fun u hu=>hf u (by simp[hu])) fun k' O' hle hc hO=>?_
   refine h k' O' ((ag.Le.put hn).trans hle) (fun j u hj=>?_) ?_
   . cases j with
     | zero=>
       simp at hj;subst hj;exact hle.cell _ _ _ (by simp[ag.put])
     | succ j=>
       have:=hc j u (by simpa using hj)
       rw[show off+i+(j+1)=off+(i+1)+j by omega];exact this
   . rw[hO];funext x
     by_cases hx:x=b
     . subst hx;simp[ah.set];omega
     . simp[ah.set,hx]
theorem nextslicecap_le {dV c:Nat} (h:c<dV):Builtin.nextslicecap dV c≤4*dV+2000:=by
 have g:∀ (r c b:Nat),c≤b->Builtin.growBy dV r c≤max b ((dV+(dV+768) / 4)):=by
  intro r
  induction r with
  | zero=>intro c b hb;simp only[Builtin.growBy];omega
  | succ r ih=>
    intro c b hb;simp only[Builtin.growBy];split
    . omega
    . refine Nat.le_trans (ih _ (dV+(dV+768) / 4) (by omega)) (by omega)
 unfold Builtin.nextslicecap;split
 . omega
 . split
   . omega
   . refine Nat.le_trans (g 4 c dV (by omega)) (by omega)
theorem lP {K:Array Value->ag->ah->Prop} {v:Value} {a:AV} {kk:Nat} {es:List AV} {n:Nat} (hv:V k v a) (ha:xT a kk es) (hn:n≤es.length)
 (hK:∀ c:Array Value,c.size=n*kk->(∀ (j:Nat) u x,c[j]? = some u->(flatten es)[j]? = some x->V k u x)->(∀ (j:Nat) u,c[j]? = some u->flat u=true)->K c k O):dm P (Builtin.firstCells kk n v) k O K Kp:=by
 rcases ha with ⟨rfl,rfl⟩|⟨sp,rfl⟩
 . cases hv
   have:n=0:=by simpa using hn
   subst this;exact ai (hK #[] (by simp) (fun j u x hj=>by simp at hj) (fun j u hj=>by simp at hj))
 . cases hv.Ae with
   | nil=>
     have:n=0:=by simpa using hn
     subst this;exact ai (hK #[] (by simp) (fun j u x hj=>by simp at hj) (fun j u hj=>by simp at hj))
   | row b off cap _ N E _ _ g1 g2 g3 g4 g5 g6=>
     unfold Builtin.firstCells loadCells;have hfl:=aV g4;have hle:n*kk≤(flatten es).length:=by rw[hfl];exact Nat.mul_le_mul_right kk hn
     rw[show (⟨b,off,none⟩:Addr)=⟨b,off+0,none⟩ by rfl]
     refine fM (g5 O) (n*kk) 0 #[] (by omega) fun vs hvs hvv hff=>?_
     refine hK _ (by simp[hvs]) (fun j u x hj hx=>hvv j u x (by simpa using hj) (by simpa using hx)) (fun j u hj=>hff u ?_)
     have:vs[j]? = some u:=by simpa using hj
     exact List.mem_of_getElem? this
theorem Cr {K:Nat->ag->ah->Prop} {v:Value} {a:AV} {kk:Nat} {es:List AV} (hv:V k v a) (ha:xT a kk es) (hK:K es.length k O):dm P (Builtin.lenOf v) k O K Kp:=by
 rcases ha with ⟨rfl,rfl⟩|⟨sp,rfl⟩
 . cases hv;exact ai hK
 . obtain⟨x,c,rfl⟩:=hv.Ae.len;exact ai hK
end
theorem pZ {P:Program} {k:ag} {O:ah} {Kp:Value->ag->ah->Prop} {K:Addr->ag->ah->Prop} {E:TypeId} {c:Array Value} {n:Nat} (hn:n≤c.size)
 (hK:∀ r k' O',y8 k O r->(jU k' O' fun k2 O2=>k.Le k2∧(∀ j v,j<n->c[j]? = some v->k2.cell r j=some v)∧k2.sh r=some (E,c.size)∧(∀ σ,Rel k O σ->Rel k2 O2 (σ.set r (.tail n))))->K ⟨r,0,none⟩ k' O'):dm P (newRow E c) k O K Kp:=by
 refine af (s:=newObj (.cells c E)) ⟨rfl,fun r hr=>ai (hK r _ _ hr ?_)⟩
 obtain⟨f1,f2,f3⟩:=hr;have hk1:k.Le (k.made r (.cells c E)):=.made f3;have hno:∀ j,(k.made r (.cells c E)).cell r j=none:=f2;refine⟨_,_,kr (n:=n) (c:=c) (e:=E) (r:=r) (by simp[ah.set]) (by simp[ag.made,ag.cD]),hk1.trans (.qB hno),fun j v hj hv=>by simp only[ag.qB,true_and,hj,if_true];exact hv,by simp[ag.qB,ag.made,ag.cD],fun σ h=>?_⟩
 have:((O.set r (.obj (.cells c E))).set r (.tail n))=O.set r (.tail n):=by
  funext b;by_cases hb:b=r <;> simp[ah.set,hb]
 rw[this];exact (h.mono (hk1.trans (.qB hno))).set (.tail n)
section
variable {P:Program} (L:iB P) {o:Oper} {env:Env} {σ:aa} {K:AV->aa->Prop} {Kp:AV->aa->Prop}
theorem lg {k:ag} {O:ah} {Kp:Value->ag->ah->Prop} {K:Unit->ag->ah->Prop} {n:Nat} (h:K () k O):dm P (askRoom n) k O K Kp:=by
 unfold askRoom;split
 . exact⟨rfl,h⟩
 . exact h
theorem aU {s x:Operand} {tys:Array TypeId} {t t2 e e2:Nat} {it it2 ie:TI} {σ0:aa} {es xs:List AV} (ho:o.op = .call ⟨.builtin .append,#[s,x],tys⟩) (h0:tys[0]? = some t) (h1:tys[1]? = some t2) (ht:L.tt t=some it) (hk:it.kind = .slice e)
 (ht2:L.tt t2=some it2) (hk2:it2.kind = .slice e2) (he:L.tt e=some ie) (hb:ie.bytes≤1024) (hlen:es.length+xs.length≤1073741824) (hs:Tok σ0 σ (am env s) ie.size es) (hx:xT (am env x) ie.size xs)
 (hK:∀ a' σ',Tok σ0 σ' a' ie.size (es ++ xs)->K a' σ'):aE P o env σ K Kp:=fun k O ρ hv hr=>by
 have hvs:=hv s (by simp[ho,Op.operands,Call.operands])
 have hvx:=hv x (by simp[ho,Op.operands,Call.operands])
 have:execOp ρ o=(do pure (Next.value (← Builtin.append_ tys o.type #[ρ s,ρ x]))):=by simp[execOp,ho,resolve,invoke,builtin]
 rw[this];refine af ?_;have hzs:ie.zero.cells.size=ie.size:=by obtain⟨_,_,_,_,_,_,h⟩:=L.facts he;exact h
 have hsl:∃ base cap,ρ s = .slice base es.length cap∧((am env s = .nil∧base=none∧cap=0∧es=[]) ∨
  ∃ b off N E sp,base=some ⟨b,off,none⟩∧am env s = .sl ie.size es sp∧es.length≤cap∧k.sh b=some (E,N)∧off+cap*ie.size≤N∧(∀ e∈es,e.cells.length=ie.size) ∧
    (∀ (j:Nat) a,(flatten es)[j]? = some a->∃ v,k.cell b (off+j)=some v∧V k v a∧aZ.flat v=true)∧sp.fits b off es.length ie.size cap∧(sp = .exact∨∃ e,σ0 b=none∧sp = .tok b e∧σ b=some (.tail e))):=by
  rcases hs.2 with ⟨h,rfl⟩|h|⟨b,en,hb0,h,htail⟩ <;> rw[h] at hvs
  . generalize ρ s=v at hvs;cases hvs;exact⟨none,0,rfl,.inl ⟨h,rfl,rfl,rfl⟩⟩
  . rcases hvs.jt with ⟨_,_,q⟩|⟨b,off,cap,N,E,q1,q2,q3,q4,q5,q6,q7⟩
    . cases q
    . exact⟨_,cap,q1,.inr ⟨b,off,N,E,.exact,rfl,h,q2,q3,q4,q5,q6,q7,.inl rfl⟩⟩
  . rcases hvs.jt with ⟨_,_,q⟩|⟨b',off,cap,N,E,q1,q2,q3,q4,q5,q6,q7⟩
    . cases q
    . obtain⟨rfl,_⟩:=id q7
      exact⟨_,cap,q1,.inr ⟨b,off,N,E,.tok b en,rfl,h,q2,q3,q4,q5,q6,q7,.inr ⟨en,hb0,rfl,htail⟩⟩⟩
 obtain⟨base,cap,hρs,hfacts⟩:=hsl;have hle0:=hs.1;unfold Builtin.append_;simp only[h0,h1,List.getElem?_toArray,List.getElem?_cons_zero,List.getElem?_cons_succ];refine af (aq L ht fun d _ hd=>?_)
 rw[bf hd hk,hρs];dsimp only;refine af (bs L he ?_);refine af (aq L ht2 fun d2 _ hd2=>?_)
 rw[bf hd2 hk2];refine af (ai ?_);dsimp only;simp only[Bool.false_eq_true,if_false,Bool.not_false,if_true];refine af (Cr hvx hx ?_)
 by_cases hroom:es.length+xs.length≤cap
 ·
  rw[if_pos hroom];refine af (lP hvx hx (Nat.le_refl _) fun c hc1 hc2 hc3=>?_)
  rcases hfacts with ⟨ha,rfl,rfl,rfl⟩|⟨b,off,N,E,sp,rfl,ha,g1,g2,g3,g4,g5,g6,rfl|⟨en,hb0,rfl,htail⟩⟩
  . have hxs:xs=[]:=by simpa using hroom
    subst hxs;dsimp only;refine ai ?_;refine ai ⟨_,.inl rfl,.here ⟨.refl k,.nil,σ,?_,hr,hK _ _ ⟨hle0,.inl ⟨rfl,rfl⟩⟩⟩⟩;simp only[List.length_nil,Nat.zero_add];exact .lit _
  . have hcap:cap=es.length:=g6
    have hxs:xs=[]:=by cases xs with|nil=>rfl|cons _ _=>simp at hroom;omega
    subst hxs
    have hcz:c.toList=[]:=by
     have:c.size=0:=by simpa using hc1
     simpa using this
    dsimp only;rw[hcz];refine af (ai ?_);refine ai (ai ⟨_,.inl rfl,.here ⟨.refl k,.sl ie.size es .exact,σ,?_,hr,hK _ _ ⟨hle0,.inr (.inl (by simp))⟩⟩⟩)
    rw[hρs,ha] at hvs;simpa using hvs
  . obtain ⟨_,hen⟩:=g6
    obtain⟨y,hO,hy⟩:=hr.1 b _ htail (by simp)
    cases hy;dsimp only;rw[eF]
    have hxl:(flatten xs).length=c.size∧∀ e∈xs,e.cells.length=ie.size:=by
     rcases hx with ⟨_,rfl⟩|⟨sp,hx⟩
     . exact⟨by simp[flatten];simpa using hc1.symm,by simp⟩
     . rw[hx] at hvx
       rcases hvx.jt with ⟨_,rfl,_⟩|⟨_,_,_,_,_,_,_,_,_,q5,_⟩
       . exact⟨by simp[flatten];simpa using hc1.symm,by simp⟩
       . exact⟨by rw[aV q5,hc1],q5⟩
    have hmul:off+(es.length+xs.length)*ie.size≤N:=Nat.le_trans (Nat.add_le_add_left (Nat.mul_le_mul_right _ hroom) off) g3;rw[Nat.add_mul] at hmul;refine af (sn c.toList 0 k O (by rw[hO,hen];rfl) g2 (by simp[hc1];omega) (fun u hu=>?_) fun k' O' hle hcell hO'=>?_)
    . obtain⟨j,hj,rfl⟩:=List.mem_iff_getElem.1 hu
      exact hc3 j _ (by simp at hj;simp[hj])
    . refine ai (ai ⟨_,.inl rfl,.here ⟨hle,.sl ie.size (es ++ xs) (.tok b (off+(es ++ xs).length*ie.size)),σ.set b (.tail (off+(es ++ xs).length*ie.size)),?_,?_,hK _ _ ⟨?_,.inr (.inr ⟨b,_,hb0,rfl,by simp[aa.set]⟩)⟩⟩⟩)
      . rw [show es.length+xs.length=(es ++ xs).length by simp]
        refine V.ofRow (by simpa using hroom) (hle.sh _ _ g2) g3 (fun z hz=>?_) (fun j a ha=>?_) ⟨rfl,rfl⟩
        . rcases List.mem_append.1 hz with hz|hz
          . exact g4 z hz
          . exact hxl.2 z hz
        . rw[flatten_append] at ha
          by_cases hj:j<(flatten es).length
          . rw[List.getElem?_append_left hj] at ha
            obtain⟨u,hu,hua,huf⟩:=g5 j a ha;exact⟨u,hle.cell _ _ _ hu,hua.mono hle,huf⟩
          . rw[List.getElem?_append_right (by omega)] at ha
            have hlt:j-(flatten es).length<c.size:=by rw[← hxl.1];exact (List.getElem?_eq_some_iff.1 ha).1
            have hcj:c[j-(flatten es).length]? = some c[j-(flatten es).length]:=by simp[hlt]
            refine⟨_,?_,(hc2 _ _ a hcj ha).mono hle,hc3 _ _ hcj⟩;have:=hcell (j-(flatten es).length) _ (by rw[Array.getElem?_toList];exact hcj)
            rw[← this];congr 1;have hfe:=aV g4;omega
      . rw[hO']
        have:off+es.length*ie.size+0+c.toList.length=off+(es ++ xs).length*ie.size:=by
         simp only[Array.length_toList,hc1,List.length_append,Nat.add_mul];omega
        rw[this];exact (hr.mono hle).set (.tail _)
      . intro b' y hy
        have:b'≠b:=fun q=>by rw[q,hb0] at hy;cases hy
        simp[aa.set,this,hle0 b' y hy]
 ·
  rw[if_neg hroom]
  have hmax : ¬ ((es.length+xs.length:Nat):Int) > IntKind.i64.max:=by
   have:IntKind.i64.max=9223372036854775807:=rfl;rw[this];omega
  refine af (bz L he fun info _ _ hib _=>?_)
  rw[if_neg (fun q=>hmax q.1)]
  refine af (bz L he fun info2 _ _ hib2 _=>?_)
  have hnext:=nextslicecap_le (Nat.lt_of_not_le hroom)
  have hcap2 : ¬ (Builtin.nextslicecap (es.length+xs.length) cap*info2.bytes > 2 ^ 48):=by
   rw[hib2];have h1:Builtin.nextslicecap (es.length+xs.length) cap*ie.bytes≤(4*(es.length+xs.length)+2000)*1024:=Nat.mul_le_mul hnext hb;omega
  rw[if_neg hcap2];refine af (s:=choose _) (fun t=>?_)
  have hforced:(Question.appendCap (es.length+xs.length) cap e).forced=false:=rfl;rw[hforced];simp only[Bool.false_eq_true,if_false];have hnc:∃ newCap,(Question.appendCap (es.length+xs.length) cap e).cut t=newCap∧es.length+xs.length≤newCap:=⟨_,rfl,by simp only[Question.cut];omega⟩
  obtain⟨newCap,hnc1,hnc2⟩:=hnc;rw[hnc1];refine ai ?_;refine af (bz L he fun info3 _ _ _ _=>?_)
  refine af (lg ?_);refine af (lP (a:=am env s) (by rw[← hρs];exact hv s (by simp[ho,Op.operands,Call.operands])) hs.I6 (Nat.le_refl _) fun c hc1 hc2 hc3=>?_)
  refine af (lP hvx hx (Nat.le_refl _) fun d hd1 hd2 hd3=>?_)
  refine af (bP L he ?_)
  have hes:∀ e∈es,e.cells.length=ie.size:=by
   rcases hfacts with ⟨_,_,_,rfl⟩|⟨_,_,_,_,_,_,_,_,_,_,q,_⟩
   . simp
   . exact q
  have hxs:∀ e∈xs,e.cells.length=ie.size:=by
   rcases hx with ⟨_,rfl⟩|⟨sp,hx⟩
   . simp
   . rw[hx] at hvx
     rcases hvx.jt with ⟨_,rfl,_⟩|⟨_,_,_,_,_,_,_,_,_,q5,_⟩
     . simp
     . exact q5
  have hzc:(Builtin.zeroCells ie.zero.cells (newCap-(es.length+xs.length))).size=(newCap-(es.length+xs.length))*ie.size:=by
   simp[Builtin.zeroCells,hzs]
  refine af (pZ (n:=(es.length+xs.length)*ie.size) ?_ fun r k' O' hfr ht=>ai (ai ⟨_,.inl rfl,?_⟩))
  . simp only[Array.size_append,hc1,hd1,hzc,Nat.add_mul];omega
  . obtain ⟨k2,O2,hg,hle,hcell,hsh,hrel⟩:=ht
    refine⟨k2,O2,hg,hle,.sl ie.size (es ++ xs) (.tok r ((es ++ xs).length*ie.size)),σ.set r (.tail ((es ++ xs).length*ie.size)),?_,?_,hK _ _ ⟨?_,.inr (.inr ⟨r,_,?_,rfl,by simp[aa.set]⟩)⟩⟩
    . rw [show es.length+xs.length=(es ++ xs).length by simp]
      refine V.ofRow (by simpa using hnc2) hsh ?_ (fun z hz=>?_) (fun j a ha=>?_) ⟨rfl,by omega⟩
      . simp only[Array.size_append,hc1,hd1,hzc]
        have:newCap*ie.size=(es.length+xs.length)*ie.size+(newCap-(es.length+xs.length))*ie.size:=by
         rw[← Nat.add_mul];congr 1;omega
        rw[this,Nat.add_mul];omega
      . rcases List.mem_append.1 hz with hz|hz
        . exact hes z hz
        . exact hxs z hz
      . rw [flatten_append] at ha
        have hfe:=aV hes;have hfx:=aV hxs;rw[Nat.zero_add]
        by_cases hj:j<(flatten es).length
        . rw[List.getElem?_append_left hj] at ha
          have hlt:j<c.size:=by omega
          have hcj:c[j]? = some c[j]:=by simp[hlt]
          refine⟨c[j],hcell j _ ?_ ?_,(hc2 j _ a hcj ha).mono hle,hc3 j _ hcj⟩
          . rw[Nat.add_mul];omega
          . rw[Array.append_assoc,Array.getElem?_append_left hlt];exact hcj
        . rw[List.getElem?_append_right (by omega)] at ha
          have hlt:j-(flatten es).length<d.size:=by
           have:=(List.getElem?_eq_some_iff.1 ha).1;omega
          have hdj:d[j-(flatten es).length]? = some d[j-(flatten es).length]:=by simp[hlt]
          refine⟨_,hcell j _ ?_ ?_,(hd2 _ _ a hdj ha).mono hle,hd3 _ _ hdj⟩
          . rw[Nat.add_mul];omega
          . rw[Array.append_assoc,Array.getElem?_append_right (by omega),Array.getElem?_append_left (by omega),hc1,← hfe];exact hdj
    . have:=hrel σ hr
      rw[List.length_append];exact this
    . intro b' y hy
      have h1:=hle0 b' y hy;have:b'≠r:=fun q=>by rw[q,hr.isNone hfr.1 hfr.2.2] at h1;cases h1
      simp[aa.set,this,h1]
    . cases q:σ0 r with
      | none=>rfl
      | some y=>have:=hle0 r y q;rw[hr.isNone hfr.1 hfr.2.2] at this;cases this
end
end Go.aZ
