/- Part 27 of the proof. -/
import Derived.Test.YtgpeapadphphpaaGreatDoorC26
set_option linter.all false
namespace Go.Pal
open Go.Conc
section
variable {P:Program} (L:Lay P) {o:Oper} {env:Env} {σ:Store} {K:AV->Store->Prop} {Kp:AV->Store->Prop}
theorem os_makeSlice {t e:Nat} {x y:Operand} {it ie:TI} {n:Int} {za:AV} (ho:o.op = .makeSlice t x y) (ht:L.tt t=some it) (hk:it.kind = .slice e) (he:L.tt e=some ie) (hs:ie.size=1) (hb:ie.bytes≤1024)
    (hz:(zav ie.zero).cells=[za]) (hzf:za.flat=true) (hx:aeval env x = .lit (.int .i64 n)) (hy:aeval env y = .lit (.int .i64 n)) (hn:0≤n∧n≤1000000)
    (hK:∀ b,σ b=none->K (.msl b 0 n.toNat n.toNat) (σ.set b (.cells (List.replicate n.toNat za)))):OpSem P o env σ K Kp:=
  OpSem.val (s:=fun ρ=>Instr.makeSlice t (ρ x) (ρ y)) (fun ρ=>by simp [execOp,ho]) fun k O ρ hρ hr=>by
    have h1:=hρ x (by simp [ho,Op.operands])
    have h2:=hρ y (by simp [ho,Op.operands])
    rw [hx] at h1;rw [hy] at h2;have e1:=asInt_lit h1;have e2:=asInt_lit h2
    have hw:IntKind.i64.wrap n=n:=by
      simp [IntKind.wrap,IntKind.signed,IntKind.bits];omega
    have hzs:ie.zero.cells.size=1:=by obtain ⟨_,_,_,_,_,_,h⟩:=L.facts he;rw [h];exact hs
    have hzr:=zcells (k:=k) (z:=ie.zero) (by rw [hz];simp [hzf])
    rw [hz] at hzr;rw [e1,e2];unfold Instr.makeSlice;refine swp_bind' (swp_underlying L ht fun d _ hd=>?_)
    rw [kind_slice hd hk];dsimp only;refine swp_bind' (s:=asInt (.int .i64 n)) (swp_pure ?_);refine swp_bind' (s:=asInt (.int .i64 n)) (swp_pure ?_);refine swp_bind' (swp_typeInfo L he fun info _ _ hib _=>?_)
    dsimp only;rw [hw]
    have hno:((decide (n<0) || decide ((info.bytes:Int)*n > 2 ^ 48)) || decide (n<0) || decide (n > n))=false:=by
      have q:(info.bytes:Int)*n≤1024*1000000:=by
        rw [hib];exact Int.mul_le_mul (by omega) hn.2 hn.1 (by omega)
      have q2 : ¬ ((info.bytes:Int)*n > 2 ^ 48):=by omega
      simp [q2];omega
    simp only [hno,Bool.false_eq_true,if_false];refine swp_bind' (swp_askRoom ?_);refine swp_bind' (swp_sizeOf L he ?_);rw [hs]
    have hfin:∀ zero:Array Value,(n.toNat≠0->zero=ie.zero.cells)->swp P (do let a ← newRow e ((Array.range (n.toNat*1)).map (zero[· % zero.size]!));pure (Value.slice (some a) n.toNat n.toNat)) k O (fun v k' O'=>Turns k' O' fun k2 O2=>k.Le k2∧∃ a σ',V k2 v a∧Rel k2 O2 σ'∧K a σ') (fun v k' O'=>k.Le k'∧∃ a σ',V k' v a∧Rel k' O' σ'∧Kp a σ'):=fun zero hzero=>by
      have hcell:∀ (i:Nat) v,((Array.range (n.toNat*1)).map (zero[· % zero.size]!))[i]? = some v->i<n.toNat∧ie.zero.cells[0]? = some v:=fun i v hv=>by
        have hi:=(Array.getElem?_eq_some_iff.1 hv).1;obtain ⟨hlt,heq⟩:=Array.getElem?_eq_some_iff.1 hv;simp at hi heq;rw [hzero (by omega),hzs] at heq
        refine ⟨by omega,?_⟩
        subst heq;simp [Nat.mod_one,hzs]
      refine swp_bind' (swp_newRow_own (l:=List.replicate n.toNat za) hr (by simp) (fun i v a hv ha=>?_) (fun i v hv=>?_) fun r k' O' hn' hle hrel=>swp_pure (.here ⟨hle,.msl r 0 n.toNat n.toNat,_,.msl ..,hrel,hK r hn'⟩))
      . obtain ⟨h1,h2⟩:=hcell i v hv
        have:a=za:=(List.mem_replicate.1 (List.mem_of_getElem? ha)).2;subst this;exact hzr.2.1 0 v a h2 rfl
      . exact hzr.2.2 0 v (hcell i v hv).2
    by_cases h0:n.toNat*1=0
    . rw [if_pos h0]
      refine swp_bind' (swp_pure ?_);exact hfin _ (fun h=>by omega)
    . rw [if_neg h0]
      refine swp_bind' (swp_zeroValue L he (swp_bind' (swp_pure ?_)));exact hfin _ (fun _=>rfl)
end
theorem W_rows {es es':List AV} {sp:Spare} (h1:es.length=es'.length) (h2:∀ e∈es,e.cells=[e]) (h3:∀ e∈es',e.cells=[e]) (hw:∀ (i:Nat) a a',es[i]? = some a->es'[i]? = some a'->a.W a'):(AV.sl 1 es sp).W (.sl 1 es' .any):=fun k v hv=>by
  have f1:=flatten_self h2;have f2:=flatten_self h3
  rcases hv.slCases' with ⟨rfl,rfl,rfl⟩|⟨b',off,cap,N,E',c,rfl,q1,q2,q3,q4,q5,q6,q7⟩
  . have:es'=[]:=List.length_eq_zero_iff.1 h1.symm
    subst this;exact .slnil 1
  . rw [f1] at q5 q6
    rw [h1];refine .sl b' off cap 1 N E' es' .any c (by omega) q2 q3 (fun e he=>by rw [h3 e he];rfl) (fun j hj=>q5 j (by rw [f2] at hj;omega)) (fun j a ha=>?_) trivial
    rw [f2] at ha;have hj:j<es.length:=by have:=(List.getElem?_eq_some_iff.1 ha).1;omega
    exact hw j es[j] a (by simp [hj]) ha k _ (q6 j _ (by simp [hj]))
section
variable {P:Program} {m:Mo} {fid n:Nat} {ro:Option Nat} {hold:List Entry} {K:Exit->St->Prop} {todo:List Item}
theorem Resume.thawAt {env:Env} {σ0 σ:Store} {D:List ADef} {rc:Rec} {kk:Nat} {es:List AV} (t:Nat) (h:OwnTok σ0 σ (env t) kk es) (hR:Resume P m fid n ro hold todo ⟨env.upd t (.sl kk es .any),σ0,D,rc⟩ K):Resume P m fid n ro hold todo ⟨env,σ,D,rc⟩ K:=by
  rcases h.2 with ⟨rfl,e|e⟩|⟨b,cap,rest,e,h0,h1,h2,h3,h4⟩
  . exact Resume.wat t (a':=.sl kk [] .any) (by rw [e];exact W_nil kk) (Resume.weaken hR h.1)
  . exact Resume.wat t (a':=.sl kk [] .any) (by rw [e];exact W_any kk [] .exact) (Resume.weaken hR h.1)
  . have hf:=flatten_length h2
    refine Resume.freeze b _ h3 (fun u=>Fz.upd (t:=t) (a':=.sl kk es .any) (by
      rw [e];refine .sl 0 cap kk es .any h1 ?_ h2 (fun j x hx=>?_) (.inl rfl)
      . have:cap*kk=es.length*kk+(cap-es.length)*kk:=by rw [← Nat.add_mul];congr 1;omega
        simp only [List.length_append,hf,h4];omega
      . rw [Nat.zero_add,List.getElem?_append_left (List.getElem?_eq_some_iff.1 hx).1];exact hx) u) (SFz.del b _ σ) (Resume.weaken hR ?_)
    exact fun c y hc=>by
      have:c≠b:=fun q=>by rw [q,h0] at hc;cases hc
      simp only [Store.del,this,if_false];exact h.1 c y hc
theorem Resume.thawRow {env:Env} {σ:Store} {D:List ADef} {rc:Rec} {b d i:Nat} {l cs:List AV} {es:List AV} {sp:Spare} {at_:Nat} (hd:d≠b) (hb:σ b=some (.cells l)) (hl:∀ e∈l,e.cells=[e]) (hc:σ d=some (.cells cs)) (hat:cs[at_]? = some (.sl 1 es sp)) (hes:∀ e∈es,e.cells=[e]) (hi:es[i]? = some (.msl b 0 l.length l.length))
    (hR:Resume P m fid n ro hold todo ⟨env,(σ.del b).set d (.cells (cs.set at_ (.sl 1 (es.set i (.sl 1 l .any)) sp))),D,rc⟩ K):Resume P m fid n ro hold todo ⟨env,σ,D,rc⟩ K:=by
  have hfl:=flatten_self hl;refine Resume.freeze b l hb (fun u => .refl _) (fun y x hy=>?_) hR
  by_cases e:y=d
  . subst e
    simp [Store.set] at hy;subst hy;refine ⟨hd,.inr ⟨cs,_,hc,rfl,by simp,fun j a a' h1 h2=>?_⟩⟩
    by_cases ej:j=at_
    . subst ej
      rw [hat] at h1;cases h1;have hlt:=(List.getElem?_eq_some_iff.1 hat).1;rw [List.getElem?_set_self hlt] at h2;cases h2;refine .rows es _ sp (by simp) hes (fun x hx=>?_) (fun p a a' g1 g2=>?_)
      . rcases List.mem_or_eq_of_mem_set hx with hx|rfl
        . exact hes x hx
        . rfl
      . by_cases ep:p=i
        . subst ep
          rw [hi] at g1;cases g1;have hlt:=(List.getElem?_eq_some_iff.1 hi).1;rw [List.getElem?_set_self hlt] at g2;cases g2;exact .sl 0 l.length 1 l .any (Nat.le_refl _) (by omega) (fun e he=>by rw [hl e he];rfl) (fun j a h=>by rw [hfl] at h;simpa using h) (.inl rfl)
        . rw [List.getElem?_set_ne (Ne.symm ep)] at g2
          rw [g1] at g2;cases g2;exact .refl _
    . rw [List.getElem?_set_ne (Ne.symm ej)] at h2
      rw [h1] at h2;cases h2;exact .refl _
  . rw [Store.set_ne _ _ e] at hy
    unfold Store.del at hy;split at hy
    . cases hy
    . next hne=>exact ⟨hne,.inl hy⟩
end
end Go.Pal
