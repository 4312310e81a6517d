/- Part 8 of the proof. -/
import Derived.Test.YtibjfmfdjncniaaGreatDoorC7
set_option linter.all false
namespace Go.Pal
open Go.Conc
def okP (pl:List Entry):Code->Bool
  | .seq a b=>okP pl a && okP pl b
  | .block _ c=>okP pl c
  | .scope c=>okP pl c
  | .cond _ a b=>okP pl a && okP pl b
  | .loop c=>okP pl c
  | .rangeFunc _ _ a c=>okP pl a && okP pl c
  | .region id ops true=>match pl.find? fun e=>e.id == id with|some e=>entryOK ops e|none=>true
  | _=>true
def okT (pl:List Entry) (todo:List Item):Bool:=todo.all fun | .code c=>okP pl c|_=>true
theorem okT_exit {pl:List Entry} {id:Nat} {k k':List Item} (h:exitTo id k=some k') (hk:okT pl k=true):okT pl k'=true:=by
  unfold okT at hk ⊢;rw[List.all_eq_true] at hk ⊢;exact fun x hx=>hk x (exitTo_suffix h x hx)
def Resume (P:Program) (m:Mo) (fid n:Nat) (ro:Option Nat) (hold:List Entry) (todo:List Item) (s:St) (K:Exit->St->Prop):Prop:=okT hold todo=true->Go P m fid n ro todo s K
def gval (ops:Array Oper) (n:Nat) (env:Env) (o:Oper):Option Bool:=
  match o.guard with
  | none=>some true
  | some (j,b)=>match (ops[j]?).bind (·.dst) with
    | some d=>if d<n then (match env d with
      | .lit (.bool x)=>some (if b then x else !x)
      | _=>none) else none
    | none=>none
def goK (x:Option Bool) (A B:Prop) (u:Hide A:=.mk) (v:Hide B:=.mk):Prop:=match x with|some b=>boolK b A B u v|none=>False
@[simp] theorem goK_some {b:Bool} {A B:Prop} {u:Hide A} {v:Hide B}:goK (some b) A B u v=boolK b A B:=propext Iff.rfl
theorem goK_guardK {ops:Array Oper} {n:Nat} {env:Env} {o:Oper} {go no go' no':Prop} {u:Hide go} {v:Hide no} (hgo:go->go') (hno:no->no') (h:goK (gval ops n env o) go no u v):guardK ops n env o go' no':=by
  unfold gval at h;unfold guardK;cases hg:o.guard with
  | none=>rw[hg] at h;exact hgo (h.1 rfl)
  | some p=>
    obtain⟨j,b⟩:=p;rw[hg] at h;simp only at h ⊢;cases hd:(ops[j]?).bind (·.dst) with
    | none=>rw[hd] at h;exact h.elim
    | some d=>
      rw[hd] at h;simp only at h ⊢
      by_cases hn:d<n
      . rw [if_pos hn] at h
        refine⟨hn,?_⟩;split at h
        . next x hx=>
          simp only[hx];refine⟨fun e=>?_,fun e=>?_⟩
          . subst e
            cases x
            . exact hgo (h.1 rfl)
            . exact hgo (h.1 rfl)
          . cases x <;> cases b <;> simp at e
            . exact hno (h.2 rfl)
            . exact hno (h.2 rfl)
        . exact h.elim
      . rw[if_neg hn] at h
        exact h.elim
theorem goK_cases {ops:Array Oper} {n:Nat} {env:Env} {o:Oper} {go no:Prop} {u:Hide go} {v:Hide no} (h:goK (gval ops n env o) go no u v) :
    (Wanted ops n env o∧go)∨∃ j b x d oj,o.guard=some (j,b)∧ops[j]? = some oj∧oj.dst=some d∧d<n∧env d = .lit (.bool x)∧x≠b∧no:=
  guardK_cases (goK_guardK id id h)
section
variable {P:Program} {m:Mo} {fid n:Nat} {ro:Option Nat} {D:List ADef} {rc:Rec} {K:Exit->St->Prop} {k:List Item} {ops:Array Oper}
theorem Go.ofOne {Kp:AV->Store->Prop} {i:Nat} {is:List Nat} {env:Env} {σ:Store} (hp:∀ v env σ,Kp v σ->K (.panic v) ⟨env,σ,D,rc⟩)
    (h:RunOps P m ops n Kp [i] env σ (fun env σ=>Go P m fid n ro (.inRegion ops is :: k) ⟨env,σ,D,rc⟩ K)):Go P m fid n ro (.inRegion ops (i :: is) :: k) ⟨env,σ,D,rc⟩ K:=by
  obtain⟨o,ho,hok,h⟩:=h
  rcases h with ⟨hw,h⟩|⟨⟨j,b,x,d,oj,hg,hj,hd,hdn,hx,hxb⟩,h⟩
  . rcases h with ⟨fo,args,tys,h1,h2⟩|⟨h1,h2⟩
    . refine .call ho h1 hw hok (h2.mono fun r σ' hh=>?_)
      cases r with
      | val a=>exact hh
      | panic v=>exact hp _ _ _ hh
    . refine .op ho hw hok h1 ?_
      intro kk O ρ hρ hr;refine swp_mono _ (h2 kk O ρ hρ hr) (fun _ _ _ ⟨v,hv,k2,O2,g,hle,a,σ',x,y,z⟩=>⟨v,hv,k2,O2,g,hle,a,σ',x,y,z⟩) (fun _ _ _ ⟨hle,a,σ',x,y,z⟩=>⟨hle,a,σ',x,y,hp _ _ _ z⟩)
  . exact .unwanted ho hg hj hd hdn hx hxb h
end
section
variable {P:Program} (L:Lay P)
def tval (mu:List Nat) (lt:Bool) (o:Oper) (env:Env) (σ:Store):Option AV:=
  match o.op with
  | .load t p=>if lt then (match L.tt t with|some i=>aload i σ (aeval env p) | none=>none) else pval L mu o env
  | _=>pval L mu o env
def trun (mu:List Nat) (ops:Array Oper) (n:Nat) (lt:Bool) (σ:Store) (K:Env->Prop) (u:Hide K:=.mk):List Nat->Env->Prop
  | [],env=>K env
  | i :: S,env=>match ops[i]? with
    | some o=>(Oper.ok n o && o.dst.isSome)=true∧goK (gval ops n env o) (optK (tval L mu lt o env σ) fun a=>trun mu ops n lt σ K u S (putA env o.dst a)) (trun mu ops n lt σ K u S (putA env o.dst .junk))
    | none=>False
theorem tval_cases {mu:List Nat} {lt:Bool} {o:Oper} {env:Env} {σ:Store} {a:AV} (h:tval L mu lt o env σ=some a):pval L mu o env=some a∨(pval L mu o env=none∧lt=true∧pvalS L o env σ=some a):=by
  unfold tval at h;split at h
  . next t p ho=>
    cases lt
    . simp only[Bool.false_eq_true,if_false] at h;exact .inl h
    . simp only[if_true] at h
      split at h
      . next i hi=>
        have hS:pvalS L o env σ=some a:=by unfold pvalS;simp only[ho,hi];exact h
        cases hp:pval L mu o env with
        | none=>exact .inr ⟨rfl,rfl,hS⟩
        | some a'=>
          left;unfold pval at hp;simp only[ho,hi] at hp;split at hp
          . next i' v off hi' hx=>
            cases hi';rw[hx] at h;simp only[aload] at h;rw[← hp,h]
          . next i' b l hole off hi' hx=>
            cases hi';rw[hx] at h;simp only[aload] at h;rw[← hp,h]
          . cases hp
      . cases h
  . exact .inl h
theorem trun_srun {mu:List Nat} {ops:Array Oper} {n:Nat} {lt:Bool} {σ:Store} {K:Env->Prop} {u:Hide K}:∀ {S:List Nat} {env:Env},trun L mu ops n lt σ K u S env->srun L mu ops n lt σ S env K
  | [],env,h=>h
  | i :: S,env,h=>by
    unfold trun at h;unfold srun;split at h
    . next o ho=>
      simp only[ho];obtain⟨h1,h3⟩:=h;rw[Bool.and_eq_true] at h1;refine⟨h1.1,h1.2,?_⟩
      have main:(optK (tval L mu lt o env σ) fun a=>trun L mu ops n lt σ K u S (putA env o.dst a))->(match pval L mu o env with
        | some a=>srun L mu ops n lt σ S (putA env o.dst a) K
        | none=>lt=true∧(match pvalS L o env σ with
          | some a=>srun L mu ops n lt σ S (putA env o.dst a) K
          | none=>False)):=by
        rintro⟨a,ha,hK⟩
        rcases tval_cases L ha with h|⟨h,h',h''⟩
        . simp only[h];exact trun_srun hK
        . simp only[h,h''];exact⟨h',trun_srun hK⟩
      exact goK_guardK main trun_srun h3
    . exact h.elim
def valOp:Op->Bool
  | .defer _ | .go _ | .send _ _ | .recv _ _ _ | .select _ _=>false
  | .call c=>match c.callee with | .builtin .recover=>false | .builtin .close=>false | .invoke _ _=>false|_=>true
  | _=>true
def opK (m:Mo) (o:Oper) (env:Env) (σ:Store) (R:AV->Store->Prop) (Kp:AV->Store->Prop):Prop:=
  match o.op with
  | .call ⟨.value fo,args,_⟩=>CallV P m (aeval env fo) (args.toList.map (aeval env)) σ fun r σ'=>match r with | .val a=>R a σ' | .panic v=>Kp v σ'
  | _=>OpSem P o env σ R Kp
theorem opK_OpW {m:Mo} {o:Oper} {env:Env} {σ:Store} {R Kp:AV->Store->Prop} (hv:valOp o.op=true) (h:opK (P:=P) m o env σ R Kp):OpW P m o env σ R Kp:=by
  unfold opK at h;split at h
  . next fo args tys ho=>exact .inl ⟨fo,args,tys,ho,h⟩
  . exact .inr ⟨(fun c e=>by rw[e] at hv;cases hv),h⟩
def PendW (P:Program) (m:Mo) (ops:Array Oper) (n:Nat) (Kp:AV->Store->Prop) (p:Plan) (env:Env) (σ:Store) (R:Env->Store->Prop):Prop:=Pend P m ops n Kp p env σ R
def oneW (m:Mo) (mu:List Nat) (ops:Array Oper) (n:Nat) (Kp:AV->Store->Prop) (i:Nat) (p:Plan) (env:Env) (σ:Store) (go:Env->Store->Prop) (R:Env->Store->Prop) (u:Hide go:=.mk):Prop:=
  match ops[i]? with
  | some o=>Oper.ok n o=true∧goK (gval ops n env o) (if wopOK L o=true then outK (wout L mu o env σ) (fun a σ'=>go (putA env o.dst a) σ') Kp else
      if valOp o.op=true then opK (P:=P) m o env σ (fun a σ'=>PendW P m ops n Kp p (putA env o.dst a) σ' R) Kp else StepAt P m ops n Kp i env σ (fun env σ=>PendW P m ops n Kp p env σ R)) (go (putA env o.dst .junk) σ)
  | none=>False
def drun (m:Mo) (mu:List Nat) (ops:Array Oper) (n:Nat) (Kp:AV->Store->Prop):Plan->Env->Store->(Env->Store->Prop)->Prop
  | .done,env,σ,R=>R env σ
  | .take S lt p,env,σ,R=>trun L mu ops n lt σ (fun env1=>drun m mu ops n Kp p env1 σ R) .mk S env
  | .one i p,env,σ,R=>oneW L m mu ops n Kp i p env σ (fun env σ=>drun m mu ops n Kp p env σ R) R
  | .both i p q,env,σ,R=>oneW L m mu ops n Kp i p env σ (fun env σ=>drun m mu ops n Kp p env σ R) R∧drun m mu ops n Kp q env σ R
theorem oneW_step {m:Mo} {mu:List Nat} {ops:Array Oper} {n:Nat} {Kp:AV->Store->Prop} {p:Plan} {R:Env->Store->Prop} (ih:∀ {env σ},drun L m mu ops n Kp p env σ R->Pend P m ops n Kp p env σ R) {i:Nat} {env:Env} {σ:Store}
    (h:oneW L m mu ops n Kp i p env σ (fun env σ=>drun L m mu ops n Kp p env σ R) R):StepAt P m ops n Kp i env σ (fun env σ=>Pend P m ops n Kp p env σ R):=by
  unfold oneW at h;split at h
  . next o ho=>
    obtain⟨hok,h⟩:=h
    rcases goK_cases h with ⟨hw,h⟩|⟨j,b,x,d',oj,hg,hj,hjd,hdn,hx,hxb,h⟩
    . split at h
      . next hwo=>
        refine⟨o,ho,hok,.inl ⟨hw,.inr ⟨fun c e=>?_,(wout_sound L hwo h).mono fun a σ'=>ih⟩⟩⟩
        unfold wopOK opwOK at hwo;rw[e] at hwo;cases hwo
      . split at h
        . next hv=>exact⟨o,ho,hok,.inl ⟨hw,opK_OpW hv h⟩⟩
        . exact h
    . exact⟨o,ho,hok,.inr ⟨⟨j,b,x,d',oj,hg,hj,hjd,hdn,hx,hxb⟩,ih h⟩⟩
  . exact h.elim
theorem Pend.drun {m:Mo} (mu:List Nat) {ops:Array Oper} {n:Nat} {Kp:AV->Store->Prop} {R:Env->Store->Prop}:∀ {p:Plan} {env:Env} {σ:Store},drun L m mu ops n Kp p env σ R->Pend P m ops n Kp p env σ R
  | .done,_,_,h => .done h
  | .take S lt p,_,_,h=>Pend.take L mu (srun.mono L (fun env1 h=>Pend.drun mu h) (trun_srun L h))
  | .one i p,_,_,h=>Pend.one (oneW_step L (Pend.drun mu) h)
  | .both i p q,_,_,h=>Pend.both (oneW_step L (Pend.drun mu) h.1) (Pend.drun mu h.2)
theorem PendW.go {m:Mo} (mu:List Nat) {ops:Array Oper} {n:Nat} {Kp:AV->Store->Prop} {R:Env->Store->Prop} {p:Plan} {env:Env} {σ:Store} (h:drun L m mu ops n Kp p env σ R):PendW P m ops n Kp p env σ R:=Pend.drun L mu h
def wrun (m:Mo) (fid n:Nat) (ro:Option Nat) (mu:List Nat) (hold:List Entry):Nat->List Item->St->(Exit->St->Prop)->Prop
  | 0,todo,s,K=>Resume P m fid n ro hold todo s K
  | f + 1,todo,s,K=>match todo with
    | []=>K (.leave none) s
    | .code .ret :: _=>K (.leave (some .ret)) s
    | .code .skip :: k=>wrun m fid n ro mu hold f k s K
    | .code (.label _) :: k=>wrun m fid n ro mu hold f k s K
    | .inBlock _ :: k=>wrun m fid n ro mu hold f k s K
    | .inScope _ :: k=>wrun m fid n ro mu hold f k s K
    | .code (.seq a b) :: k=>wrun m fid n ro mu hold f (.code a :: .code b :: k) s K
    | .code (.block id c) :: k=>wrun m fid n ro mu hold f (.code c :: .inBlock id :: k) s K
    | .code (.scope c) :: k=>wrun m fid n ro mu hold f (.code c :: .inScope c :: k) s K
    | .code (.exit id) :: k=>match exitTo id k with
      | some k'=>wrun m fid n ro mu hold f k' s K
      | none=>K (.leave (some (.exit id))) s
    | .code (.cond c a b) :: k=>Operand.ok n c=true∧(match aeval s.env c with
      | .lit (.bool x)=>boolK x (wrun m fid n ro mu hold f (.code a :: k) s K) (wrun m fid n ro mu hold f (.code b :: k) s K)
      | _=>False)
    | .code (.region _ ops false) :: k=>wrun m fid n ro mu hold f (.inRegion ops (List.range ops.size) :: k) s K
    | .code (.region id ops true) :: k=>match hold.find? fun e=>e.id == id with
      | some ⟨_,p⟩=>drun L m mu ops n (fun v σ => ∀ env,K (.panic v) { s with env,σ }) p s.env s.σ (fun env σ=>Resume P m fid n ro hold k { s with env,σ } K)
      | none=>Resume P m fid n ro hold (.code (.region id ops true) :: k) s K
    | .inRegion _ [] :: k=>wrun m fid n ro mu hold f k s K
    | .inRegion ops (i :: is) :: k=>match ops[i]? with
      | some o=>Oper.ok n o=true ∧
        goK (gval ops n s.env o) (if wopOK L o=true then outK (wout L mu o s.env s.σ) (fun a σ'=>wrun m fid n ro mu hold f (.inRegion ops is :: k) { s with env:=putA s.env o.dst a,σ:=σ' } K) (fun a σ'=>K (.panic a) { s with σ:=σ' })
          else if valOp o.op=true then opK (P:=P) m o s.env s.σ (fun a σ'=>Resume P m fid n ro hold (.inRegion ops is :: k) { s with env:=putA s.env o.dst a,σ:=σ' } K) (fun a σ' => ∀ env,K (.panic a) { s with env,σ:=σ' })
          else Resume P m fid n ro hold (.inRegion ops (i :: is) :: k) s K) (wrun m fid n ro mu hold f (.inRegion ops is :: k) { s with env:=putA s.env o.dst .junk } K)
      | none=>Resume P m fid n ro hold (.inRegion ops (i :: is) :: k) s K
    | todo=>Resume P m fid n ro hold todo s K
theorem Go.wrun {m:Mo} {fid n:Nat} {ro:Option Nat} (mu:List Nat) (hold:List Entry):∀ (f:Nat) {todo:List Item} {s:St} {K:Exit->St->Prop},okT hold todo=true->wrun L m fid n ro mu hold f todo s K->Go P m fid n ro todo s K
  | 0,_,_,_,hpl,h=>h hpl
  | f + 1,todo,s,K,hpl,h=>by
    unfold Pal.wrun at h;split at h
    . exact .leave (.inl ⟨rfl,rfl⟩) h
    . exact .leave (.inr (.inl ⟨_,rfl,rfl⟩)) h
    . exact .skip (Go.wrun mu hold f (by simpa[okT,okP] using hpl) h)
    . exact .label (Go.wrun mu hold f (by simpa[okT,okP] using hpl) h)
    . exact .inBlock (Go.wrun mu hold f (by simpa[okT,okP] using hpl) h)
    . exact .inScope (Go.wrun mu hold f (by simpa[okT,okP] using hpl) h)
    . exact .seq (Go.wrun mu hold f (by simpa[okT,okP,and_assoc] using hpl) h)
    . exact .block (Go.wrun mu hold f (by simpa[okT,okP] using hpl) h)
    . exact .scope (Go.wrun mu hold f (by simpa[okT,okP] using hpl) h)
    . split at h
      . next k' hk=>exact .exit hk (Go.wrun mu hold f (okT_exit hk (by simp only[okT,List.all_cons,Bool.and_eq_true] at hpl ⊢;exact hpl.2)) h)
      . next hk=>exact .leave (.inr (.inr ⟨_,_,rfl,hk,rfl⟩)) h
    . next c a b k=>
      obtain⟨h1,h2⟩:=h;split at h2
      . next x hx=>
        refine .cond hx h1 ?_;cases x
        . exact Go.wrun mu hold f (by simp only[okT,List.all_cons,Bool.and_eq_true,okP] at hpl ⊢;exact⟨hpl.1.2,hpl.2⟩) (h2.2 rfl)
        . exact Go.wrun mu hold f (by simp only[okT,List.all_cons,Bool.and_eq_true,okP] at hpl ⊢;exact⟨hpl.1.1,hpl.2⟩) (h2.1 rfl)
      . exact h2.elim
    . exact .region (Go.wrun mu hold f (by simpa[okT,okP] using hpl) h)
    . next id ops k=>
      split at h
      . next id' p he=>
        have hc:entryOK ops ⟨id',p⟩=true:=by
          simp only[okT,List.all_cons,okP,he,Bool.and_eq_true] at hpl;exact hpl.1
        simp only[entryOK,Bool.and_eq_true] at hc;obtain⟨env,σ,D,rc⟩:=s;refine Go.draw L.mixed hc.1 fun l h1 h2 h3=>?_
        exact RunOps.mono (fun env σ h=>h (by simp only[okT,List.all_cons,Bool.and_eq_true] at hpl ⊢;exact hpl.2)) _ _ _ (Pend.drun L mu h _ _ _ hc.2 l h1 h2 h3 (fun _ _ _ h=>by cases h))
      . exact h hpl
    . exact .regionEnd (Go.wrun mu hold f (by simpa[okT,okP] using hpl) h)
    . next ops i is k=>
      split at h
      . next o ho=>
        obtain⟨hok,h⟩:=h;have hpl':okT hold (.inRegion ops is :: k)=true:=by simpa[okT,okP] using hpl
        rcases goK_cases h with ⟨hw,hg⟩|⟨j,b,x,d,oj,hg,hj,hd,hdn,hx,hxb,h⟩
        . split at hg
          . next hwo=>
            refine .op ho hw hok (fun c e=>?_) ?_
            . unfold wopOK opwOK at hwo;rw[e] at hwo;cases hwo
            . exact (wout_sound L hwo hg).mono fun a σ' hh=>Go.wrun mu hold f hpl' hh
          . split at hg
            . next hv=>
              have hrun:RunOps P m ops n (fun a σ' => ∀ env,K (.panic a) { s with env,σ:=σ' }) [i] s.env s.σ (fun env σ'=>Go P m fid n ro (.inRegion ops is :: k) { s with env,σ:=σ' } K):=
                ⟨o,ho,hok,.inl ⟨hw,(opK_OpW hv hg).mono fun a σ' hh=>hh hpl'⟩⟩
              exact Go.ofOne (fun v env σ h=>h env) hrun
            . exact hg hpl
        . exact .unwanted ho hg hj hd hdn hx hxb (Go.wrun mu hold f hpl' h)
      . exact h hpl
    . exact h hpl
end
end Go.Pal
