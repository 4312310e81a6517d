/- Part 9 of the proof. -/
import Derived.KernelRfl
import Derived.Test.YtibjfmfdjncniaaGreatDoorC8
set_option linter.all false
namespace Go.Pal
open Go.Conc
section
variable {P:Program} (L:Lay P) {m:Mo}
theorem FnOK.start {f:FuncId} {fn:Func} {args:List AV} {σ:Store} {KF:Res->Store->Prop} {body:Code} (mu:List Nat) (hold:List Entry) (k:Nat) (hf:P.funcs[f]? = some fn) (hb:fn.body=some body) (hk:args.length=k) (hc:fnCheck fn k=true) (hpl:okP hold body=true)
    (h:wrun L m f fn.ntmps none mu hold 1000 [.code body] ⟨argsEnv args,σ,[],.no⟩ (FnK L m fn.results.toList (Thaw KF))):FnOK P m f args σ KF:=by
  simp only[fnCheck,Bool.and_eq_true] at hc;refine FnOK.thaw (FnOK.intro L hf hb (by rw[hk];exact Nat.le_of_ble_eq_true hc.1) ?_ (Go.wrun L mu hold 1000 (by simpa[okT] using hpl) h))
  have:=hc.2;simpa using this
variable {fid n:Nat} {ro:Option Nat} {hold:List Entry} {s:St} {K:Exit->St->Prop} {k:List Item}
theorem Resume.run (mu:List Nat) {todo:List Item} (h:wrun L m fid n ro mu hold 1000 todo s K):Resume P m fid n ro hold todo s K:=fun hpl=>Go.wrun L mu hold 1000 hpl h
theorem callFn {f:FuncId} {fn:Func} {args:List AV} {σ:Store} {KF:Res->Store->Prop} (hf:P.funcs[f]? = some fn) (hb:fn.body.isSome=true) (hnm:(fn.name ==  "runtime.NumGoroutine")=false) (h:FnOK P m f args σ KF) :
    CallV P m (.fn (.func f) [] []) args σ KF:=.func hf hb hnm (by simpa using h)
theorem callFnC {f:FuncId} {fn:Func} {first cap args args':List AV} {σ:Store} {KF:Res->Store->Prop} (hf:P.funcs[f]? = some fn) (hb:fn.body.isSome=true) (hnm:(fn.name ==  "runtime.NumGoroutine")=false) (he:first ++ args ++ cap=args') (h:FnOK P m f args' σ KF) :
    CallV P m (.fn (.func f) first cap) args σ KF:=.func hf hb hnm (he ▸ h)
theorem Resume.loop {c:Code} (N:Nat) (I:Nat->St->Prop) (h0:I 0 s)
    (hr:∀ c0 i s,i≤N->I i s->(∀ s',i<N->I (i+1) s'->Resume P m fid n ro hold (.inLoop c0 :: k) s' K)->Resume P m fid n ro hold (.code c :: .inLoop c0 :: k) s K):Resume P m fid n ro hold (.code (.loop c) :: k) s K:=fun hpl=>by
  have hpl':∀ c0,okT hold (.code c :: .inLoop c0 :: k)=true:=fun c0=>by simpa[okT,okP] using hpl
  refine Go.loop (fun a s => ∃ i,a=N-i∧i≤N∧I i s) N ⟨0,by simp,by omega,h0⟩ ?_
  rintro c0 a s ⟨i,rfl,hi,hI⟩ ih
  exact hr c0 i s hi hI (fun s' hlt hI' _=>ih (N-(i+1)) s' (by omega) ⟨i+1,rfl,by omega,hI'⟩) (hpl' c0)
def okJump:Option Code->Bool
  | none=>true
  | some .ret=>true
  | some (.exit _)=>true
  | _=>false
theorem Resume.rangeFunc {f:Operand} {params:Array Tmp} {assign body:Code} (hf:Operand.ok n f=true)
    (h:okT hold [.code assign,.code body]=true->∀ r l,s.σ r=none->s.σ l=none->r≠l->CallV P m (aeval s.env f) [.fn (.yield l) [] []] ((s.σ.set r (.raw (.deferred (some [])))).set l (.loop ⟨.ready,none,fid,n,s.env,params,assign,body,r⟩))
      (fun res σ'=>match res with
        | .val _ => ∃ a,σ' l=some (.loop a)∧a.state ≠ .busy∧okJump a.pending=true∧Resume P m fid n none hold ((a.pending.map Item.code).toList ++ k) { s with σ:=σ'.del l,D:=.mark r :: s.D } K
        | .panic v=>K (.panic v) { s with σ:=σ',D:=.mark r :: s.D })):Resume P m fid n none hold (.code (.rangeFunc f params assign body) :: k) s K:=fun hpl=>by
  have h1:okT hold [.code assign,.code body]=true:=by
    simp only[okT,List.all_cons,okP,Bool.and_eq_true] at hpl ⊢;exact⟨hpl.1.1,hpl.1.2,rfl⟩
  refine Go.rangeFunc hf fun r l a b c=>(h h1 r l a b c).mono fun res σ' hr=>?_
  cases res with
  | panic v=>exact hr
  | val v=>
    obtain⟨al,e1,e2,e3,e4⟩:=hr;refine⟨al,e1,e2,e4 ?_⟩;simp only[okT,List.all_cons,Bool.and_eq_true,List.all_append] at hpl ⊢;refine⟨?_,hpl.2⟩;unfold okJump at e3;split at e3 <;> rename_i hp <;> simp_all [okP]
theorem CallV.yieldW {l:Nat} {args:List AV} {σ:Store} {KF:Res->Store->Prop} {a:ALoop} {fn:Func} (hok:okT hold [.code a.assign,.code a.body]=true) (hf:P.funcs[a.fn]? = some fn) (hl:σ l=some (.loop a)) (hn:args.length=a.params.size)
    (h:Resume P m a.fn a.n (some l) hold [.code a.assign,.beginRound,.code a.body] ⟨updAll a.env a.params.toList args,σ,[],.no⟩ (RoundK l KF)):CallV P m (.fn (.yield l) [] []) args σ KF:=
  .yield hf hl hn (h (by simp only[okT,List.all_cons,Bool.and_eq_true] at hok ⊢;exact⟨hok.1,trivial,hok.2⟩))
theorem Resume.beginRound {l:Nat} {a:ALoop} (hl:s.σ l=some (.loop a)) (ha:a.state = .ready) (h:Resume P m fid n (some l) hold k { s with σ:=s.σ.set l (.loop { a with state:=.busy }) } K):Resume P m fid n (some l) hold (.beginRound :: k) s K:=fun hpl=>
  .beginRound hl ha (h (by simpa[okT,okP] using hpl))
theorem Resume.freeze {todo:List Item} {env env':Env} {σ σ':Store} {D:List ADef} {rc:Rec} (b:Nat) (l:List AV) (hb:σ b=some (.cells l)) (henv:∀ t,Fz b l (env t) (env' t)) (hs:SFz b l σ σ')
    (h:Resume P m fid n ro hold todo ⟨env',σ',D,rc⟩ K):Resume P m fid n ro hold todo ⟨env,σ,D,rc⟩ K:=fun hpl=>Go.freeze b l hb henv hs (h hpl)
end
theorem Store.le_refl (σ:Store):σ.Le σ:=fun _ _ h=>h
theorem Store.le_trans {a b c:Store} (h:a.Le b) (h':b.Le c):a.Le c:=fun x y e=>h' x y (h x y e)
theorem Store.le_set {σ0 σ:Store} {b:Nat} {x:AObj} (h:σ0.Le σ) (hb:σ b=none):σ0.Le (σ.set b x):=fun c y hy=>by
  by_cases e:c=b
  . subst e;have:=h _ _ hy;rw[hb] at this;cases this
  . simp only[Store.set,e,if_false];exact h _ _ hy
theorem Store.le_upd {σ0 σ:Store} {b:Nat} {x:AObj} (h:σ0.Le σ) (hb:σ0 b=none):σ0.Le (σ.set b x):=fun c y hy=>by
  by_cases e:c=b
  . subst e;rw[hb] at hy;cases hy
  . simp only[Store.set,e,if_false];exact h _ _ hy
theorem Store.le_del {σ0 σ:Store} {b:Nat} (h:σ0.Le σ) (hb:σ0 b=none):σ0.Le (σ.del b):=fun c y hy=>by
  by_cases e:c=b
  . subst e;rw[hb] at hy;cases hy
  . simp only[Store.del,e,if_false];exact h _ _ hy
theorem Store.set_none {σ:Store} {b c:Nat} {x:AObj} (h:(σ.set b x) c=none):c≠b∧b≠c∧σ c=none:=by
  by_cases e:c=b
  . subst e;simp[Store.set] at h
  . simp only[Store.set,e,if_false] at h
    exact⟨e,fun e'=>e e'.symm,h⟩
@[simp] theorem Store.set_same (σ:Store) (b:Nat) (x:AObj):(σ.set b x) b=some x:=by simp[Store.set]
theorem Store.set_ne (σ:Store) {b c:Nat} (x:AObj) (h:c≠b):(σ.set b x) c=σ c:=by simp[Store.set,h]
@[simp] theorem Store.set_set (σ:Store) (b:Nat) (x y:AObj):(σ.set b x).set b y=σ.set b y:=by funext c;by_cases e:c=b <;> simp[Store.set,e]
section
variable {P:Program} (L:Lay P) (m:Mo) (fid n f:Nat) (ro:Option Nat) (mu:List Nat) (hold:List Entry)
def stepW (ops:Array Oper) (is:List Nat) (k:List Item) (dst:Option Tmp) (s:St) (K:Exit->St->Prop) (x:Out):Prop:=
  outK x (fun a σ'=>wrun L m fid n ro mu hold f (.inRegion ops is :: k) { s with env:=putA s.env dst a,σ:=σ' } K) (fun a σ'=>K (.panic a) { s with σ:=σ' })
def optW (ops:Array Oper) (is:List Nat) (k:List Item) (dst:Option Tmp) (s:St) (K:Exit->St->Prop) (σ:Store) (x:Option AV):Prop:=stepW L m fid n f ro mu hold ops is k dst s K (.opt x σ)
def newW (ops:Array Oper) (is:List Nat) (k:List Item) (dst:Option Tmp) (s:St) (K:Exit->St->Prop) (σ:Store) (c:List AV):Prop:=stepW L m fid n f ro mu hold ops is k dst s K (.new σ c)
def goW (ops:Array Oper) (i:Nat) (is:List Nat) (k:List Item) (o:Oper) (s:St) (K:Exit->St->Prop) (x:Option Bool):Prop:=
  goK x (if wopOK L o=true then outK (wout L mu o s.env s.σ) (fun a σ'=>wrun L m fid n ro mu hold f (.inRegion ops is :: k) { s with env:=putA s.env o.dst a,σ:=σ' } K) (fun a σ'=>K (.panic a) { s with σ:=σ' })
          else if valOp o.op=true then opK (P:=P) m o s.env s.σ (fun a σ'=>Resume P m fid n ro hold (.inRegion ops is :: k) { s with env:=putA s.env o.dst a,σ:=σ' } K) (fun a σ' => ∀ env,K (.panic a) { s with env,σ:=σ' })
          else Resume P m fid n ro hold (.inRegion ops (i :: is) :: k) s K) (wrun L m fid n ro mu hold f (.inRegion ops is :: k) { s with env:=putA s.env o.dst .junk } K)
def condW (a b:Code) (k:List Item) (s:St) (K:Exit->St->Prop) (x:Bool):Prop:=boolK x (wrun L m fid n ro mu hold f (.code a :: k) s K) (wrun L m fid n ro mu hold f (.code b :: k) s K)
def resR (P:Program) (m:Mo) (fid n:Nat) (ro:Option Nat) (hold:List Entry) (k:List Item) (s:St) (K:Exit->St->Prop):Env->Store->Prop:=fun env σ=>Resume P m fid n ro hold k { s with env,σ } K
def panR (s:St) (K:Exit->St->Prop):AV->Store->Prop:=fun v σ => ∀ env,K (.panic v) { s with env,σ }
variable {L m fid n f ro mu hold} {s:St} {K:Exit->St->Prop} {k:List Item} {ops:Array Oper} {i:Nat} {is:List Nat} {dst:Option Tmp} {σ:Store}
@[simp] theorem resR_app {env:Env}:resR P m fid n ro hold k s K env σ=Resume P m fid n ro hold k { s with env,σ } K:=propext Iff.rfl
@[simp] theorem panR_app {v:AV}:panR s K v σ = ∀ env,K (.panic v) { s with env,σ }:=propext Iff.rfl
@[simp] theorem stepW_ok {a:AV}:stepW L m fid n f ro mu hold ops is k dst s K (.ok a σ)=wrun L m fid n ro mu hold f (.inRegion ops is :: k) { s with env:=putA s.env dst a,σ:=σ } K:=propext Iff.rfl
@[simp] theorem stepW_need {p:Prop} {x:Out}:stepW L m fid n f ro mu hold ops is k dst s K (.need p x)=(p∧stepW L m fid n f ro mu hold ops is k dst s K x):=propext Iff.rfl
@[simp] theorem stepW_new {c:List AV}:stepW L m fid n f ro mu hold ops is k dst s K (.new σ c)=newW L m fid n f ro mu hold ops is k dst s K σ c:=propext Iff.rfl
@[simp] theorem stepW_opt {x:Option AV}:stepW L m fid n f ro mu hold ops is k dst s K (.opt x σ)=optW L m fid n f ro mu hold ops is k dst s K σ x:=propext Iff.rfl
@[simp] theorem optW_some {a:AV}:optW L m fid n f ro mu hold ops is k dst s K σ (some a)=wrun L m fid n ro mu hold f (.inRegion ops is :: k) { s with env:=putA s.env dst a,σ:=σ } K:=propext Iff.rfl
theorem newW.intro {c:List AV} (h:∀ b,σ b=none->wrun L m fid n ro mu hold f (.inRegion ops is :: k) { s with env:=putA s.env dst (.ref b 0),σ:=σ.set b (.cells c) } K):newW L m fid n f ro mu hold ops is k dst s K σ c:=h
@[simp] theorem goW_true {o:Oper}:goW L m fid n f ro mu hold ops i is k o s K (some true)=(if wopOK L o=true then stepW L m fid n f ro mu hold ops is k o.dst s K (wout L mu o s.env s.σ)
          else if valOp o.op=true then opK (P:=P) m o s.env s.σ (fun a σ'=>Resume P m fid n ro hold (.inRegion ops is :: k) { s with env:=putA s.env o.dst a,σ:=σ' } K) (fun a σ' => ∀ env,K (.panic a) { s with env,σ:=σ' })
          else Resume P m fid n ro hold (.inRegion ops (i :: is) :: k) s K):=by unfold goW;rw[goK_some,boolK_true];rfl
@[simp] theorem goW_false {o:Oper}:goW L m fid n f ro mu hold ops i is k o s K (some false)=wrun L m fid n ro mu hold f (.inRegion ops is :: k) { s with env:=putA s.env o.dst .junk } K:=by unfold goW;rw[goK_some,boolK_false]
theorem goW.intro {o:Oper} {x:Bool} (h1:x=true->goW L m fid n f ro mu hold ops i is k o s K (some true)) (h2:x=false->goW L m fid n f ro mu hold ops i is k o s K (some false)):goW L m fid n f ro mu hold ops i is k o s K (some x):=by cases x with|true=>exact h1 rfl|false=>exact h2 rfl
@[simp] theorem condW_true {a b:Code}:condW L m fid n f ro mu hold a b k s K true=wrun L m fid n ro mu hold f (.code a :: k) s K:=by unfold condW;rw[boolK_true]
@[simp] theorem condW_false {a b:Code}:condW L m fid n f ro mu hold a b k s K false=wrun L m fid n ro mu hold f (.code b :: k) s K:=by unfold condW;rw[boolK_false]
@[simp] theorem condW_not {a b:Code} {x:Bool}:condW L m fid n f ro mu hold a b k s K (!x)=condW L m fid n f ro mu hold b a k s K x:=by cases x <;> simp
theorem condW.intro {a b:Code} {x:Bool} (h1:x=true->wrun L m fid n ro mu hold f (.code a :: k) s K) (h2:x=false->wrun L m fid n ro mu hold f (.code b :: k) s K):condW L m fid n f ro mu hold a b k s K x:=⟨h1,h2⟩
@[simp] theorem wrun_nil  : wrun L m fid n ro mu hold (f+1) ([]) s K=K (.leave none) s:=propext Iff.rfl
@[simp] theorem wrun_ret  : wrun L m fid n ro mu hold (f+1) (.code .ret :: k) s K=K (.leave (some .ret)) s:=propext Iff.rfl
@[simp] theorem wrun_skip  : wrun L m fid n ro mu hold (f+1) (.code .skip :: k) s K=wrun L m fid n ro mu hold f k s K:=propext Iff.rfl
@[simp] theorem wrun_label {l:Nat}:wrun L m fid n ro mu hold (f+1) (.code (.label l) :: k) s K=wrun L m fid n ro mu hold f k s K:=propext Iff.rfl
@[simp] theorem wrun_inBlock {id:Nat}:wrun L m fid n ro mu hold (f+1) (.inBlock id :: k) s K=wrun L m fid n ro mu hold f k s K:=propext Iff.rfl
@[simp] theorem wrun_seq {a b:Code}:wrun L m fid n ro mu hold (f+1) (.code (.seq a b) :: k) s K=wrun L m fid n ro mu hold f (.code a :: .code b :: k) s K:=propext Iff.rfl
@[simp] theorem wrun_block {id:Nat} {c:Code}:wrun L m fid n ro mu hold (f+1) (.code (.block id c) :: k) s K=wrun L m fid n ro mu hold f (.code c :: .inBlock id :: k) s K:=propext Iff.rfl
@[simp] theorem wrun_scope {c:Code}:wrun L m fid n ro mu hold (f+1) (.code (.scope c) :: k) s K=wrun L m fid n ro mu hold f (.code c :: .inScope c :: k) s K:=propext Iff.rfl
@[simp] theorem wrun_exit {id:Nat}:wrun L m fid n ro mu hold (f+1) (.code (.exit id) :: k) s K=(match exitTo id k with
      | some k'=>wrun L m fid n ro mu hold f k' s K
      | none=>K (.leave (some (.exit id))) s):=propext Iff.rfl
@[simp] theorem wrun_cond {c:Operand} {a b:Code}:wrun L m fid n ro mu hold (f+1) (.code (.cond c a b) :: k) s K=(Operand.ok n c=true∧(match aeval s.env c with
      | .lit (.bool x)=>condW L m fid n f ro mu hold a b k s K x
      | _=>False)):=propext Iff.rfl
@[simp] theorem wrun_region {id:Nat}:wrun L m fid n ro mu hold (f+1) (.code (.region id ops false) :: k) s K=wrun L m fid n ro mu hold f (.inRegion ops (List.range ops.size) :: k) s K:=propext Iff.rfl
@[simp] theorem wrun_draw {id:Nat}:wrun L m fid n ro mu hold (f+1) (.code (.region id ops true) :: k) s K=(match hold.find? fun e=>e.id == id with
      | some ⟨_,p⟩=>drun L m mu ops n (panR s K) p s.env s.σ (resR P m fid n ro hold k s K)
      | none=>Resume P m fid n ro hold (.code (.region id ops true) :: k) s K):=propext Iff.rfl
@[simp] theorem wrun_inRegion0  : wrun L m fid n ro mu hold (f+1) (.inRegion ops [] :: k) s K=wrun L m fid n ro mu hold f k s K:=propext Iff.rfl
@[simp] theorem wrun_inRegion  : wrun L m fid n ro mu hold (f+1) (.inRegion ops (i :: is) :: k) s K=(match ops[i]? with
      | some o=>Oper.ok n o=true∧goW L m fid n f ro mu hold ops i is k o s K (gval ops n s.env o)
      | none=>Resume P m fid n ro hold (.inRegion ops (i :: is) :: k) s K):=propext Iff.rfl
@[simp] theorem wrun_loop {c:Code}:wrun L m fid n ro mu hold (f+1) (.code (.loop c) :: k) s K=Resume P m fid n ro hold (.code (.loop c) :: k) s K:=propext Iff.rfl
@[simp] theorem wrun_inLoop {c:Code}:wrun L m fid n ro mu hold (f+1) (.inLoop c :: k) s K=Resume P m fid n ro hold (.inLoop c :: k) s K:=propext Iff.rfl
@[simp] theorem wrun_rangeFunc {x:Operand} {ps:Array Tmp} {c d:Code}:wrun L m fid n ro mu hold (f+1) (.code (.rangeFunc x ps c d) :: k) s K=Resume P m fid n ro hold (.code (.rangeFunc x ps c d) :: k) s K:=propext Iff.rfl
@[simp] theorem wrun_beginRound  : wrun L m fid n ro mu hold (f+1) (.beginRound :: k) s K=Resume P m fid n ro hold (.beginRound :: k) s K:=propext Iff.rfl
end
section
variable {P:Program} (L:Lay P) (m:Mo) (n:Nat) (mu:List Nat) (ops:Array Oper) (Kp:AV->Store->Prop) (R:Env->Store->Prop)
def takeW (lt:Bool) (σ:Store) (p:Plan) (S:List Nat) (env:Env):Prop:=trun L mu ops n lt σ (fun env1=>drun L m mu ops n Kp p env1 σ R) .mk S env
def optT (lt:Bool) (σ:Store) (p:Plan) (S:List Nat) (dst:Option Tmp) (env:Env) (x:Option AV):Prop:=optK x fun a=>takeW L m n mu ops Kp R lt σ p S (putA env dst a)
def goT (lt:Bool) (σ:Store) (p:Plan) (S:List Nat) (o:Oper) (env:Env) (x:Option Bool):Prop:=
  goK x (optT L m n mu ops Kp R lt σ p S o.dst env (tval L mu lt o env σ)) (takeW L m n mu ops Kp R lt σ p S (putA env o.dst .junk))
def stepD (p:Plan) (dst:Option Tmp) (env:Env) (x:Out):Prop:=outK x (fun a σ'=>drun L m mu ops n Kp p (putA env dst a) σ' R) Kp
def optD (p:Plan) (dst:Option Tmp) (env:Env) (σ:Store) (x:Option AV):Prop:=stepD L m n mu ops Kp R p dst env (.opt x σ)
def newD (p:Plan) (dst:Option Tmp) (env:Env) (σ:Store) (c:List AV):Prop:=stepD L m n mu ops Kp R p dst env (.new σ c)
def goD (i:Nat) (p:Plan) (o:Oper) (env:Env) (σ:Store) (x:Option Bool):Prop:=
  goK x (if wopOK L o=true then outK (wout L mu o env σ) (fun a σ'=>drun L m mu ops n Kp p (putA env o.dst a) σ' R) Kp else
      if valOp o.op=true then opK (P:=P) m o env σ (fun a σ'=>PendW P m ops n Kp p (putA env o.dst a) σ' R) Kp else StepAt P m ops n Kp i env σ (fun env σ=>PendW P m ops n Kp p env σ R)) (drun L m mu ops n Kp p (putA env o.dst .junk) σ R)
variable {L m n mu ops Kp R} {i:Nat} {lt:Bool} {env:Env} {σ:Store} {p q:Plan} {S:List Nat} {dst:Option Tmp}
@[simp] theorem drun_done:drun L m mu ops n Kp .done env σ R=R env σ:=propext Iff.rfl
@[simp] theorem drun_take:drun L m mu ops n Kp (.take S lt p) env σ R=takeW L m n mu ops Kp R lt σ p S env:=propext Iff.rfl
@[simp] theorem drun_one:drun L m mu ops n Kp (.one i p) env σ R=(match ops[i]? with|some o=>Oper.ok n o=true∧goD L m n mu ops Kp R i p o env σ (gval ops n env o) | none=>False):=propext Iff.rfl
@[simp] theorem drun_both:drun L m mu ops n Kp (.both i p q) env σ R=((match ops[i]? with|some o=>Oper.ok n o=true∧goD L m n mu ops Kp R i p o env σ (gval ops n env o) | none=>False)∧drun L m mu ops n Kp q env σ R):=propext Iff.rfl
@[simp] theorem takeW_nil:takeW L m n mu ops Kp R lt σ p [] env=drun L m mu ops n Kp p env σ R:=propext Iff.rfl
@[simp] theorem takeW_cons:takeW L m n mu ops Kp R lt σ p (i :: S) env=(match ops[i]? with|some o=>(Oper.ok n o && o.dst.isSome)=true∧goT L m n mu ops Kp R lt σ p S o env (gval ops n env o) | none=>False):=propext Iff.rfl
@[simp] theorem optT_some {a:AV}:optT L m n mu ops Kp R lt σ p S dst env (some a)=takeW L m n mu ops Kp R lt σ p S (putA env dst a):=by unfold optT;rw[optK_some]
@[simp] theorem optT_none:optT L m n mu ops Kp R lt σ p S dst env none=False:=by unfold optT;rw[optK_none]
@[simp] theorem optT_if {c:Prop} [Decidable c] {x:Option AV}:optT L m n mu ops Kp R lt σ p S dst env (if c then x else none)=(c∧optT L m n mu ops Kp R lt σ p S dst env x):=by by_cases h:c <;> simp[h]
@[simp] theorem goT_true {o:Oper}:goT L m n mu ops Kp R lt σ p S o env (some true)=optT L m n mu ops Kp R lt σ p S o.dst env (tval L mu lt o env σ):=by unfold goT;rw[goK_some,boolK_true]
@[simp] theorem goT_false {o:Oper}:goT L m n mu ops Kp R lt σ p S o env (some false)=takeW L m n mu ops Kp R lt σ p S (putA env o.dst .junk):=by unfold goT;rw[goK_some,boolK_false]
theorem goT.intro {o:Oper} {x:Bool} (h1:x=true->goT L m n mu ops Kp R lt σ p S o env (some true)) (h2:x=false->goT L m n mu ops Kp R lt σ p S o env (some false)):goT L m n mu ops Kp R lt σ p S o env (some x):=by cases x with|true=>exact h1 rfl|false=>exact h2 rfl
@[simp] theorem stepD_ok {a:AV}:stepD L m n mu ops Kp R p dst env (.ok a σ)=drun L m mu ops n Kp p (putA env dst a) σ R:=propext Iff.rfl
@[simp] theorem stepD_need {c:Prop} {x:Out}:stepD L m n mu ops Kp R p dst env (.need c x)=(c∧stepD L m n mu ops Kp R p dst env x):=propext Iff.rfl
@[simp] theorem stepD_new {c:List AV}:stepD L m n mu ops Kp R p dst env (.new σ c)=newD L m n mu ops Kp R p dst env σ c:=propext Iff.rfl
@[simp] theorem stepD_opt {x:Option AV}:stepD L m n mu ops Kp R p dst env (.opt x σ)=optD L m n mu ops Kp R p dst env σ x:=propext Iff.rfl
@[simp] theorem optD_some {a:AV}:optD L m n mu ops Kp R p dst env σ (some a)=drun L m mu ops n Kp p (putA env dst a) σ R:=propext Iff.rfl
theorem newD.intro {c:List AV} (h:∀ b,σ b=none->drun L m mu ops n Kp p (putA env dst (.ref b 0)) (σ.set b (.cells c)) R):newD L m n mu ops Kp R p dst env σ c:=h
@[simp] theorem goD_true {o:Oper}:goD L m n mu ops Kp R i p o env σ (some true)=(if wopOK L o=true then stepD L m n mu ops Kp R p o.dst env (wout L mu o env σ) else
      if valOp o.op=true then opK (P:=P) m o env σ (fun a σ'=>PendW P m ops n Kp p (putA env o.dst a) σ' R) Kp else StepAt P m ops n Kp i env σ (fun env σ=>PendW P m ops n Kp p env σ R)):=by unfold goD;rw[goK_some,boolK_true];rfl
@[simp] theorem goD_false {o:Oper}:goD L m n mu ops Kp R i p o env σ (some false)=drun L m mu ops n Kp p (putA env o.dst .junk) σ R:=by unfold goD;rw[goK_some,boolK_false]
end
@[simp] theorem splice_all {l c:List AV} (h:c.length=l.length):splice l 0 c=c:=by
  unfold splice;simp[h]
@[simp high] theorem splice_one {l:List AV} {off:Nat} {v:AV} (h:off<l.length):splice l off [v]=l.set off v:=by
  unfold splice;rw[List.set_eq_take_append_cons_drop,if_pos h];simp
attribute [simp] tval pval fillA parith wout wopOK gval valOp opK bsOK arithW Function.comp_def
def MethOK (P:Program) (t:TypeId) (name:String) (f:FuncId) (a a':AV):Prop:=
  ∀ k O v (K:FuncId × Value->Know->OwnM->Prop) Kp,V k v a->(∀ r,V k r a'->K (f,r) k O)->swp P (method (P.types.size+Made.depth) t v name) k O K Kp
section
variable {P:Program} {m:Mo} {fid n:Nat} {ro:Option Nat} {hold:List Entry} {s:St} {K:Exit->St->Prop} {k:List Item}
theorem invoke_method {name:String} {recv:Value} {c ra:Array Value}:Go.invoke (.fn (.method name) c) (#[recv] ++ ra)=callMethod recv name ra:=by
  have h1:(#[recv] ++ ra)[0]? = some recv:=by rw[Array.getElem?_append_left (by simp)];rfl
  have h2:(#[recv] ++ ra).extract 1 (#[recv] ++ ra).size=ra:=by
    apply Array.ext';rw[Array.toList_extract];simp[List.extract];rw[← Array.length_toList,List.take_length]
  simp only[Go.invoke,h1,h2]
theorem Resume.invoke {ops:Array Oper} {i:Nat} {is:List Nat} {o:Oper} {recv:Operand} {name:String} {args:Array Operand} {tys:Array TypeId} {t f:Nat} {a a':AV} {fn:Func} (ho:ops[i]? = some o) (hop:o.op = .call ⟨.invoke recv name,args,tys⟩) (hg:o.guard=none) (hok:Oper.ok n o=true)
    (hr:aeval s.env recv = .ifc t a) (hm:MethOK P t name f a a') (hf:P.funcs[f]? = some fn) (hb:fn.body.isSome=true) (hnm:(fn.name ==  "runtime.NumGoroutine")=false)
    (h:FnOK P m f (a' :: args.toList.map (aeval s.env)) s.σ (fun r σ'=>match r with | .val x=>Resume P m fid n ro hold (.inRegion ops is :: k) { s with env:=putA s.env o.dst x,σ:=σ' } K | .panic v=>K (.panic v) { s with σ:=σ' })) :
    Resume P m fid n ro hold (.inRegion ops (i :: is) :: k) s K:=fun hpl Q kk O tmps defs kind cs h1 h2 h3=>by
  have hw:Wanted ops n s.env o:=by unfold Wanted;rw[hg];trivial
  refine T.ofApply (fun w=>stepG_oper' ho (wanted_of h2.size h2.env hw) (.inr fun c e=>by rw[hop] at e;cases e) w) (apply_of_swp ?_)
  have hops:∀ x∈o.op.operands,V kk (Frame.eval ⟨fid,tmps,.inRegion ops (i :: is) :: k,defs,.run,kind,ro⟩ x) (aeval s.env x):=fun x hx=>by
    refine V.eval h2.env h2.size x ?_;simp only[Oper.ok,Bool.and_eq_true,Array.all_eq_true_iff_forall_mem] at hok;exact hok.1 x hx
  have hv:=hops recv (by simp[hop,Op.operands,Call.operands])
  rw[hr] at hv;have hargs:=Vs.ofArray (k:=kk) (ρ:=Frame.eval ⟨fid,tmps,.inRegion ops (i :: is) :: k,defs,.run,kind,ro⟩) (env:=s.env) (xs:=args) (fun x hx=>hops x (by simp[hop,Op.operands,Call.operands,hx]))
  generalize hq:Frame.eval _ recv=cf at hv;cases hv with
  | ifc _ v _ hva=>
    simp only[execOp,hop,resolve,hq];refine swp_bind' (swp_pure ?_);rw[invoke_method];unfold callMethod;simp only;refine swp_bind' (swp_program ?_);refine swp_bind' (hm kk O v _ _ hva fun r hra=>?_)
    simp only[callFunc];refine swp_bind' (swp_program ?_);rw[hf];have hb':fn.body.isNone=false:=by cases hx:fn.body <;> simp_all
    simp only[hnm,hb',Bool.false_eq_true,if_false];refine swp_pure fun _=>⟨by simp,?_⟩
    have e : #[r] ++ args.map (Frame.eval ⟨fid,tmps,.inRegion ops (i :: is) :: k,defs,.run,kind,ro⟩)=(r :: (args.map (Frame.eval ⟨fid,tmps,.inRegion ops (i :: is) :: k,defs,.run,kind,ro⟩)).toList).toArray:=by simp
    rw[e];refine h Q kk O _ ⟨fid,tmps,.inRegion ops (i :: is) :: k,defs,.run,kind,ro⟩ (csOf s.rc cs) .normal (by simp) (.cons hra ⟨by simpa using hargs.1,fun j v a hv ha=>hargs.2 j v a (by simpa using hv) ha⟩) h2.rel ?_ ?_
    . intro k' O' cv av σ' hle hcv hr' hK
      obtain⟨tmps',e1,e2⟩:=h2.put (fid:=fid) (ro:=ro) (rest:=is) (kk:=k) hle ho hcv hr';show T P m Q k' O' (G (Frame.finish ⟨fid,tmps,.inRegion ops (i :: is) :: k,defs,.run,kind,ro⟩ cv) (csOf s.rc cs));rw[e1];exact hK (by simpa[okT,okP] using hpl) Q k' O' tmps' defs kind cs h1 e2 (h3.mono hle)
    . intro k' O' cv av σ' hle hcv hr' hK
      exact h3.panic k' O' tmps defs { s with σ:=σ' } _ cv av hle ⟨h2.size,h2.env.mono hle,hr',h2.ds.mono hle,h2.rc.mono hle⟩ hcv hK
theorem wanted_none {ops:Array Oper} {env:Env} {o:Oper} (hg:o.guard=none):Wanted ops n env o:=by unfold Wanted;rw[hg];trivial
theorem Resume.defer {ops:Array Oper} {i:Nat} {is:List Nat} {o:Oper} {fo:Operand} {args:Array Operand} {tys:Array TypeId} {f:Fn} {first cap:List AV} (hro:ro=none) (ho:ops[i]? = some o) (hop:o.op = .defer ⟨.value fo,args,tys⟩) (hg:o.guard=none) (hok:Oper.ok n o=true)
    (hfo:aeval s.env fo = .fn f first cap) (h:Resume P m fid n ro hold (.inRegion ops is :: k) { s with env:=putA s.env o.dst .junk,D:=.call f cap (first ++ args.toList.map (aeval s.env)) :: s.D } K):Resume P m fid n ro hold (.inRegion ops (i :: is) :: k) s K:=
  fun hpl=>Go.defer hro ho hop (wanted_none hg) hok hfo (h (by simpa[okT,okP] using hpl))
end
def Keeps (F F':Nat->Prop) (σ σ':Store):Prop := ∀ b x,¬ F b->σ b=some x->σ' b=some x ∧ ¬ F' b
def tokBlk:AV->Option Nat
  | .sl _ _ (.tok b _)=>some b
  | _=>none
def Store.off (σ:Store) (a:AV):Store:=match tokBlk a with|some b=>σ.del b|none=>σ
theorem Tok.here {σ0 σ:Store} {a:AV} {kk:Nat} {es:List AV} (h:Tok σ0 σ a kk es):Tok (σ.off a) σ a kk es∧σ0.Le (σ.off a):=by
  obtain⟨h1,h2⟩:=h
  rcases h2 with ⟨rfl,rfl⟩|rfl|⟨b,e,h3,rfl,h4⟩
  . exact⟨⟨Store.le_refl _,.inl ⟨rfl,rfl⟩⟩,h1⟩
  . exact⟨⟨Store.le_refl _,.inr (.inl rfl)⟩,h1⟩
  . refine⟨⟨fun c x hx=>?_,.inr (.inr ⟨b,e,by simp[Store.off,tokBlk,Store.del],rfl,h4⟩)⟩,fun c x hx=>?_⟩
    . simp only[Store.off,tokBlk,Store.del] at hx
      split at hx
      . cases hx
      . exact hx
    . have hc:c≠b:=fun e=>by subst e;rw[h3] at hx;cases hx
      simp only[Store.off,tokBlk,Store.del,hc,if_false];exact h1 c x hx
theorem Tok.base {σ0 σ1 σ:Store} {a:AV} {kk:Nat} {es:List AV} (h:Tok σ1 σ a kk es) (h0:σ0.Le σ1):Tok σ0 σ a kk es:=by
  obtain⟨h1,h2⟩:=h;refine⟨Store.le_trans h0 h1,?_⟩
  rcases h2 with h|h|⟨b,e,h3,h4,h5⟩
  . exact .inl h
  . exact .inr (.inl h)
  . refine .inr (.inr ⟨b,e,?_,h4,h5⟩)
    cases hb:σ0 b with
    | none=>rfl
    | some x=>have:=h0 b x hb;rw[h3] at this;cases this
theorem Tok.beside {σ0 σ:Store} {a:AV} {kk:Nat} {es:List AV} (h:Tok σ0 σ a kk es) {b:Nat} {x:AObj} (hb:σ0 b=none) (ht:tokBlk a≠some b):Tok σ0 (σ.set b x) a kk es:=by
  obtain⟨h1,h2⟩:=h;refine⟨Store.le_upd h1 hb,?_⟩
  rcases h2 with h|h|⟨c,e,h3,rfl,h5⟩
  . exact .inl h
  . exact .inr (.inl h)
  . refine .inr (.inr ⟨c,e,h3,rfl,?_⟩)
    have hc:c≠b:=fun e=>ht (by simp[tokBlk,e])
    rw[Store.set_ne _ _ hc];exact h5
theorem Tok.tok_some {σ0 σ:Store} {a:AV} {kk:Nat} {es:List AV} (h:Tok σ0 σ a kk es) {b:Nat} (hb:tokBlk a=some b):σ0 b=none∧∃ e,σ b=some (.tail e):=by
  obtain⟨h1,h2⟩:=h
  rcases h2 with ⟨rfl,rfl⟩|rfl|⟨c,e,h3,rfl,h5⟩
  . cases hb
  . cases hb
  . simp only[tokBlk,Option.some.injEq] at hb
    subst hb;exact⟨h3,e,h5⟩
theorem Tok.cells {σ0 σ:Store} {a:AV} {kk:Nat} {es:List AV} (h:Tok σ0 σ a kk es):a.cells=[a]∧a.flat=true:=by
  obtain⟨_,h2⟩:=h
  rcases h2 with ⟨rfl,rfl⟩|rfl|⟨c,e,h3,rfl,h5⟩ <;> exact⟨rfl,rfl⟩
theorem Store.off_ne {σ:Store} {a:AV} {b:Nat} (h:tokBlk a≠some b):σ.off a b=σ b:=by
  unfold Store.off;cases hc:tokBlk a with
  | none=>rfl
  | some c=>
    have:b≠c:=fun e=>h (by rw[hc,e])
    simp[Store.del,this]
def ownBlk:AV->Option Nat
  | .msl b _ _ _=>some b
  | _=>none
def Store.offO (σ:Store) (a:AV):Store:=match ownBlk a with|some b=>σ.del b|none=>σ
theorem Store.offO_ne {σ:Store} {a:AV} {b:Nat} (h:ownBlk a≠some b):σ.offO a b=σ b:=by
  unfold Store.offO;cases hc:ownBlk a with
  | none=>rfl
  | some c=>
    have:b≠c:=fun e=>h (by rw[hc,e])
    simp[Store.del,this]
theorem Store.offO_le {σ:Store} {a:AV}:(σ.offO a).Le σ:=fun b x h=>by
  unfold Store.offO at h;cases hc:ownBlk a with
  | none=>rw[hc] at h;exact h
  | some c=>
    rw[hc] at h;simp only[Store.del] at h;split at h
    . cases h
    . exact h
theorem OwnTok.cells {σ0 σ:Store} {a:AV} {kk:Nat} {es:List AV} (h:OwnTok σ0 σ a kk es):a.cells=[a]∧a.flat=true:=by
  obtain⟨_,h2⟩:=h
  rcases h2 with ⟨_,rfl|rfl⟩|⟨c,cap,rest,rfl,_⟩ <;> exact⟨rfl,rfl⟩
theorem OwnTok.blk_some {σ0 σ:Store} {a:AV} {kk:Nat} {es:List AV} (h:OwnTok σ0 σ a kk es) {b:Nat} (hb:ownBlk a=some b):σ0 b=none∧∃ l,σ b=some (.cells l):=by
  obtain⟨h1,h2⟩:=h
  rcases h2 with ⟨_,rfl|rfl⟩|⟨c,cap,rest,rfl,h3,_,_,h5,_⟩
  . cases hb
  . cases hb
  . simp only[ownBlk,Option.some.injEq] at hb
    subst hb;exact⟨h3,_,h5⟩
theorem OwnTok.here {σ0 σ:Store} {a:AV} {kk:Nat} {es:List AV} (h:OwnTok σ0 σ a kk es):OwnTok (σ.offO a) σ a kk es∧σ0.Le (σ.offO a):=by
  obtain⟨h1,h2⟩:=h;refine⟨⟨Store.offO_le,?_⟩,fun c x hx=>?_⟩
  . rcases h2 with h|⟨b,cap,rest,rfl,h3,h4,h5,h6,h7⟩
    . exact .inl h
    . exact .inr ⟨b,cap,rest,rfl,by simp[Store.offO,ownBlk,Store.del],h4,h5,h6,h7⟩
  . by_cases hc:ownBlk a=some c
    . have:=(OwnTok.blk_some ⟨h1,h2⟩ hc).1
      rw[hx] at this;cases this
    . rw[Store.offO_ne hc];exact h1 c x hx
theorem OwnTok.base {σ0 σ1 σ:Store} {a:AV} {kk:Nat} {es:List AV} (h:OwnTok σ1 σ a kk es) (h0:σ0.Le σ1):OwnTok σ0 σ a kk es:=by
  obtain⟨h1,h2⟩:=h;refine⟨Store.le_trans h0 h1,?_⟩
  rcases h2 with h|⟨b,cap,rest,rfl,h3,h4,h5,h6,h7⟩
  . exact .inl h
  . refine .inr ⟨b,cap,rest,rfl,?_,h4,h5,h6,h7⟩
    cases hb:σ0 b with
    | none=>rfl
    | some x=>have:=h0 b x hb;rw[h3] at this;cases this
theorem OwnTok.beside {σ0 σ:Store} {a:AV} {kk:Nat} {es:List AV} (h:OwnTok σ0 σ a kk es) {b:Nat} {x:AObj} (hb:σ0 b=none) (ht:ownBlk a≠some b):OwnTok σ0 (σ.set b x) a kk es:=by
  obtain⟨h1,h2⟩:=h;refine⟨Store.le_upd h1 hb,?_⟩
  rcases h2 with h|⟨c,cap,rest,rfl,h3,h4,h5,h6,h7⟩
  . exact .inl h
  . refine .inr ⟨c,cap,rest,rfl,h3,h4,h5,?_,h7⟩
    have hc:c≠b:=fun e=>ht (by simp[ownBlk,e])
    rw[Store.set_ne _ _ hc];exact h6
theorem OwnTok.keep {σ0 σ σ1 σ':Store} {a:AV} {kk:Nat} {es:List AV} (h:OwnTok σ0 σ a kk es) (hle:σ1.Le σ') (hb:∀ b,ownBlk a=some b->σ' b=σ b∧σ1 b=none):OwnTok σ1 σ' a kk es:=by
  obtain⟨h1,h2⟩:=h;refine⟨hle,?_⟩
  rcases h2 with h|⟨c,cap,rest,rfl,h3,h4,h5,h6,h7⟩
  . exact .inl h
  . exact .inr ⟨c,cap,rest,rfl,(hb c rfl).2,h4,h5,by rw[(hb c rfl).1];exact h6,h7⟩
inductive Wl:List AV->List AV->Prop
  | nil:Wl [] []
  | cons {a a':AV} {l l':List AV}:a.W a'->Wl l l'->Wl (a :: l) (a' :: l')
theorem Wl.len {l l':List AV} (h:Wl l l'):l.length=l'.length:=by
  induction h with
  | nil=>rfl
  | cons _ _ ih=>simp[ih]
theorem Wl.at {l l':List AV} (h:Wl l l'):∀ {i:Nat} {a':AV},l'[i]? = some a'->∃ a,l[i]? = some a∧a.W a':=by
  induction h with
  | nil=>intro i a' h;simp at h
  | @cons a b l l' h1 h2 ih=>
    intro i a' h;cases i with
    | zero=>simp at h;subst h;exact⟨a,by simp,h1⟩
    | succ i=>simpa using ih (by simpa using h)
theorem Vs.wargs {k:Know} {c:List Value} {l l':List AV} (h:Vs k c l) (hw:Wl l l'):Vs k c l':=⟨by rw[h.1,hw.len],fun i v a hv ha=>by
  obtain⟨b,hb,hba⟩:=hw.at ha;exact hba k v (h.2 i v b hv hb)⟩
theorem FnOK.wargs {P:Program} {m:Mo} {f:FuncId} {args args':List AV} {σ:Store} {KF:Res->Store->Prop} (h:FnOK P m f args' σ KF) (hw:Wl args args'):FnOK P m f args σ KF:=
  fun Q k O cargs c rest kind hk hv hr h1 h2=>h Q k O cargs c rest kind hk (hv.wargs hw) hr h1 h2
theorem callFnW {P:Program} {m:Mo} {f:FuncId} {fn:Func} {args args':List AV} {σ:Store} {KF:Res->Store->Prop} (hf:P.funcs[f]? = some fn) (hb:fn.body.isSome=true) (hnm:(fn.name ==  "runtime.NumGoroutine")=false) (hw:Wl args args') (h:FnOK P m f args' σ KF) :
    CallV P m (.fn (.func f) [] []) args σ KF:=callFn hf hb hnm (h.wargs hw)
def Know.prt (k:Know) (r:Nat) (c:Array Value) (f:Nat->Option Value):Know:={ k with cell:=fun b j=>if b=r∧f j=none then c[j]? else k.cell b j }
theorem ghost_part {k:Know} {O:OwnM} {r:Nat} {c:Array Value} {e:TypeId} {f:Nat->Option Value} (ho:O r=some (.obj (.cells c e (0,0)))) (hs:k.sh r=some (e,c.size)) (hf:∀ i v,f i=some v->c[i]? = some v):Ghost k O (k.prt r c f) (O.set r (.part f)):=fun w h=>by
  have hw:=h.obj _ _ ho
  have hno:∀ j,k.cell r j=none:=fun j=>by
    cases q:k.cell r j with
    | none=>rfl
    | some v=>exact (h.apart _ _ _ q (.inl ⟨_,ho⟩)).elim
  have hle:k.Le (k.prt r c f):=⟨fun b i v hv=>by
    have : ¬ (b=r∧f i=none):=fun x=>by rw[x.1,hno] at hv;cases hv
    simpa[Know.prt,this] using hv,fun _ _ h=>h⟩
  have hset:∀ b,b≠r->(O.set r (.part f)) b=O b:=fun b hb=>by simp[OwnM.set,hb]
  have hsetr:(O.set r (.part f)) r=some (.part f):=by simp[OwnM.set]
  refine⟨⟨fun b i v hv hc=>?_,fun b i v hv=>?_,h.sh,fun b o hb=>?_,fun b m hb=>?_,fun b g hb=>?_⟩,⟨hle,Nat.le_refl _,fun _ _ _=>rfl,fun _ _ _ _ c _ h=>⟨c,h,rfl,fun _ _=>rfl⟩,fun _ _ _ _ c _ h=>⟨c,h,rfl,fun _ _=>rfl⟩,fun _ _=>rfl,fun b x hx=>?_,fun b i v hv=>?_,fun _ _ h => .inl h,by simp,rfl,rfl,rfl,by simp,fun b g hb=>?_⟩⟩
  . by_cases hb:b=r
    . subst hb
      rcases hc with ⟨o,h1⟩|⟨m,h1,h2⟩|⟨g,h1,h2⟩
      . rw[hsetr] at h1;cases h1
      . rw[hsetr] at h1;cases h1
      . rw[hsetr] at h1;cases h1
        simp only[Know.prt,true_and] at hv;rw[if_neg h2,hno] at hv;cases hv
    . have hv':k.cell b i=some v:=by simpa[Know.prt,hb] using hv
      exact h.apart b i v hv' (by simpa[Covers,OwnM.set,hb] using hc)
  . by_cases hb:b=r∧f i=none
    . obtain⟨rfl,hi⟩:=hb
      simp only[Know.prt,hi,and_self,if_true] at hv;simp[World.cell?,hw,hv]
    . exact h.cell b i v (by simpa only [Know.prt,hb,if_false] using hv)
  . by_cases hbr:b=r
    . subst hbr;rw[hsetr] at hb;cases hb
    . exact h.obj b o (by rw[hset b hbr] at hb;exact hb)
  . by_cases hbr:b=r
    . subst hbr;rw[hsetr] at hb;cases hb
    . exact h.tail b m (by rw[hset b hbr] at hb;exact hb)
  . by_cases hbr:b=r
    . subst hbr;rw[hsetr] at hb;cases hb
      exact⟨c,e,hw,hs,hf⟩
    . exact h.part b g (by rw[hset b hbr] at hb;exact hb)
  . by_cases hbr:b=r
    . subst hbr;exact .inl ⟨_,ho,trivial⟩
    . rw[hset b hbr] at hx;exact .inl ⟨x,hx,.refl x⟩
  . by_cases hb:b=r∧f i=none
    . obtain⟨rfl,_⟩:=hb;exact .inr (.inl (.inl ⟨_,ho⟩))
    . exact .inl (by simpa only [Know.prt,hb,if_false] using hv)
  . have hbr:b≠r:=fun q=>by rw[q,ho] at hb;cases hb
    exact⟨g,by rw[hset b hbr];exact hb⟩
section
variable {P:Program} {m:Mo} {Q:Know->OwnM->Goroutine->Prop} {k:Know} {O:OwnM} {g:Goroutine} {σ:Store}
theorem T.part {r:Nat} {c:Array Value} {e:TypeId} {f:Nat->Option Value} (ho:O r=some (.obj (.cells c e (0,0)))) (hf:∀ i v,f i=some v->c[i]? = some v) (hrun:g.status = .running)
    (h:∀ k' O',k.Le k'->k'.sh r=some (e,c.size)->(∀ j v,f j=none->c[j]? = some v->k'.cell r j=some v)->O'=O.set r (.part f)->T P m Q k' O' g):T P m Q k O g:=by
  by_cases hsat:∃ w,Sat k O w
  . obtain⟨w,hw⟩:=hsat
    have h1:=(ghost_shape (k:=k) ho w hw).2.le;have hg:=ghost_part (k:=k.setSh r (e,c.size)) (f:=f) ho (by simp[Know.setSh]) hf
    have hle:(k.setSh r (e,c.size)).Le ((k.setSh r (e,c.size)).prt r c f):=(hg w (ghost_shape (k:=k) ho w hw).1).2.le;exact .ghost (ghost_shape ho) (.ghost hg (h _ _ (h1.trans hle) (by simp[Know.prt,Know.setSh]) (fun j v hj hv=>by simp[Know.prt,hj,hv]) rfl))
  . exact .step (fun _ _ _=>False) hrun (fun _ _ _ h=>h.elim) fun w hw=>absurd ⟨w,hw⟩ hsat
theorem T.partA {b:Nat} {l:List AV} {hole:List Nat} {f:Nat->Option Value} (hr:Rel k O σ) (hb:σ b=some (.cells l)) (hf:∀ i v,f i=some v->l[i]? = some (.lit v)) (hh:∀ i,f i=none ↔ i ∉ hole) (hrun:g.status = .running)
    (h:∀ k' O',k.Le k'->(∀ off,V k' (.pointer (some ⟨b,off,none⟩)) (.kp b l hole off))->Rel k' O' (σ.set b (.part f))->T P m Q k' O' g):T P m Q k O g:=by
  obtain⟨y,hO,hy⟩:=hr.1 b _ hb (by simp)
  cases hy with
  | cells c e _ g1 g2 g3=>
    refine T.part (f:=f) hO (fun i v hi=>?_) hrun fun k' O' hle hsh hc hO'=>?_
    . have hl:=hf i v hi
      have hlt:i<c.size:=by rw[g1];exact (List.getElem?_eq_some_iff.1 hl).1
      have hv:=g2 i c[i] _ (by simp[hlt]) hl
      have:c[i]=v:=by
        generalize c[i]=u at hv;cases hv;rfl
      simp[hlt,this]
    . refine h k' O' hle (fun off => .kp b off c.size e l hole (fun j=>c.getD j undef) hsh (by omega) (fun j hj hn=>?_) (fun j a hn ha=>?_)) ?_
      . have hlt:j<c.size:=by omega
        refine⟨?_,?_⟩
        . rw[hc j c[j] ((hh j).2 hn) (by simp[hlt])]
          simp[Array.getD,hlt]
        . simp only[Array.getD,hlt,dif_pos]
          exact g3 j _ (by simp[hlt])
      . have hlt:j<c.size:=by rw[g1];exact (List.getElem?_eq_some_iff.1 ha).1
        simp only[Array.getD,hlt,dif_pos];exact (g2 j _ a (by simp[hlt]) ha).mono hle
      . rw[hO']
        exact (hr.mono hle).set (.part f)
theorem FnOK.share {f:FuncId} {args:List AV} {KF KF0:Res->Store->Prop} (h:FnOK P m f args σ KF0)
    (hc:∀ r σ',KF0 r σ'->KF r σ'∨∃ b l hole F,r = .val (.ref b 0)∧σ' b=some (.cells l)∧(∀ i v,F i=some v->l[i]? = some (.lit v))∧(∀ i,F i=none ↔ i ∉ hole)∧KF (.val (.kp b l hole 0)) (σ'.set b (.part F))):FnOK P m f args σ KF:=by
  intro Q k O cargs c rest kind h1 h2 h3 h4 h5;refine h Q k O cargs c rest kind h1 h2 h3 (fun k' O' cv av σ' hle hv hr hK=>?_) (fun k' O' cv av σ' hle hv hr hK=>?_)
  . rcases hc _ _ hK with hK|⟨b,l,hole,F,e,hb,hF,hh,hK2⟩
    . exact h4 _ _ _ _ _ hle hv hr hK
    . cases e
      cases hv;exact T.partA hr hb hF hh (by cases kind <;> rfl) fun k2 O2 hle2 hvv hrr=>h4 _ _ _ _ _ (hle.trans hle2) (hvv 0) hrr hK2
  . rcases hc _ _ hK with hK|⟨b,l,hole,F,e,_⟩
    . exact h5 _ _ _ _ _ hle hv hr hK
    . cases e
end
structure MapK (P:Program) (mt kt et ft:Nat) (kd:IntKind):Prop where
  hm:P.underlying mt=some (.map kt et)
  hk:∃ f,P.underlying kt=some (.struct #[f])∧(f.name ≠  "_")∧f.type=ft∧f.offset=0
  hf:P.underlying ft=some (.int kd)
  hs:P.stoodInHeld kt=false
def keyA (kd:IntKind) (n:Int):AV:=.agg [.lit (.int kd n)]
def mapA (kd:IntKind) (l:List (Int × AV)):AObj:=.map (l.map fun p=>(keyA kd p.1,p.2))
section
variable {P:Program} (L:Lay P) {k:Know} {O:OwnM} {Kp:Value->Know->OwnM->Prop} {mt kt et ft:Nat} {kd:IntKind}
theorem swp_under {K:TypeDesc->Know->OwnM->Prop} {t:Nat} {d:TypeDesc} (h1:P.underlying t=some d) (h:K d k O):swp P (underlying t) k O K Kp:=by
  unfold underlying;refine swp_bind' (swp_program ?_);rw[h1];exact h
theorem swp_part1 {K:Value->Know->OwnM->Prop} {i:TI} {v:Value} (ht:L.tt ft=some i) (ha:i.agg=false) (h:K v k O):swp P (part ft #[v] 0) k O K Kp:=by
  unfold part;refine swp_bind' (swp_isAgg L ht ?_);rw[ha];exact swp_pure h
variable (M:MapK P mt kt et ft kd) {i:TI} (ht:L.tt ft=some i) (ha:i.agg=false)
include M ht ha
theorem swp_checkKey1 {K:Unit->Know->OwnM->Prop} {b:Bool} {n:Int} (h:K () k O):swp P (Instr.checkKey b 10000 kt (.agg #[.int kd n])) k O K Kp:=by
  obtain⟨f,h1,h2,h3,h4⟩:=M.hk;show swp P (Instr.checkKey b (9998+1+1) kt (.agg #[.int kd n])) k O K Kp;rw[Instr.checkKey];refine swp_bind' (swp_under h1 ?_);simp only[List.forIn_toArray,List.forIn_cons,List.forIn_nil];rw[if_pos h2,h3,h4];refine swp_bind' (swp_bind' (swp_bind' (swp_part1 L ht ha ?_)));rw[Instr.checkKey];refine swp_bind' (swp_bind' (swp_under M.hf ?_));exact swp_pure (swp_pure (swp_pure (swp_pure h)))
theorem swp_equal1 {K:Bool->Know->OwnM->Prop} {a b:Int} (h:K (a == b) k O):swp P (Op.equal kt (.agg #[.int kd a]) (.agg #[.int kd b])) k O K Kp:=by
  obtain⟨f,h1,h2,h3,h4⟩:=M.hk;show swp P (Op.equalIn (9998+1+1) kt (.agg #[.int kd a]) (.agg #[.int kd b])) k O K Kp;rw[Op.equalIn];refine swp_bind' (swp_under h1 ?_);refine swp_bind' (swp_program ?_);rw[M.hs];simp only[Bool.false_eq_true,if_false,List.forIn_toArray,List.forIn_cons,List.forIn_nil];rw[if_pos h2,h3,h4];refine swp_bind' (swp_bind' (swp_bind' (swp_part1 L ht ha ?_)));refine swp_bind' (swp_part1 L ht ha ?_);refine swp_bind' ?_;rw[Op.equalIn];refine swp_bind' (swp_under M.hf ?_);simp only[if_true];refine swp_pure ?_;cases hab:(a == b) with
  | true=>rw[hab] at h;exact swp_pure (swp_pure (swp_pure h))
  | false=>rw[hab] at h;exact swp_pure (swp_pure (swp_pure h))
def alook (l:List (Int × AV)) (n:Int):Option AV:=(l.find? fun p=>n == p.1).map (·.2)
theorem swp_findAsking1 {n:Int} {K:Option (Nat × Value)->Know->OwnM->Prop}:∀ (es:List MapEntry) (l:List (Int × AV)) (j:Nat),es.length=l.length->(∀ (j:Nat) e p,es[j]? = some e->l[j]? = some p->e.key = .agg #[.int kd p.1]∧V k e.val p.2) ->
    (∀ a v j,alook l n=some a->V k v a->K (some (j,v)) k O)->(alook l n=none->K none k O)->swp P (Instr.findAsking kt (.agg #[.int kd n]) es j) k O K Kp
  | [],[],j,_,_,_,h=>by rw[Instr.findAsking];exact swp_pure (h rfl)
  | e :: es,p :: l,j,hl,hv,h1,h2=>by
    obtain⟨e1,e2⟩:=hv 0 e p rfl rfl;rw[Instr.findAsking,e1];refine swp_bind' (swp_equal1 L M ht ha ?_);cases hp:(n == p.1) with
    | true=>
      simp only[if_true];exact swp_pure (h1 p.2 _ _ (by simp[alook,hp]) e2)
    | false=>
      simp only[Bool.false_eq_true,if_false];have e3:alook (p :: l) n=alook l n:=by simp[alook,hp]
      rw[e3] at h1 h2;exact swp_findAsking1 es l (j+1) (by simpa using hl) (fun j e p he hp=>hv (j+1) e p (by simpa using he) (by simpa using hp)) h1 h2
  | [],_ :: _,_,h,_,_,_=>by simp at h
  | _ :: _,[],_,h,_,_,_=>by simp at h
theorem swp_findKey1 {n:Int} {K:Option (Nat × Value)->Know->OwnM->Prop} {es:List MapEntry} {l:List (Int × AV)} (hl:es.length=l.length) (hv:∀ (j:Nat) e p,es[j]? = some e->l[j]? = some p->e.key = .agg #[.int kd p.1]∧V k e.val p.2)
    (h1:∀ a v j,alook l n=some a->V k v a->K (some (j,v)) k O) (h2:alook l n=none->K none k O):swp P (Instr.findKey kt (.agg #[.int kd n]) es) k O K Kp:=by
  obtain⟨f,g1,g2,g3,g4⟩:=M.hk;unfold Instr.findKey;refine swp_bind' (swp_under g1 ?_);cases es with
  | nil=>
    cases l with
    | nil=>exact swp_pure (h2 rfl)
    | cons p l=>simp at hl
  | cons e es=>
    have:Instr.findNow (.struct #[f]) (.agg #[.int kd n]) (e :: es) 0=none:=by simp[Instr.findNow,Instr.sameNow]
    rw[this];exact swp_findAsking1 L M ht ha _ l 0 hl hv h1 h2
omit M ht ha
theorem V.keyA {k:Know} {v:Value} {kd:IntKind} {n:Int} (h:V k v (keyA kd n)):v = .agg #[.int kd n]:=by
  cases h with
  | agg c l h1 h2=>
    have h1:c.size=1:=h1
    have hc:c=#[c[0]]:=by
      apply Array.ext
      . simp[h1]
      . intro i hi hi'
        have:i=0:=by simp at hi';exact hi'
        subst this;rfl
    have:=h2 0 c[0] (.lit (.int kd n)) (by simp[h1]) rfl
    rw[hc];generalize c[0]=u at this;cases this;rfl
theorem mapA_of {σ:Store} (hr:Rel k O σ) {b:Nat} {l:List (Int × AV)} (hb:σ b=some (mapA kd l)):∃ es clock,O b=some (.obj (.map es clock))∧es.toList.length=l.length∧∀ (j:Nat) e p,es.toList[j]? = some e->l[j]? = some p->e.key = .agg #[.int kd p.1]∧V k e.val p.2:=by
  obtain⟨x,h1,h2⟩:=hr.1 b _ hb (by simp[mapA])
  unfold mapA at h2;cases h2 with
  | map es clock m g1 g2=>
    refine⟨es,clock,h1,by simpa using g1,fun j e p he hp=>?_⟩
    obtain⟨q1,q2⟩:=g2 j e (Pal.keyA kd p.1,p.2) (by simpa using he) (by simp[hp])
    exact⟨q1.keyA,q2⟩
variable {o:Oper} {env:Env} {σ:Store} {K Kq:AV->Store->Prop}
theorem os_lookup1 (M:MapK P mt kt et ft kd) (ht:L.tt ft=some i) (ha:i.agg=false) {ie:TI} {x ix:Operand} {b:Nat} {l:List (Int × AV)} {n:Int} (ho:o.op = .lookup mt x ix true) (hte:L.tt et=some ie) (hx:aeval env x = .map b) (hi:aeval env ix=keyA kd n) (hb:σ b=some (mapA kd l))
    (hK:K (.tup [(alook l n).getD (zav ie.zero),.lit (.bool (alook l n).isSome)]) σ):OpSem P o env σ K Kq:=
  OpSem.val (s:=fun ρ=>Instr.lookup mt (ρ x) (ρ ix) true) (fun ρ=>by simp[execOp,ho]) fun k O ρ hρ hr=>by
    have h1:=hρ x (by simp[ho,Op.operands])
    have h2:=hρ ix (by simp[ho,Op.operands])
    rw[hx] at h1;rw[hi] at h2;rw[h2.keyA];generalize ρ x=vx at h1;cases h1;obtain⟨es,clock,e1,e2,e3⟩:=mapA_of hr hb;unfold Instr.lookup;refine swp_bind' (swp_under M.hm ?_);simp only;refine swp_bind' (s:=getObj b) ⟨_,e1,rfl,swp_pure ?_⟩;refine swp_bind' (swp_pure ?_);refine swp_bind' (swp_checkKey1 L M ht ha ?_);refine swp_bind' (swp_findKey1 L M ht ha e2 e3 (fun a v j hl hv=>?_) (fun hl=>?_))
    . simp only
      refine swp_bind' (swp_pure ?_);simp only[if_true];refine swp_pure (.here ⟨.refl k,_,σ,.tup _ _ rfl (fun i u a' hu ha'=>?_),hr,hK⟩)
      rw[hl] at ha'
      match i with
      | 0=>simp at hu ha';subst hu;subst ha';exact hv
      | 1=>simp at hu ha';subst hu;subst ha';exact .lit _
      | i+2=>simp at ha'
    . simp only
      refine swp_bind' (swp_zeroValue L hte ?_);refine swp_bind' (swp_pure ?_);simp only[if_true];refine swp_pure (.here ⟨.refl k,_,σ,.tup _ _ rfl (fun i u a' hu ha'=>?_),hr,hK⟩)
      rw[hl] at ha'
      match i with
      | 0=>simp at hu ha';subst hu;subst ha';exact .zav k _
      | 1=>simp at hu ha';subst hu;subst ha';exact .lit _
      | i+2=>simp at ha'
theorem os_mapUpdate1 (M:MapK P mt kt et ft kd) (ht:L.tt ft=some i) (ha:i.agg=false) {x ix y:Operand} {b:Nat} {l:List (Int × AV)} {n:Int} {a:AV} (ho:o.op = .mapUpdate mt x ix y) (hx:aeval env x = .map b) (hi:aeval env ix=keyA kd n) (hy:aeval env y=a) (hb:σ b=some (mapA kd l)) (hn:alook l n=none)
    (hK:K (.lit undef) (σ.set b (mapA kd (l ++ [(n,a)])))):OpSem P o env σ K Kq:=fun k O ρ hρ hr=>by
    have h1:=hρ x (by simp[ho,Op.operands])
    have h2:=hρ ix (by simp[ho,Op.operands])
    have h3:=hρ y (by simp[ho,Op.operands])
    rw[hx] at h1;rw[hi] at h2;rw[hy] at h3;have he:execOp ρ o=(do Instr.mapUpdate mt (ρ x) (ρ ix) (ρ y);pure .skip):=by simp[execOp,ho]
    rw[he,h2.keyA];generalize ρ x=vx at h1;cases h1;obtain⟨es,clock,e1,e2,e3⟩:=mapA_of hr hb;unfold Instr.mapUpdate;refine swp_bind' (swp_bind' (swp_under M.hm ?_));simp only;refine swp_bind' (s:=getObj b) ⟨_,e1,rfl,swp_pure ?_⟩;simp only;refine swp_bind' (swp_checkKey1 L M ht ha ?_);refine swp_bind' (swp_findKey1 L M ht ha e2 e3 (fun a v j hl hv=>by rw[hn] at hl;cases hl) (fun _=>?_))
    simp only;refine⟨⟨_,e1,rfl⟩,rfl,swp_pure ?_⟩;refine⟨undef,.inr ⟨rfl,rfl⟩,.here ⟨.refl k,.lit undef,_,.lit _,hr.set (.map _ _ _ ?_ (fun j e p hj hp=>?_)),hK⟩⟩
    . simp;simpa using e2
    . rw [Array.getElem?_push] at hj
      rw[List.map_append] at hp
      by_cases hjl:j=es.size
      . rw[if_pos hjl] at hj
        have hle:l.length=es.size:=by rw[← e2];simp
        rw[List.getElem?_append_right (by simp;omega)] at hp
        simp only[Option.some.injEq] at hj;subst hj;have:j-(l.map fun p=>(Pal.keyA kd p.1,p.2)).length=0:=by simp;omega
        rw[this] at hp;simp at hp;subst hp;exact⟨h2.keyA ▸ h2,h3⟩
      . rw[if_neg hjl] at hj
        have hlt:j<es.size:=(Array.getElem?_eq_some_iff.1 hj).1;have hle:l.length=es.size:=by rw[← e2];simp
        rw[List.getElem?_append_left (by simp;omega),List.getElem?_map] at hp
        obtain⟨q,hq,rfl⟩:=Option.map_eq_some_iff.1 hp;obtain⟨g1,g2⟩:=e3 j e q (by simpa using hj) hq
        refine⟨?_,g2⟩;rw[g1]
        exact .agg _ _ rfl fun i u a hu ha=>by
          match i with
          | 0=>simp at hu ha;subst hu;subst ha;exact .lit _
          | i+1=>simp at ha
theorem os_makeMap {mt:Nat} (kd:IntKind) (ho:o.op = .makeMap mt none) (hK:∀ b,σ b=none->K (.map b) (σ.set b (mapA kd []))):OpSem P o env σ K Kq:=
  OpSem.val (s:=fun ρ=>Instr.makeMap mt none) (fun ρ=>by simp[execOp,ho]) fun k O ρ hρ hr=>by
    unfold Instr.makeMap;simp only;refine swp_bind' (s:=newObj _) ⟨rfl,fun r hr'=>swp_pure ?_⟩
    exact .here ⟨.made hr'.2.2,_,_,.map r,(hr.mono (.made hr'.2.2)).set (.map _ _ _ rfl fun j e p hj=>by simp at hj),hK r (hr.isNone hr'.1 hr'.2.2)⟩
end
section
variable {P:Program} (L:Lay P) {o:Oper} {env:Env} {σ:Store} {K:AV->Store->Prop} {Kp:AV->Store->Prop}
theorem kind_iface {i:TI} {d:TypeDesc} (h:kindOK P i d=true) (hk:i.kind = .iface):∃ ms,d = .interface ms:=by
  cases d <;> simp_all [kindOK]
theorem os_ifaceNil {op:BinOp} {t t2:Nat} {x:Operand} {i:TI} {isNil:Bool} (ho:o.op = .binOp op t x (.const .nilIface) t2) (ht:L.tt t=some i) (hk:i.kind = .iface)
    (hx:(aeval env x = .lit .nilIface∧isNil=true)∨(∃ d a,aeval env x = .ifc d a)∧isNil=false) {b:Bool} (hop:(op = .eql∧b=isNil)∨(op = .neq∧b = !isNil)) (hK:K (.lit (.bool b)) σ):OpSem P o env σ K Kp:=
  OpSem.val (s:=fun ρ=>do eqGuard op t x (.const .nilIface) (ρ x) (ρ (.const .nilIface));binOp op t (ρ x) (ρ (.const .nilIface))) (fun ρ=>by simp[execOp,ho]) fun k O ρ hρ hr=>by
    have h1:=hρ x (by simp[ho,Op.operands])
    have h2:=hρ (.const .nilIface) (by simp[ho,Op.operands])
    have e2:ρ (.const .nilIface) = .nilIface:=by
      simp only[aeval] at h2;generalize ρ (.const .nilIface)=w at h2;cases h2;rfl
    have e1:(ρ x = .nilIface∧isNil=true)∨∃ d v,ρ x = .iface d v∧isNil=false:=by
      rcases hx with ⟨e,h⟩|⟨⟨d,a,e⟩,h⟩ <;> rw[e] at h1
      . generalize ρ x=w at h1;cases h1;exact .inl ⟨rfl,h⟩
      . generalize ρ x=w at h1;cases h1;exact .inr ⟨_,_,rfl,h⟩
    rw[e2]
    have hg:eqGuard op t x (.const .nilIface) (ρ x) .nilIface=pure ():=by
      rcases e1 with ⟨e1,_⟩|⟨d,v,e1,_⟩ <;> rw[e1] <;> rcases hop with ⟨rfl,_⟩|⟨rfl,_⟩ <;> simp[eqGuard]
    rw[hg];refine swp_bind' (swp_pure ?_)
    have fin:∀ {s:Sem Value},s=(do pure (.bool b))->swp P s k O (fun v k' O'=>Turns k' O' fun k2 O2=>k.Le k2∧∃ a σ',V k2 v a∧Rel k2 O2 σ'∧K a σ') (fun v k' O'=>k.Le k'∧∃ a σ',V k' v a∧Rel k' O' σ'∧Kp a σ'):=fun e=>by
      rw[e];exact swp_pure (.here ⟨.refl k,_,σ,.lit _,hr,hK⟩)
    have heq:∀ (R:Bool->Know->OwnM->Prop) (Rp:Value->Know->OwnM->Prop),R isNil k O->swp P (Op.equal t (ρ x) .nilIface) k O R Rp:=fun R Rp hR=>by
      show swp P (Op.equalIn (9999+1) t (ρ x) .nilIface) k O R Rp;rw[Op.equalIn];refine swp_bind' (swp_underlying L ht fun d _ hd=>?_)
      obtain⟨ms,rfl⟩:=kind_iface hd hk
      rcases e1 with ⟨e1,rfl⟩|⟨d,v,e1,rfl⟩ <;> rw[e1] <;> exact swp_pure hR
    rcases e1 with ⟨e1,e3⟩|⟨d,v,e1,e3⟩ <;> rw[e1] at heq ⊢ <;> rcases hop with ⟨rfl,rfl⟩|⟨rfl,rfl⟩
    . exact swp_bind' (s:=Op.equal t .nilIface .nilIface) (heq _ _ (fin rfl))
    . exact swp_bind' (s:=Op.equal t .nilIface .nilIface) (heq _ _ (fin rfl))
    . exact swp_bind' (s:=Op.equal t (.iface d v) .nilIface) (heq _ _ (fin rfl))
    . exact swp_bind' (s:=Op.equal t (.iface d v) .nilIface) (heq _ _ (fin rfl))
end
end Go.Pal
