/- Part 9 of the proof. -/
import Derived.KernelRfl
import Derived.Test.YtelgggdkahhhfaaGreatDoorC8
set_option linter.all false
namespace Go.aZ
open Go.Conc
section
variable {P:Program} (L:iB P) {m:Mo}
theorem ar.start {f:FuncId} {fn:Func} {args:List AV} {σ:aa} {KF:cV->aa->Prop} {body:Code} (mu:List Nat) (hold:List Entry) (k:Nat) (hf:P.funcs[f]? = some fn) (hb:fn.body=some body) (hk:args.length=k) (hc:lQ fn k=true) (hpl:j8 hold body=true)
 (h:aT L m f fn.ntmps none mu hold 1000 [.code body] ⟨cz args,σ,[],.no⟩ (I7 L m fn.results.toList (kU KF))):ar P m f args σ KF:=by
 simp only[lQ,Bool.and_eq_true] at hc;refine ar.thaw (ar.intro L hf hb (by rw[hk];exact Nat.le_of_ble_eq_true hc.1) ?_ (Go.aT L mu hold 1000 (by simpa[jn] using hpl) h))
 have:=hc.2;simpa using this
variable {fid n:Nat} {ro:Option Nat} {hold:List Entry} {s:St} {K:Exit->St->Prop} {k:List Item}
theorem ab.run (mu:List Nat) {todo:List Item} (h:aT L m fid n ro mu hold 1000 todo s K):ab P m fid n ro hold todo s K:=fun hpl=>Go.aT L mu hold 1000 hpl h
theorem ap {f:FuncId} {fn:Func} {args:List AV} {σ:aa} {KF:cV->aa->Prop} (hf:P.funcs[f]? = some fn) (hb:fn.body.isSome=true) (hnm:(fn.name ==  "runtime.NumGoroutine")=false) (h:ar P m f args σ KF) :
 cI P m (.fn (.func f) [] []) args σ KF:=.func hf hb hnm (by simpa using h)
theorem dW {f:FuncId} {fn:Func} {first cap args args':List AV} {σ:aa} {KF:cV->aa->Prop} (hf:P.funcs[f]? = some fn) (hb:fn.body.isSome=true) (hnm:(fn.name ==  "runtime.NumGoroutine")=false) (he:first ++ args ++ cap=args') (h:ar P m f args' σ KF) :
 cI P m (.fn (.func f) first cap) args σ KF:=.func hf hb hnm (he ▸ h)
theorem ab.loop {c:Code} (N:Nat) (I:Nat->St->Prop) (h0:I 0 s)
 (hr:∀ c0 i s,i≤N->I i s->(∀ s',i<N->I (i+1) s'->ab P m fid n ro hold (.inLoop c0 :: k) s' K)->ab P m fid n ro hold (.code c :: .inLoop c0 :: k) s K):ab P m fid n ro hold (.code (.loop c) :: k) s K:=fun hpl=>by
 have hpl':∀ c0,jn hold (.code c :: .inLoop c0 :: k)=true:=fun c0=>by simpa[jn,j8] using hpl
 refine Go.loop (fun a s => ∃ i,a=N-i∧i≤N∧I i s) N ⟨0,by simp,by omega,h0⟩ ?_
 rintro c0 a s ⟨i,rfl,hi,hI⟩ ih
 exact hr c0 i s hi hI (fun s' hlt hI' _=>ih (N-(i+1)) s' (by omega) ⟨i+1,rfl,by omega,hI'⟩) (hpl' c0)
theorem ab.weaken {todo:List Item} {σ:aa} (h:ab P m fid n ro hold todo { s with σ } K) (hs:σ.Le s.σ):ab P m fid n ro hold todo s K:=fun hpl=>(h hpl).weaken hs
def CA:Option Code->Bool
 | none=>true
 | some .ret=>true
 | some (.exit _)=>true
 | _=>false
theorem ab.rangeFunc {f:Operand} {params:Array Tmp} {assign body:Code} (hf:Operand.ok n f=true)
 (h:jn hold [.code assign,.code body]=true->∀ r l,s.σ r=none->s.σ l=none->r≠l->cI P m (am s.env f) [.fn (.yield l) [] []] ((s.σ.set r (.raw (.deferred (some [])))).set l (.loop ⟨.ready,none,fid,n,s.env,params,assign,body,r⟩))
   (fun res σ'=>match res with
     | .val _ => ∃ a,σ' l=some (.loop a)∧a.state ≠ .busy∧CA a.pending=true∧ab P m fid n none hold ((a.pending.map Item.code).toList ++ k) { s with σ:=σ'.del l,D:=.mark r :: s.D } K
     | .panic v=>K (.panic v) { s with σ:=σ',D:=.mark r :: s.D })):ab P m fid n none hold (.code (.rangeFunc f params assign body) :: k) s K:=fun hpl=>by
 have h1:jn hold [.code assign,.code body]=true:=by
  simp only[jn,List.all_cons,j8,Bool.and_eq_true] at hpl ⊢;exact⟨hpl.1.1,hpl.1.2,rfl⟩
 refine Go.rangeFunc hf fun r l a b c=>(h h1 r l a b c).mono fun res σ' hr=>?_
 cases res with
 | panic v=>exact hr
 | val v=>
   obtain⟨al,e1,e2,e3,e4⟩:=hr;refine⟨al,e1,e2,e4 ?_⟩;simp only[jn,List.all_cons,Bool.and_eq_true,List.all_append] at hpl ⊢;refine⟨?_,hpl.2⟩;unfold CA at e3;split at e3 <;> rename_i hp <;> simp_all [j8]
theorem cI.uL {l:Nat} {args:List AV} {σ:aa} {KF:cV->aa->Prop} {a:lb} {fn:Func} (hok:jn hold [.code a.assign,.code a.body]=true) (hf:P.funcs[a.fn]? = some fn) (hl:σ l=some (.loop a)) (hn:args.length=a.params.size)
 (h:ab P m a.fn a.n (some l) hold [.code a.assign,.beginRound,.code a.body] ⟨gu a.env a.params.toList args,σ,[],.no⟩ (Cs l KF)):cI P m (.fn (.yield l) [] []) args σ KF:=
 .yield hf hl hn (h (by simp only[jn,List.all_cons,Bool.and_eq_true] at hok ⊢;exact⟨hok.1,trivial,hok.2⟩))
theorem ab.beginRound {l:Nat} {a:lb} (hl:s.σ l=some (.loop a)) (ha:a.state = .ready) (h:ab P m fid n (some l) hold k { s with σ:=s.σ.set l (.loop { a with state:=.busy }) } K):ab P m fid n (some l) hold (.beginRound :: k) s K:=fun hpl=>
 .beginRound hl ha (h (by simpa[jn,j8] using hpl))
theorem ab.freeze {todo:List Item} {env env':Env} {σ σ':aa} {D:List jS} {rc:Rec} (b:Nat) (l:List AV) (hb:σ b=some (.cells l)) (henv:∀ t,Fz b l (env t) (env' t)) (hs:Cv b l σ σ')
 (h:ab P m fid n ro hold todo ⟨env',σ',D,rc⟩ K):ab P m fid n ro hold todo ⟨env,σ,D,rc⟩ K:=fun hpl=>Go.freeze b l hb henv hs (h hpl)
end
theorem aa.le_refl (σ:aa):σ.Le σ:=fun _ _ h=>h
theorem aa.le_trans {a b c:aa} (h:a.Le b) (h':b.Le c):a.Le c:=fun x y e=>h' x y (h x y e)
theorem aa.fQ {σ0 σ:aa} {b:Nat} {x:iH} (h:σ0.Le σ) (hb:σ b=none):σ0.Le (σ.set b x):=fun c y hy=>by
 by_cases e:c=b
 . subst e;have:=h _ _ hy;rw[hb] at this;cases this
 . simp only[aa.set,e,if_false];exact h _ _ hy
theorem aa.gE {σ0 σ:aa} {b:Nat} {x:iH} (h:σ0.Le σ) (hb:σ0 b=none):σ0.Le (σ.set b x):=fun c y hy=>by
 by_cases e:c=b
 . subst e;rw[hb] at hy;cases hy
 . simp only[aa.set,e,if_false];exact h _ _ hy
theorem aa.i8 {σ0 σ:aa} {b:Nat} (h:σ0.Le σ) (hb:σ0 b=none):σ0.Le (σ.del b):=fun c y hy=>by
 by_cases e:c=b
 . subst e;rw[hb] at hy;cases hy
 . simp only[aa.del,e,if_false];exact h _ _ hy
theorem aa.aR {σ:aa} {b c:Nat} {x:iH} (h:(σ.set b x) c=none):c≠b∧b≠c∧σ c=none:=by
 by_cases e:c=b
 . subst e;simp[aa.set] at h
 . simp only[aa.set,e,if_false] at h
   exact⟨e,fun e'=>e e'.symm,h⟩
@[simp] theorem aa.ao (σ:aa) (b:Nat) (x:iH):(σ.set b x) b=some x:=by simp[aa.set]
theorem aa.ak (σ:aa) {b c:Nat} (x:iH) (h:c≠b):(σ.set b x) c=σ c:=by simp[aa.set,h]
@[simp] theorem aa.set_set (σ:aa) (b:Nat) (x y:iH):(σ.set b x).set b y=σ.set b y:=by funext c;by_cases e:c=b <;> simp[aa.set,e]
section
variable {P:Program} (L:iB P) (m:Mo) (fid n f:Nat) (ro:Option Nat) (mu:List Nat) (hold:List Entry)
def stepW (ops:Array Oper) (is:List Nat) (k:List Item) (dst:Option Tmp) (s:St) (K:Exit->St->Prop) (x:Out):Prop:=
 mO x (fun a σ'=>aT L m fid n ro mu hold f (.inRegion ops is :: k) { s with env:=aL s.env dst a,σ:=σ' } K) (fun a σ'=>K (.panic a) { s with σ:=σ' })
def Ji (ops:Array Oper) (is:List Nat) (k:List Item) (dst:Option Tmp) (s:St) (K:Exit->St->Prop) (σ:aa) (x:Option AV):Prop:=stepW L m fid n f ro mu hold ops is k dst s K (.opt x σ)
def dL (ops:Array Oper) (is:List Nat) (k:List Item) (dst:Option Tmp) (s:St) (K:Exit->St->Prop) (σ:aa) (c:List AV):Prop:=stepW L m fid n f ro mu hold ops is k dst s K (.new σ c)
def sz (ops:Array Oper) (i:Nat) (is:List Nat) (k:List Item) (o:Oper) (s:St) (K:Exit->St->Prop) (x:Option Bool):Prop:=
 FN x (if ln L o=true then mO (uK L mu o s.env s.σ) (fun a σ'=>aT L m fid n ro mu hold f (.inRegion ops is :: k) { s with env:=aL s.env o.dst a,σ:=σ' } K) (fun a σ'=>K (.panic a) { s with σ:=σ' })
        else if pH o.op=true then FO (P:=P) m o s.env s.σ (fun a σ'=>ab P m fid n ro hold (.inRegion ops is :: k) { s with env:=aL s.env o.dst a,σ:=σ' } K) (fun a σ' => ∀ env,K (.panic a) { s with env,σ:=σ' })
        else ab P m fid n ro hold (.inRegion ops (i :: is) :: k) s K) (aT L m fid n ro mu hold f (.inRegion ops is :: k) { s with env:=aL s.env o.dst .aO } K)
def aF (a b:Code) (k:List Item) (s:St) (K:Exit->St->Prop) (x:Bool):Prop:=pF x (aT L m fid n ro mu hold f (.code a :: k) s K) (aT L m fid n ro mu hold f (.code b :: k) s K)
def Jj (P:Program) (m:Mo) (fid n:Nat) (ro:Option Nat) (hold:List Entry) (k:List Item) (s:St) (K:Exit->St->Prop):Env->aa->Prop:=fun env σ=>ab P m fid n ro hold k { s with env,σ } K
def Jk (s:St) (K:Exit->St->Prop):AV->aa->Prop:=fun v σ => ∀ env,K (.panic v) { s with env,σ }
variable {L m fid n f ro mu hold} {s:St} {K:Exit->St->Prop} {k:List Item} {ops:Array Oper} {i:Nat} {is:List Nat} {dst:Option Tmp} {σ:aa}
@[simp] theorem Jl {env:Env}:Jj P m fid n ro hold k s K env σ=ab P m fid n ro hold k { s with env,σ } K:=propext Iff.rfl
@[simp] theorem Jm {v:AV}:Jk s K v σ = ∀ env,K (.panic v) { s with env,σ }:=propext Iff.rfl
@[simp] theorem Jn {a:AV}:stepW L m fid n f ro mu hold ops is k dst s K (.ok a σ)=aT L m fid n ro mu hold f (.inRegion ops is :: k) { s with env:=aL s.env dst a,σ:=σ } K:=propext Iff.rfl
@[simp] theorem HE {p:Prop} {x:Out}:stepW L m fid n f ro mu hold ops is k dst s K (.dV p x)=(p∧stepW L m fid n f ro mu hold ops is k dst s K x):=propext Iff.rfl
@[simp] theorem Iz {c:List AV}:stepW L m fid n f ro mu hold ops is k dst s K (.new σ c)=dL L m fid n f ro mu hold ops is k dst s K σ c:=propext Iff.rfl
@[simp] theorem IA {x:Option AV}:stepW L m fid n f ro mu hold ops is k dst s K (.opt x σ)=Ji L m fid n f ro mu hold ops is k dst s K σ x:=propext Iff.rfl
@[simp] theorem IB {a:AV}:Ji L m fid n f ro mu hold ops is k dst s K σ (some a)=aT L m fid n ro mu hold f (.inRegion ops is :: k) { s with env:=aL s.env dst a,σ:=σ } K:=propext Iff.rfl
theorem dL.intro {c:List AV} (h:∀ b,σ b=none->aT L m fid n ro mu hold f (.inRegion ops is :: k) { s with env:=aL s.env dst (.ref b 0),σ:=σ.set b (.cells c) } K):dL L m fid n f ro mu hold ops is k dst s K σ c:=h
@[simp] theorem Jo {o:Oper}:sz L m fid n f ro mu hold ops i is k o s K (some true)=(if ln L o=true then stepW L m fid n f ro mu hold ops is k o.dst s K (uK L mu o s.env s.σ)
   else if pH o.op=true then FO (P:=P) m o s.env s.σ (fun a σ'=>ab P m fid n ro hold (.inRegion ops is :: k) { s with env:=aL s.env o.dst a,σ:=σ' } K) (fun a σ' => ∀ env,K (.panic a) { s with env,σ:=σ' })
   else ab P m fid n ro hold (.inRegion ops (i :: is) :: k) s K):=by unfold sz;rw[j9,kw];rfl
@[simp] theorem IC {o:Oper}:sz L m fid n f ro mu hold ops i is k o s K (some false)=aT L m fid n ro mu hold f (.inRegion ops is :: k) { s with env:=aL s.env o.dst .aO } K:=by unfold sz;rw[j9,jv]
theorem sz.intro {o:Oper} {x:Bool} (h1:x=true->sz L m fid n f ro mu hold ops i is k o s K (some true)) (h2:x=false->sz L m fid n f ro mu hold ops i is k o s K (some false)):sz L m fid n f ro mu hold ops i is k o s K (some x):=by cases x with|true=>exact h1 rfl|false=>exact h2 rfl
@[simp] theorem HF {a b:Code}:aF L m fid n f ro mu hold a b k s K true=aT L m fid n ro mu hold f (.code a :: k) s K:=by unfold aF;rw[kw]
@[simp] theorem G3 {a b:Code}:aF L m fid n f ro mu hold a b k s K false=aT L m fid n ro mu hold f (.code b :: k) s K:=by unfold aF;rw[jv]
@[simp] theorem ID {a b:Code} {x:Bool}:aF L m fid n f ro mu hold a b k s K (!x)=aF L m fid n f ro mu hold b a k s K x:=by cases x <;> simp
theorem aF.intro {a b:Code} {x:Bool} (h1:x=true->aT L m fid n ro mu hold f (.code a :: k) s K) (h2:x=false->aT L m fid n ro mu hold f (.code b :: k) s K):aF L m fid n f ro mu hold a b k s K x:=⟨h1,h2⟩
@[simp] theorem Jp  : aT L m fid n ro mu hold (f+1) ([]) s K=K (.leave none) s:=propext Iff.rfl
@[simp] theorem Jq  : aT L m fid n ro mu hold (f+1) (.code .ret :: k) s K=K (.leave (some .ret)) s:=propext Iff.rfl
@[simp] theorem IE  : aT L m fid n ro mu hold (f+1) (.code .skip :: k) s K=aT L m fid n ro mu hold f k s K:=propext Iff.rfl
@[simp] theorem HG {l:Nat}:aT L m fid n ro mu hold (f+1) (.code (.label l) :: k) s K=aT L m fid n ro mu hold f k s K:=propext Iff.rfl
@[simp] theorem FQ {id:Nat}:aT L m fid n ro mu hold (f+1) (.inBlock id :: k) s K=aT L m fid n ro mu hold f k s K:=propext Iff.rfl
@[simp] theorem Jr {a b:Code}:aT L m fid n ro mu hold (f+1) (.code (.seq a b) :: k) s K=aT L m fid n ro mu hold f (.code a :: .code b :: k) s K:=propext Iff.rfl
@[simp] theorem HH {id:Nat} {c:Code}:aT L m fid n ro mu hold (f+1) (.code (.block id c) :: k) s K=aT L m fid n ro mu hold f (.code c :: .inBlock id :: k) s K:=propext Iff.rfl
@[simp] theorem HI {c:Code}:aT L m fid n ro mu hold (f+1) (.code (.scope c) :: k) s K=aT L m fid n ro mu hold f (.code c :: .inScope c :: k) s K:=propext Iff.rfl
@[simp] theorem IF {id:Nat}:aT L m fid n ro mu hold (f+1) (.code (.exit id) :: k) s K=(match exitTo id k with
   | some k'=>aT L m fid n ro mu hold f k' s K
   | none=>K (.leave (some (.exit id))) s):=propext Iff.rfl
@[simp] theorem IG {c:Operand} {a b:Code}:aT L m fid n ro mu hold (f+1) (.code (.cond c a b) :: k) s K=(Operand.ok n c=true∧(match am s.env c with
   | .lit (.bool x)=>aF L m fid n f ro mu hold a b k s K x
   | _=>False)):=propext Iff.rfl
@[simp] theorem G4 {id:Nat}:aT L m fid n ro mu hold (f+1) (.code (.region id ops false) :: k) s K=aT L m fid n ro mu hold f (.inRegion ops (List.range ops.size) :: k) s K:=propext Iff.rfl
@[simp] theorem II {id:Nat}:aT L m fid n ro mu hold (f+1) (.code (.region id ops true) :: k) s K=(match hold.find? fun e=>e.id == id with
   | some ⟨_,p⟩=>fa L m mu ops n (Jk s K) p s.env s.σ (Jj P m fid n ro hold k s K)
   | none=>ab P m fid n ro hold (.code (.region id ops true) :: k) s K):=propext Iff.rfl
@[simp] theorem CB  : aT L m fid n ro mu hold (f+1) (.inRegion ops [] :: k) s K=aT L m fid n ro mu hold f k s K:=propext Iff.rfl
@[simp] theorem FA  : aT L m fid n ro mu hold (f+1) (.inRegion ops (i :: is) :: k) s K=(match ops[i]? with
   | some o=>Oper.ok n o=true∧sz L m fid n f ro mu hold ops i is k o s K (qR ops n s.env o)
   | none=>ab P m fid n ro hold (.inRegion ops (i :: is) :: k) s K):=propext Iff.rfl
@[simp] theorem IJ {c:Code}:aT L m fid n ro mu hold (f+1) (.code (.loop c) :: k) s K=ab P m fid n ro hold (.code (.loop c) :: k) s K:=propext Iff.rfl
@[simp] theorem G5 {c:Code}:aT L m fid n ro mu hold (f+1) (.inLoop c :: k) s K=ab P m fid n ro hold (.inLoop c :: k) s K:=propext Iff.rfl
@[simp] theorem CC {x:Operand} {ps:Array Tmp} {c d:Code}:aT L m fid n ro mu hold (f+1) (.code (.rangeFunc x ps c d) :: k) s K=ab P m fid n ro hold (.code (.rangeFunc x ps c d) :: k) s K:=propext Iff.rfl
@[simp] theorem Cd  : aT L m fid n ro mu hold (f+1) (.beginRound :: k) s K=ab P m fid n ro hold (.beginRound :: k) s K:=propext Iff.rfl
end
section
variable {P:Program} (L:iB P) (m:Mo) (n:Nat) (mu:List Nat) (ops:Array Oper) (Kp:AV->aa->Prop) (R:Env->aa->Prop)
def qT (lt:Bool) (σ:aa) (p:iI) (S:List Nat) (env:Env):Prop:=xY L mu ops n lt σ (fun env1=>fa L m mu ops n Kp p env1 σ R) .mk S env
def v5 (lt:Bool) (σ:aa) (p:iI) (S:List Nat) (dst:Option Tmp) (env:Env) (x:Option AV):Prop:=sx x fun a=>qT L m n mu ops Kp R lt σ p S (aL env dst a)
def FB (lt:Bool) (σ:aa) (p:iI) (S:List Nat) (o:Oper) (env:Env) (x:Option Bool):Prop:=
 FN x (v5 L m n mu ops Kp R lt σ p S o.dst env (xX L mu lt o env σ)) (qT L m n mu ops Kp R lt σ p S (aL env o.dst .aO))
def pI (p:iI) (dst:Option Tmp) (env:Env) (x:Out):Prop:=mO x (fun a σ'=>fa L m mu ops n Kp p (aL env dst a) σ' R) Kp
def Js (p:iI) (dst:Option Tmp) (env:Env) (σ:aa) (x:Option AV):Prop:=pI L m n mu ops Kp R p dst env (.opt x σ)
def x4 (p:iI) (dst:Option Tmp) (env:Env) (σ:aa) (c:List AV):Prop:=pI L m n mu ops Kp R p dst env (.new σ c)
def IK (i:Nat) (p:iI) (o:Oper) (env:Env) (σ:aa) (x:Option Bool):Prop:=
 FN x (if ln L o=true then mO (uK L mu o env σ) (fun a σ'=>fa L m mu ops n Kp p (aL env o.dst a) σ' R) Kp else
    if pH o.op=true then FO (P:=P) m o env σ (fun a σ'=>bk P m ops n Kp p (aL env o.dst a) σ' R) Kp else mM P m ops n Kp i env σ (fun env σ=>bk P m ops n Kp p env σ R)) (fa L m mu ops n Kp p (aL env o.dst .aO) σ R)
variable {L m n mu ops Kp R} {i:Nat} {lt:Bool} {env:Env} {σ:aa} {p q:iI} {S:List Nat} {dst:Option Tmp}
@[simp] theorem IL:fa L m mu ops n Kp .done env σ R=R env σ:=propext Iff.rfl
@[simp] theorem IM:fa L m mu ops n Kp (.take S lt p) env σ R=qT L m n mu ops Kp R lt σ p S env:=propext Iff.rfl
@[simp] theorem Jt:fa L m mu ops n Kp (.one i p) env σ R=(match ops[i]? with|some o=>Oper.ok n o=true∧IK L m n mu ops Kp R i p o env σ (qR ops n env o) | none=>False):=propext Iff.rfl
@[simp] theorem IN:fa L m mu ops n Kp (.both i p q) env σ R=((match ops[i]? with|some o=>Oper.ok n o=true∧IK L m n mu ops Kp R i p o env σ (qR ops n env o) | none=>False)∧fa L m mu ops n Kp q env σ R):=propext Iff.rfl
@[simp] theorem IP:qT L m n mu ops Kp R lt σ p [] env=fa L m mu ops n Kp p env σ R:=propext Iff.rfl
@[simp] theorem HJ:qT L m n mu ops Kp R lt σ p (i :: S) env=(match ops[i]? with|some o=>(Oper.ok n o && o.dst.isSome)=true∧FB L m n mu ops Kp R lt σ p S o env (qR ops n env o) | none=>False):=propext Iff.rfl
@[simp] theorem IQ {a:AV}:v5 L m n mu ops Kp R lt σ p S dst env (some a)=qT L m n mu ops Kp R lt σ p S (aL env dst a):=by unfold v5;rw[Ah]
@[simp] theorem IR:v5 L m n mu ops Kp R lt σ p S dst env none=False:=by unfold v5;rw[Ai]
@[simp] theorem KR {c:Prop} [Decidable c] {x:Option AV}:v5 L m n mu ops Kp R lt σ p S dst env (if c then x else none)=(c∧v5 L m n mu ops Kp R lt σ p S dst env x):=by by_cases h:c <;> simp[h]
@[simp] theorem Ju {o:Oper}:FB L m n mu ops Kp R lt σ p S o env (some true)=v5 L m n mu ops Kp R lt σ p S o.dst env (xX L mu lt o env σ):=by unfold FB;rw[j9,kw]
@[simp] theorem IS {o:Oper}:FB L m n mu ops Kp R lt σ p S o env (some false)=qT L m n mu ops Kp R lt σ p S (aL env o.dst .aO):=by unfold FB;rw[j9,jv]
theorem FB.intro {o:Oper} {x:Bool} (h1:x=true->FB L m n mu ops Kp R lt σ p S o env (some true)) (h2:x=false->FB L m n mu ops Kp R lt σ p S o env (some false)):FB L m n mu ops Kp R lt σ p S o env (some x):=by cases x with|true=>exact h1 rfl|false=>exact h2 rfl
@[simp] theorem Jv {a:AV}:pI L m n mu ops Kp R p dst env (.ok a σ)=fa L m mu ops n Kp p (aL env dst a) σ R:=propext Iff.rfl
@[simp] theorem HK {c:Prop} {x:Out}:pI L m n mu ops Kp R p dst env (.dV c x)=(c∧pI L m n mu ops Kp R p dst env x):=propext Iff.rfl
@[simp] theorem IT {c:List AV}:pI L m n mu ops Kp R p dst env (.new σ c)=x4 L m n mu ops Kp R p dst env σ c:=propext Iff.rfl
@[simp] theorem IU {x:Option AV}:pI L m n mu ops Kp R p dst env (.opt x σ)=Js L m n mu ops Kp R p dst env σ x:=propext Iff.rfl
@[simp] theorem IV {a:AV}:Js L m n mu ops Kp R p dst env σ (some a)=fa L m mu ops n Kp p (aL env dst a) σ R:=propext Iff.rfl
theorem x4.intro {c:List AV} (h:∀ b,σ b=none->fa L m mu ops n Kp p (aL env dst (.ref b 0)) (σ.set b (.cells c)) R):x4 L m n mu ops Kp R p dst env σ c:=h
@[simp] theorem Jw {o:Oper}:IK L m n mu ops Kp R i p o env σ (some true)=(if ln L o=true then pI L m n mu ops Kp R p o.dst env (uK L mu o env σ) else
   if pH o.op=true then FO (P:=P) m o env σ (fun a σ'=>bk P m ops n Kp p (aL env o.dst a) σ' R) Kp else mM P m ops n Kp i env σ (fun env σ=>bk P m ops n Kp p env σ R)):=by unfold IK;rw[j9,kw];rfl
@[simp] theorem IW {o:Oper}:IK L m n mu ops Kp R i p o env σ (some false)=fa L m mu ops n Kp p (aL env o.dst .aO) σ R:=by unfold IK;rw[j9,jv]
end
@[simp] theorem HL {l c:List AV} (h:c.length=l.length):bt l 0 c=c:=by
  unfold bt;simp[h]
@[simp high] theorem qU {l:List AV} {off:Nat} {v:AV} (h:off<l.length):bt l off [v]=l.set off v:=by
  unfold bt;rw[List.set_eq_take_append_cons_drop,if_pos h];simp
attribute [simp] xX p9 jY qM uK ln qR pH FO FM xW Function.comp_def
def qV (P:Program) (t:TypeId) (name:String) (f:FuncId) (a a':AV):Prop:=
 ∀ k O v (K:FuncId × Value->ag->ah->Prop) Kp,V k v a->(∀ r,V k r a'->K (f,r) k O)->dm P (method (P.types.size+Made.depth) t v name) k O K Kp
section
variable {P:Program} {m:Mo} {fid n:Nat} {ro:Option Nat} {hold:List Entry} {s:St} {K:Exit->St->Prop} {k:List Item}
theorem sA {name:String} {recv:Value} {c ra:Array Value}:Go.invoke (.fn (.method name) c) (#[recv] ++ ra)=callMethod recv name ra:=by
 have h1:(#[recv] ++ ra)[0]? = some recv:=by rw[Array.getElem?_append_left (by simp)];rfl
 have h2:(#[recv] ++ ra).extract 1 (#[recv] ++ ra).size=ra:=by
  apply Array.ext';rw[Array.toList_extract];simp[List.extract];rw[← Array.length_toList,List.take_length]
 simp only[Go.invoke,h1,h2]
theorem ab.invoke {ops:Array Oper} {i:Nat} {is:List Nat} {o:Oper} {recv:Operand} {name:String} {args:Array Operand} {tys:Array TypeId} {t f:Nat} {a a':AV} {fn:Func} (ho:ops[i]? = some o) (hop:o.op = .call ⟨.invoke recv name,args,tys⟩) (hg:o.guard=none) (hok:Oper.ok n o=true)
 (hr:am s.env recv = .kZ t a) (hm:qV P t name f a a') (hf:P.funcs[f]? = some fn) (hb:fn.body.isSome=true) (hnm:(fn.name ==  "runtime.NumGoroutine")=false)
 (h:ar P m f (a' :: args.toList.map (am s.env)) s.σ (fun r σ'=>match r with | .val x=>ab P m fid n ro hold (.inRegion ops is :: k) { s with env:=aL s.env o.dst x,σ:=σ' } K | .panic v=>K (.panic v) { s with σ:=σ' })) :
 ab P m fid n ro hold (.inRegion ops (i :: is) :: k) s K:=fun hpl Q kk O tmps defs kind cs h1 h2 h3=>by
 have hw:bj ops n s.env o:=by unfold bj;rw[hg];trivial
 refine T.lN (fun w=>cK ho (fj h2.size h2.env hw) (.inr fun c e=>by rw[hop] at e;cases e) w) (dq ?_)
 have hops:∀ x∈o.op.operands,V kk (Frame.eval ⟨fid,tmps,.inRegion ops (i :: is) :: k,defs,.run,kind,ro⟩ x) (am s.env x):=fun x hx=>by
  refine V.eval h2.env h2.size x ?_;simp only[Oper.ok,Bool.and_eq_true,Array.all_eq_true_iff_forall_mem] at hok;exact hok.1 x hx
 have hv:=hops recv (by simp[hop,Op.operands,Call.operands])
 rw[hr] at hv;have hargs:=Vs.ofArray (k:=kk) (ρ:=Frame.eval ⟨fid,tmps,.inRegion ops (i :: is) :: k,defs,.run,kind,ro⟩) (env:=s.env) (xs:=args) (fun x hx=>hops x (by simp[hop,Op.operands,Call.operands,hx]))
 generalize hq:Frame.eval _ recv=cf at hv;cases hv with
 | kZ _ v _ hva=>
   simp only[execOp,hop,resolve,hq];refine af (ai ?_);rw[sA];unfold callMethod;simp only;refine af (cJ ?_);refine af (hm kk O v _ _ hva fun r hra=>?_)
   simp only[callFunc];refine af (cJ ?_);rw[hf];have hb':fn.body.isNone=false:=by cases hx:fn.body <;> simp_all
   simp only[hnm,hb',Bool.false_eq_true,if_false];refine ai fun _=>⟨by simp,?_⟩
   have e : #[r] ++ args.map (Frame.eval ⟨fid,tmps,.inRegion ops (i :: is) :: k,defs,.run,kind,ro⟩)=(r :: (args.map (Frame.eval ⟨fid,tmps,.inRegion ops (i :: is) :: k,defs,.run,kind,ro⟩)).toList).toArray:=by simp
   rw[e];refine h Q kk O _ ⟨fid,tmps,.inRegion ops (i :: is) :: k,defs,.run,kind,ro⟩ (dK s.rc cs) .normal (by simp) (.cons hra ⟨by simpa using hargs.1,fun j v a hv ha=>hargs.2 j v a (by simpa using hv) ha⟩) h2.rel ?_ ?_
   . intro k' O' cv av σ' hle hcv hr' hK
     obtain⟨tmps',e1,e2⟩:=h2.put (fid:=fid) (ro:=ro) (rest:=is) (kk:=k) hle ho hcv hr';show T P m Q k' O' (G (Frame.finish ⟨fid,tmps,.inRegion ops (i :: is) :: k,defs,.run,kind,ro⟩ cv) (dK s.rc cs));rw[e1];exact hK (by simpa[jn,j8] using hpl) Q k' O' tmps' defs kind cs h1 e2 (h3.mono hle)
   . intro k' O' cv av σ' hle hcv hr' hK
     exact h3.panic k' O' tmps defs { s with σ:=σ' } _ cv av hle ⟨h2.size,h2.env.mono hle,hr',h2.ds.mono hle,h2.rc.mono hle⟩ hcv hK
theorem dg {ops:Array Oper} {env:Env} {o:Oper} (hg:o.guard=none):bj ops n env o:=by unfold bj;rw[hg];trivial
theorem ab.defer {ops:Array Oper} {i:Nat} {is:List Nat} {o:Oper} {fo:Operand} {args:Array Operand} {tys:Array TypeId} {f:Fn} {first cap:List AV} (hro:ro=none) (ho:ops[i]? = some o) (hop:o.op = .defer ⟨.value fo,args,tys⟩) (hg:o.guard=none) (hok:Oper.ok n o=true)
 (hfo:am s.env fo = .fn f first cap) (h:ab P m fid n ro hold (.inRegion ops is :: k) { s with env:=aL s.env o.dst .aO,D:=.call f cap (first ++ args.toList.map (am s.env)) :: s.D } K):ab P m fid n ro hold (.inRegion ops (i :: is) :: k) s K:=
 fun hpl=>Go.defer hro ho hop (dg hg) hok hfo (h (by simpa[jn,j8] using hpl))
end
def zf (F F':Nat->Prop) (σ σ':aa):Prop := ∀ b x,¬ F b->σ b=some x->σ' b=some x ∧ ¬ F' b
def gF:AV->Option Nat
 | .sl _ _ (.tok b _)=>some b
 | _=>none
def aa.off (σ:aa) (a:AV):aa:=match gF a with|some b=>σ.del b|none=>σ
theorem Tok.here {σ0 σ:aa} {a:AV} {kk:Nat} {es:List AV} (h:Tok σ0 σ a kk es):Tok (σ.off a) σ a kk es∧σ0.Le (σ.off a):=by
 obtain⟨h1,h2⟩:=h
 rcases h2 with ⟨rfl,rfl⟩|rfl|⟨b,e,h3,rfl,h4⟩
 . exact⟨⟨aa.le_refl _,.inl ⟨rfl,rfl⟩⟩,h1⟩
 . exact⟨⟨aa.le_refl _,.inr (.inl rfl)⟩,h1⟩
 . refine⟨⟨fun c x hx=>?_,.inr (.inr ⟨b,e,by simp[aa.off,gF,aa.del],rfl,h4⟩)⟩,fun c x hx=>?_⟩
   . simp only[aa.off,gF,aa.del] at hx
     split at hx
     . cases hx
     . exact hx
   . have hc:c≠b:=fun e=>by subst e;rw[h3] at hx;cases hx
     simp only[aa.off,gF,aa.del,hc,if_false];exact h1 c x hx
theorem Tok.base {σ0 σ1 σ:aa} {a:AV} {kk:Nat} {es:List AV} (h:Tok σ1 σ a kk es) (h0:σ0.Le σ1):Tok σ0 σ a kk es:=by
 obtain⟨h1,h2⟩:=h;refine⟨aa.le_trans h0 h1,?_⟩
 rcases h2 with h|h|⟨b,e,h3,h4,h5⟩
 . exact .inl h
 . exact .inr (.inl h)
 . refine .inr (.inr ⟨b,e,?_,h4,h5⟩)
   cases hb:σ0 b with
   | none=>rfl
   | some x=>have:=h0 b x hb;rw[h3] at this;cases this
theorem Tok.beside {σ0 σ:aa} {a:AV} {kk:Nat} {es:List AV} (h:Tok σ0 σ a kk es) {b:Nat} {x:iH} (hb:σ0 b=none) (ht:gF a≠some b):Tok σ0 (σ.set b x) a kk es:=by
 obtain⟨h1,h2⟩:=h;refine⟨aa.gE h1 hb,?_⟩
 rcases h2 with h|h|⟨c,e,h3,rfl,h5⟩
 . exact .inl h
 . exact .inr (.inl h)
 . refine .inr (.inr ⟨c,e,h3,rfl,?_⟩)
   have hc:c≠b:=fun e=>ht (by simp[gF,e])
   rw[aa.ak _ _ hc];exact h5
theorem Tok.dO {σ0 σ:aa} {a:AV} {kk:Nat} {es:List AV} (h:Tok σ0 σ a kk es) {b:Nat} (hb:gF a=some b):σ0 b=none∧∃ e,σ b=some (.tail e):=by
 obtain⟨h1,h2⟩:=h
 rcases h2 with ⟨rfl,rfl⟩|rfl|⟨c,e,h3,rfl,h5⟩
 . cases hb
 . cases hb
 . simp only[gF,Option.some.injEq] at hb
   subst hb;exact⟨h3,e,h5⟩
theorem Tok.cells {σ0 σ:aa} {a:AV} {kk:Nat} {es:List AV} (h:Tok σ0 σ a kk es):a.cells=[a]∧a.flat=true:=by
 obtain⟨_,h2⟩:=h
 rcases h2 with ⟨rfl,rfl⟩|rfl|⟨c,e,h3,rfl,h5⟩ <;> exact⟨rfl,rfl⟩
theorem aa.mP {σ:aa} {a:AV} {b:Nat} (h:gF a≠some b):σ.off a b=σ b:=by
 unfold aa.off;cases hc:gF a with
 | none=>rfl
 | some c=>
   have:b≠c:=fun e=>h (by rw[hc,e])
   simp[aa.del,this]
inductive Wl:List AV->List AV->Prop
 | nil:Wl [] []
 | cons {a a':AV} {l l':List AV}:a.W a'->Wl l l'->Wl (a :: l) (a' :: l')
theorem Wl.len {l l':List AV} (h:Wl l l'):l.length=l'.length:=by
 induction h with
 | nil=>rfl
 | cons _ _ ih=>simp[ih]
theorem Wl.at {l l':List AV} (h:Wl l l'):∀ {i:Nat} {a':AV},l'[i]? = some a'->∃ a,l[i]? = some a∧a.W a':=by
 induction h with
 | nil=>intro i a' h;simp at h
 | @cons a b l l' h1 h2 ih=>
   intro i a' h;cases i with
   | zero=>simp at h;subst h;exact⟨a,by simp,h1⟩
   | succ i=>simpa using ih (by simpa using h)
theorem Vs.zg {k:ag} {c:List Value} {l l':List AV} (h:Vs k c l) (hw:Wl l l'):Vs k c l':=⟨by rw[h.1,hw.len],fun i v a hv ha=>by
 obtain⟨b,hb,hba⟩:=hw.at ha;exact hba k v (h.2 i v b hv hb)⟩
theorem ar.zg {P:Program} {m:Mo} {f:FuncId} {args args':List AV} {σ:aa} {KF:cV->aa->Prop} (h:ar P m f args' σ KF) (hw:Wl args args'):ar P m f args σ KF:=
 fun Q k O cargs c rest kind hk hv hr h1 h2=>h Q k O cargs c rest kind hk (hv.zg hw) hr h1 h2
theorem bD {P:Program} {m:Mo} {f:FuncId} {fn:Func} {args args':List AV} {σ:aa} {KF:cV->aa->Prop} (hf:P.funcs[f]? = some fn) (hb:fn.body.isSome=true) (hnm:(fn.name ==  "runtime.NumGoroutine")=false) (hw:Wl args args') (h:ar P m f args' σ KF) :
 cI P m (.fn (.func f) [] []) args σ KF:=ap hf hb hnm (h.zg hw)
def ag.CD (k:ag) (r:Nat) (c:Array Value) (f:Nat->Option Value):ag:={ k with cell:=fun b j=>if b=r∧f j=none then c[j]? else k.cell b j }
theorem x5 {k:ag} {O:ah} {r:Nat} {c:Array Value} {e:TypeId} {f:Nat->Option Value} (ho:O r=some (.obj (.cells c e (0,0)))) (hs:k.sh r=some (e,c.size)) (hf:∀ i v,f i=some v->c[i]? = some v):iZ k O (k.CD r c f) (O.set r (.part f)):=fun w h=>by
 have hw:=h.obj _ _ ho
 have hno:∀ j,k.cell r j=none:=fun j=>by
  cases q:k.cell r j with
  | none=>rfl
  | some v=>exact (h.apart _ _ _ q (.inl ⟨_,ho⟩)).elim
 have hle:k.Le (k.CD r c f):=⟨fun b i v hv=>by
  have : ¬ (b=r∧f i=none):=fun x=>by rw[x.1,hno] at hv;cases hv
  simpa[ag.CD,this] using hv,fun _ _ h=>h⟩
 have hset:∀ b,b≠r->(O.set r (.part f)) b=O b:=fun b hb=>by simp[ah.set,hb]
 have hsetr:(O.set r (.part f)) r=some (.part f):=by simp[ah.set]
 refine⟨⟨fun b i v hv hc=>?_,fun b i v hv=>?_,h.sh,fun b o hb=>?_,fun b m hb=>?_,fun b g hb=>?_⟩,⟨hle,Nat.le_refl _,fun _ _ _=>rfl,fun _ _ _ _ c _ h=>⟨c,h,rfl,fun _ _=>rfl⟩,fun _ _ _ _ c _ h=>⟨c,h,rfl,fun _ _=>rfl⟩,fun _ _=>rfl,fun b x hx=>?_,fun b i v hv=>?_,fun _ _ h => .inl h,by simp,rfl,rfl,rfl,by simp,fun b g hb=>?_⟩⟩
 . by_cases hb:b=r
   . subst hb
     rcases hc with ⟨o,h1⟩|⟨m,h1,h2⟩|⟨g,h1,h2⟩
     . rw[hsetr] at h1;cases h1
     . rw[hsetr] at h1;cases h1
     . rw[hsetr] at h1;cases h1
       simp only[ag.CD,true_and] at hv;rw[if_neg h2,hno] at hv;cases hv
   . have hv':k.cell b i=some v:=by simpa[ag.CD,hb] using hv
     exact h.apart b i v hv' (by simpa[aG,ah.set,hb] using hc)
 . by_cases hb:b=r∧f i=none
   . obtain⟨rfl,hi⟩:=hb
     simp only[ag.CD,hi,and_self,if_true] at hv;simp[World.cell?,hw,hv]
   . exact h.cell b i v (by simpa only [ag.CD,hb,if_false] using hv)
 . by_cases hbr:b=r
   . subst hbr;rw[hsetr] at hb;cases hb
   . exact h.obj b o (by rw[hset b hbr] at hb;exact hb)
 . by_cases hbr:b=r
   . subst hbr;rw[hsetr] at hb;cases hb
   . exact h.tail b m (by rw[hset b hbr] at hb;exact hb)
 . by_cases hbr:b=r
   . subst hbr;rw[hsetr] at hb;cases hb
     exact⟨c,e,hw,hs,hf⟩
   . exact h.part b g (by rw[hset b hbr] at hb;exact hb)
 . by_cases hbr:b=r
   . subst hbr;exact .inl ⟨_,ho,trivial⟩
   . rw[hset b hbr] at hx;exact .inl ⟨x,hx,.refl x⟩
 . by_cases hb:b=r∧f i=none
   . obtain⟨rfl,_⟩:=hb;exact .inr (.inl (.inl ⟨_,ho⟩))
   . exact .inl (by simpa only [ag.CD,hb,if_false] using hv)
 . have hbr:b≠r:=fun q=>by rw[q,ho] at hb;cases hb
   exact⟨g,by rw[hset b hbr];exact hb⟩
section
variable {P:Program} {m:Mo} {Q:ag->ah->Goroutine->Prop} {k:ag} {O:ah} {g:Goroutine} {σ:aa}
theorem T.part {r:Nat} {c:Array Value} {e:TypeId} {f:Nat->Option Value} (ho:O r=some (.obj (.cells c e (0,0)))) (hf:∀ i v,f i=some v->c[i]? = some v) (hrun:g.status = .running)
 (h:∀ k' O',k.Le k'->k'.sh r=some (e,c.size)->(∀ j v,f j=none->c[j]? = some v->k'.cell r j=some v)->O'=O.set r (.part f)->T P m Q k' O' g):T P m Q k O g:=by
 by_cases hsat:∃ w,Sat k O w
 . obtain⟨w,hw⟩:=hsat
   have h1:=(gV (k:=k) ho w hw).2.le;have hg:=x5 (k:=k.cD r (e,c.size)) (f:=f) ho (by simp[ag.cD]) hf
   have hle:(k.cD r (e,c.size)).Le ((k.cD r (e,c.size)).CD r c f):=(hg w (gV (k:=k) ho w hw).1).2.le;exact .ghost (gV ho) (.ghost hg (h _ _ (h1.trans hle) (by simp[ag.CD,ag.cD]) (fun j v hj hv=>by simp[ag.CD,hj,hv]) rfl))
 . exact .step (fun _ _ _=>False) hrun (fun _ _ _ h=>h.elim) fun w hw=>absurd ⟨w,hw⟩ hsat
theorem T.Jx {b:Nat} {l:List AV} {hole:List Nat} {f:Nat->Option Value} (hr:Rel k O σ) (hb:σ b=some (.cells l)) (hf:∀ i v,f i=some v->l[i]? = some (.lit v)) (hh:∀ i,f i=none ↔ i ∉ hole) (hrun:g.status = .running)
 (h:∀ k' O',k.Le k'->(∀ off,V k' (.pointer (some ⟨b,off,none⟩)) (.kp b l hole off))->Rel k' O' (σ.set b (.part f))->T P m Q k' O' g):T P m Q k O g:=by
 obtain⟨y,hO,hy⟩:=hr.1 b _ hb (by simp)
 cases hy with
 | cells c e _ g1 g2 g3=>
   refine T.part (f:=f) hO (fun i v hi=>?_) hrun fun k' O' hle hsh hc hO'=>?_
   . have hl:=hf i v hi
     have hlt:i<c.size:=by rw[g1];exact (List.getElem?_eq_some_iff.1 hl).1
     have hv:=g2 i c[i] _ (by simp[hlt]) hl
     have:c[i]=v:=by
      generalize c[i]=u at hv;cases hv;rfl
     simp[hlt,this]
   . refine h k' O' hle (fun off => .kp b off c.size e l hole (fun j=>c.getD j undef) hsh (by omega) (fun j hj hn=>?_) (fun j a hn ha=>?_)) ?_
     . have hlt:j<c.size:=by omega
       refine⟨?_,?_⟩
       . rw[hc j c[j] ((hh j).2 hn) (by simp[hlt])]
         simp[Array.getD,hlt]
       . simp only[Array.getD,hlt,dif_pos]
         exact g3 j _ (by simp[hlt])
     . have hlt:j<c.size:=by rw[g1];exact (List.getElem?_eq_some_iff.1 ha).1
       simp only[Array.getD,hlt,dif_pos];exact (g2 j _ a (by simp[hlt]) ha).mono hle
     . rw[hO']
       exact (hr.mono hle).set (.part f)
theorem ar.share {f:FuncId} {args:List AV} {KF KF0:cV->aa->Prop} (h:ar P m f args σ KF0)
 (hc:∀ r σ',KF0 r σ'->KF r σ'∨∃ b l hole F,r = .val (.ref b 0)∧σ' b=some (.cells l)∧(∀ i v,F i=some v->l[i]? = some (.lit v))∧(∀ i,F i=none ↔ i ∉ hole)∧KF (.val (.kp b l hole 0)) (σ'.set b (.part F))):ar P m f args σ KF:=by
 intro Q k O cargs c rest kind h1 h2 h3 h4 h5;refine h Q k O cargs c rest kind h1 h2 h3 (fun k' O' cv av σ' hle hv hr hK=>?_) (fun k' O' cv av σ' hle hv hr hK=>?_)
 . rcases hc _ _ hK with hK|⟨b,l,hole,F,e,hb,hF,hh,hK2⟩
   . exact h4 _ _ _ _ _ hle hv hr hK
   . cases e
     cases hv;exact T.Jx hr hb hF hh (by cases kind <;> rfl) fun k2 O2 hle2 hvv hrr=>h4 _ _ _ _ _ (hle.trans hle2) (hvv 0) hrr hK2
 . rcases hc _ _ hK with hK|⟨b,l,hole,F,e,_⟩
   . exact h5 _ _ _ _ _ hle hv hr hK
   . cases e
end
structure Aj (P:Program) (mt kt et ft:Nat) (kd:IntKind):Prop where
 hm:P.underlying mt=some (.map kt et)
 hk:∃ f,P.underlying kt=some (.struct #[f])∧(f.name ≠  "_")∧f.type=ft∧f.offset=0
 hf:P.underlying ft=some (.int kd)
 hs:P.stoodInHeld kt=false
def qW (kd:IntKind) (n:Int):AV:=.agg [.lit (.int kd n)]
def mapA (kd:IntKind) (l:List (Int × AV)):iH:=.map (l.map fun p=>(qW kd p.1,p.2))
section
variable {P:Program} (L:iB P) {k:ag} {O:ah} {Kp:Value->ag->ah->Prop} {mt kt et ft:Nat} {kd:IntKind}
theorem gI {K:TypeDesc->ag->ah->Prop} {t:Nat} {d:TypeDesc} (h1:P.underlying t=some d) (h:K d k O):dm P (underlying t) k O K Kp:=by
 unfold underlying;refine af (cJ ?_);rw[h1];exact h
theorem oA {K:Value->ag->ah->Prop} {i:TI} {v:Value} (ht:L.tt ft=some i) (ha:i.agg=false) (h:K v k O):dm P (part ft #[v] 0) k O K Kp:=by
 unfold part;refine af (ov L ht ?_);rw[ha];exact ai h
variable (M:Aj P mt kt et ft kd) {i:TI} (ht:L.tt ft=some i) (ha:i.agg=false)
include M ht ha
theorem ml {K:Unit->ag->ah->Prop} {b:Bool} {n:Int} (h:K () k O):dm P (Instr.checkKey b 10000 kt (.agg #[.int kd n])) k O K Kp:=by
 obtain⟨f,h1,h2,h3,h4⟩:=M.hk;show dm P (Instr.checkKey b (9998+1+1) kt (.agg #[.int kd n])) k O K Kp;rw[Instr.checkKey];refine af (gI h1 ?_);simp only[List.forIn_toArray,List.forIn_cons,List.forIn_nil];rw[if_pos h2,h3,h4];refine af (af (af (oA L ht ha ?_)));rw[Instr.checkKey];refine af (af (gI M.hf ?_));exact ai (ai (ai (ai h)))
theorem x6 {K:Bool->ag->ah->Prop} {a b:Int} (h:K (a == b) k O):dm P (Op.equal kt (.agg #[.int kd a]) (.agg #[.int kd b])) k O K Kp:=by
 obtain⟨f,h1,h2,h3,h4⟩:=M.hk;show dm P (Op.equalIn (9998+1+1) kt (.agg #[.int kd a]) (.agg #[.int kd b])) k O K Kp;rw[Op.equalIn];refine af (gI h1 ?_);refine af (cJ ?_);rw[M.hs];simp only[Bool.false_eq_true,if_false,List.forIn_toArray,List.forIn_cons,List.forIn_nil];rw[if_pos h2,h3,h4];refine af (af (af (oA L ht ha ?_)));refine af (oA L ht ha ?_);refine af ?_;rw[Op.equalIn];refine af (gI M.hf ?_);simp only[if_true];refine ai ?_;cases hab:(a == b) with
 | true=>rw[hab] at h;exact ai (ai (ai h))
 | false=>rw[hab] at h;exact ai (ai (ai h))
def fu (l:List (Int × AV)) (n:Int):Option AV:=(l.find? fun p=>n == p.1).map (·.2)
theorem kR {n:Int} {K:Option (Nat × Value)->ag->ah->Prop}:∀ (es:List MapEntry) (l:List (Int × AV)) (j:Nat),es.length=l.length->(∀ (j:Nat) e p,es[j]? = some e->l[j]? = some p->e.key = .agg #[.int kd p.1]∧V k e.val p.2) ->
 (∀ a v j,fu l n=some a->V k v a->K (some (j,v)) k O)->(fu l n=none->K none k O)->dm P (Instr.findAsking kt (.agg #[.int kd n]) es j) k O K Kp
 | [],[],j,_,_,_,h=>by rw[Instr.findAsking];exact ai (h rfl)
 | e :: es,p :: l,j,hl,hv,h1,h2=>by
   obtain⟨e1,e2⟩:=hv 0 e p rfl rfl;rw[Instr.findAsking,e1];refine af (x6 L M ht ha ?_);cases hp:(n == p.1) with
   | true=>
     simp only[if_true];exact ai (h1 p.2 _ _ (by simp[fu,hp]) e2)
   | false=>
     simp only[Bool.false_eq_true,if_false];have e3:fu (p :: l) n=fu l n:=by simp[fu,hp]
     rw[e3] at h1 h2;exact kR es l (j+1) (by simpa using hl) (fun j e p he hp=>hv (j+1) e p (by simpa using he) (by simpa using hp)) h1 h2
 | [],_ :: _,_,h,_,_,_=>by simp at h
 | _ :: _,[],_,h,_,_,_=>by simp at h
theorem nA {n:Int} {K:Option (Nat × Value)->ag->ah->Prop} {es:List MapEntry} {l:List (Int × AV)} (hl:es.length=l.length) (hv:∀ (j:Nat) e p,es[j]? = some e->l[j]? = some p->e.key = .agg #[.int kd p.1]∧V k e.val p.2)
 (h1:∀ a v j,fu l n=some a->V k v a->K (some (j,v)) k O) (h2:fu l n=none->K none k O):dm P (Instr.findKey kt (.agg #[.int kd n]) es) k O K Kp:=by
 obtain⟨f,g1,g2,g3,g4⟩:=M.hk;unfold Instr.findKey;refine af (gI g1 ?_);cases es with
 | nil=>
   cases l with
   | nil=>exact ai (h2 rfl)
   | cons p l=>simp at hl
 | cons e es=>
   have:Instr.findNow (.struct #[f]) (.agg #[.int kd n]) (e :: es) 0=none:=by simp[Instr.findNow,Instr.sameNow]
   rw[this];exact kR L M ht ha _ l 0 hl hv h1 h2
omit M ht ha
theorem V.qW {k:ag} {v:Value} {kd:IntKind} {n:Int} (h:V k v (qW kd n)):v = .agg #[.int kd n]:=by
 cases h with
 | agg c l h1 h2=>
   have h1:c.size=1:=h1
   have hc:c=#[c[0]]:=by
    apply Array.ext
    . simp[h1]
    . intro i hi hi'
      have:i=0:=by simp at hi';exact hi'
      subst this;rfl
   have:=h2 0 c[0] (.lit (.int kd n)) (by simp[h1]) rfl
   rw[hc];generalize c[0]=u at this;cases this;rfl
theorem zh {σ:aa} (hr:Rel k O σ) {b:Nat} {l:List (Int × AV)} (hb:σ b=some (mapA kd l)):∃ es clock,O b=some (.obj (.map es clock))∧es.toList.length=l.length∧∀ (j:Nat) e p,es.toList[j]? = some e->l[j]? = some p->e.key = .agg #[.int kd p.1]∧V k e.val p.2:=by
 obtain⟨x,h1,h2⟩:=hr.1 b _ hb (by simp[mapA])
 unfold mapA at h2;cases h2 with
 | map es clock m g1 g2=>
   refine⟨es,clock,h1,by simpa using g1,fun j e p he hp=>?_⟩
   obtain⟨q1,q2⟩:=g2 j e (aZ.qW kd p.1,p.2) (by simpa using he) (by simp[hp])
   exact⟨q1.qW,q2⟩
variable {o:Oper} {env:Env} {σ:aa} {K Kq:AV->aa->Prop}
theorem x7 (M:Aj P mt kt et ft kd) (ht:L.tt ft=some i) (ha:i.agg=false) {ie:TI} {x ix:Operand} {b:Nat} {l:List (Int × AV)} {n:Int} (ho:o.op = .lookup mt x ix true) (hte:L.tt et=some ie) (hx:am env x = .map b) (hi:am env ix=qW kd n) (hb:σ b=some (mapA kd l))
 (hK:K (.cB [(fu l n).getD (jK ie.zero),.lit (.bool (fu l n).isSome)]) σ):aE P o env σ K Kq:=
 aE.val (s:=fun ρ=>Instr.lookup mt (ρ x) (ρ ix) true) (fun ρ=>by simp[execOp,ho]) fun k O ρ hρ hr=>by
  have h1:=hρ x (by simp[ho,Op.operands])
  have h2:=hρ ix (by simp[ho,Op.operands])
  rw[hx] at h1;rw[hi] at h2;rw[h2.qW];generalize ρ x=vx at h1;cases h1;obtain⟨es,clock,e1,e2,e3⟩:=zh hr hb;unfold Instr.lookup;refine af (gI M.hm ?_);simp only;refine af (s:=getObj b) ⟨_,e1,rfl,ai ?_⟩;refine af (ai ?_);refine af (ml L M ht ha ?_);refine af (nA L M ht ha e2 e3 (fun a v j hl hv=>?_) (fun hl=>?_))
  . simp only
    refine af (ai ?_);simp only[if_true];refine ai (.here ⟨.refl k,_,σ,.cB _ _ rfl (fun i u a' hu ha'=>?_),hr,hK⟩)
    rw[hl] at ha'
    match i with
    | 0=>simp at hu ha';subst hu;subst ha';exact hv
    | 1=>simp at hu ha';subst hu;subst ha';exact .lit _
    | i+2=>simp at ha'
  . simp only
    refine af (bP L hte ?_);refine af (ai ?_);simp only[if_true];refine ai (.here ⟨.refl k,_,σ,.cB _ _ rfl (fun i u a' hu ha'=>?_),hr,hK⟩)
    rw[hl] at ha'
    match i with
    | 0=>simp at hu ha';subst hu;subst ha';exact .jK k _
    | 1=>simp at hu ha';subst hu;subst ha';exact .lit _
    | i+2=>simp at ha'
theorem sB (M:Aj P mt kt et ft kd) (ht:L.tt ft=some i) (ha:i.agg=false) {x ix y:Operand} {b:Nat} {l:List (Int × AV)} {n:Int} {a:AV} (ho:o.op = .mapUpdate mt x ix y) (hx:am env x = .map b) (hi:am env ix=qW kd n) (hy:am env y=a) (hb:σ b=some (mapA kd l)) (hn:fu l n=none)
 (hK:K (.lit undef) (σ.set b (mapA kd (l ++ [(n,a)])))):aE P o env σ K Kq:=fun k O ρ hρ hr=>by
 have h1:=hρ x (by simp[ho,Op.operands])
 have h2:=hρ ix (by simp[ho,Op.operands])
 have h3:=hρ y (by simp[ho,Op.operands])
 rw[hx] at h1;rw[hi] at h2;rw[hy] at h3;have he:execOp ρ o=(do Instr.mapUpdate mt (ρ x) (ρ ix) (ρ y);pure .skip):=by simp[execOp,ho]
 rw[he,h2.qW];generalize ρ x=vx at h1;cases h1;obtain⟨es,clock,e1,e2,e3⟩:=zh hr hb;unfold Instr.mapUpdate;refine af (af (gI M.hm ?_));simp only;refine af (s:=getObj b) ⟨_,e1,rfl,ai ?_⟩;simp only;refine af (ml L M ht ha ?_);refine af (nA L M ht ha e2 e3 (fun a v j hl hv=>by rw[hn] at hl;cases hl) (fun _=>?_))
 simp only;refine⟨⟨_,e1,rfl⟩,rfl,ai ?_⟩;refine⟨undef,.inr ⟨rfl,rfl⟩,.here ⟨.refl k,.lit undef,_,.lit _,hr.set (.map _ _ _ ?_ (fun j e p hj hp=>?_)),hK⟩⟩
 . simp;simpa using e2
 . rw [Array.getElem?_push] at hj
   rw[List.map_append] at hp
   by_cases hjl:j=es.size
   . rw[if_pos hjl] at hj
     have hle:l.length=es.size:=by rw[← e2];simp
     rw[List.getElem?_append_right (by simp;omega)] at hp
     simp only[Option.some.injEq] at hj;subst hj;have:j-(l.map fun p=>(aZ.qW kd p.1,p.2)).length=0:=by simp;omega
     rw[this] at hp;simp at hp;subst hp;exact⟨h2.qW ▸ h2,h3⟩
   . rw[if_neg hjl] at hj
     have hlt:j<es.size:=(Array.getElem?_eq_some_iff.1 hj).1;have hle:l.length=es.size:=by rw[← e2];simp
     rw[List.getElem?_append_left (by simp;omega),List.getElem?_map] at hp
     obtain⟨q,hq,rfl⟩:=Option.map_eq_some_iff.1 hp;obtain⟨g1,g2⟩:=e3 j e q (by simpa using hj) hq
     refine⟨?_,g2⟩;rw[g1]
     exact .agg _ _ rfl fun i u a hu ha=>by
      match i with
      | 0=>simp at hu ha;subst hu;subst ha;exact .lit _
      | i+1=>simp at ha
theorem x8 {mt:Nat} (kd:IntKind) (ho:o.op = .makeMap mt none) (hK:∀ b,σ b=none->K (.map b) (σ.set b (mapA kd []))):aE P o env σ K Kq:=
 aE.val (s:=fun ρ=>Instr.makeMap mt none) (fun ρ=>by simp[execOp,ho]) fun k O ρ hρ hr=>by
  unfold Instr.makeMap;simp only;refine af (s:=newObj _) ⟨rfl,fun r hr'=>ai ?_⟩
  exact .here ⟨.made hr'.2.2,_,_,.map r,(hr.mono (.made hr'.2.2)).set (.map _ _ _ rfl fun j e p hj=>by simp at hj),hK r (hr.isNone hr'.1 hr'.2.2)⟩
end
section
variable {P:Program} (L:iB P) {o:Oper} {env:Env} {σ:aa} {K:AV->aa->Prop} {Kp:AV->aa->Prop}
theorem x9 {i:TI} {d:TypeDesc} (h:bY P i d=true) (hk:i.kind = .iface):∃ ms,d = .interface ms:=by
 cases d <;> simp_all [bY]
theorem lp {op:BinOp} {t t2:Nat} {x:Operand} {i:TI} {isNil:Bool} (ho:o.op = .binOp op t x (.const .nilIface) t2) (ht:L.tt t=some i) (hk:i.kind = .iface)
 (hx:(am env x = .lit .nilIface∧isNil=true)∨(∃ d a,am env x = .kZ d a)∧isNil=false) {b:Bool} (hop:(op = .eql∧b=isNil)∨(op = .neq∧b = !isNil)) (hK:K (.lit (.bool b)) σ):aE P o env σ K Kp:=
 aE.val (s:=fun ρ=>do eqGuard op t x (.const .nilIface) (ρ x) (ρ (.const .nilIface));binOp op t (ρ x) (ρ (.const .nilIface))) (fun ρ=>by simp[execOp,ho]) fun k O ρ hρ hr=>by
  have h1:=hρ x (by simp[ho,Op.operands])
  have h2:=hρ (.const .nilIface) (by simp[ho,Op.operands])
  have e2:ρ (.const .nilIface) = .nilIface:=by
   simp only[am] at h2;generalize ρ (.const .nilIface)=w at h2;cases h2;rfl
  have e1:(ρ x = .nilIface∧isNil=true)∨∃ d v,ρ x = .iface d v∧isNil=false:=by
   rcases hx with ⟨e,h⟩|⟨⟨d,a,e⟩,h⟩ <;> rw[e] at h1
   . generalize ρ x=w at h1;cases h1;exact .inl ⟨rfl,h⟩
   . generalize ρ x=w at h1;cases h1;exact .inr ⟨_,_,rfl,h⟩
  rw[e2]
  have hg:eqGuard op t x (.const .nilIface) (ρ x) .nilIface=pure ():=by
   rcases e1 with ⟨e1,_⟩|⟨d,v,e1,_⟩ <;> rw[e1] <;> rcases hop with ⟨rfl,_⟩|⟨rfl,_⟩ <;> simp[eqGuard]
  rw[hg];refine af (ai ?_)
  have fin:∀ {s:Sem Value},s=(do pure (.bool b))->dm P s k O (fun v k' O'=>jU k' O' fun k2 O2=>k.Le k2∧∃ a σ',V k2 v a∧Rel k2 O2 σ'∧K a σ') (fun v k' O'=>k.Le k'∧∃ a σ',V k' v a∧Rel k' O' σ'∧Kp a σ'):=fun e=>by
   rw[e];exact ai (.here ⟨.refl k,_,σ,.lit _,hr,hK⟩)
  have heq:∀ (R:Bool->ag->ah->Prop) (Rp:Value->ag->ah->Prop),R isNil k O->dm P (Op.equal t (ρ x) .nilIface) k O R Rp:=fun R Rp hR=>by
   show dm P (Op.equalIn (9999+1) t (ρ x) .nilIface) k O R Rp;rw[Op.equalIn];refine af (aq L ht fun d _ hd=>?_)
   obtain⟨ms,rfl⟩:=x9 hd hk
   rcases e1 with ⟨e1,rfl⟩|⟨d,v,e1,rfl⟩ <;> rw[e1] <;> exact ai hR
  rcases e1 with ⟨e1,e3⟩|⟨d,v,e1,e3⟩ <;> rw[e1] at heq ⊢ <;> rcases hop with ⟨rfl,rfl⟩|⟨rfl,rfl⟩
  . exact af (s:=Op.equal t .nilIface .nilIface) (heq _ _ (fin rfl))
  . exact af (s:=Op.equal t .nilIface .nilIface) (heq _ _ (fin rfl))
  . exact af (s:=Op.equal t (.iface d v) .nilIface) (heq _ _ (fin rfl))
  . exact af (s:=Op.equal t (.iface d v) .nilIface) (heq _ _ (fin rfl))
end
end Go.aZ
