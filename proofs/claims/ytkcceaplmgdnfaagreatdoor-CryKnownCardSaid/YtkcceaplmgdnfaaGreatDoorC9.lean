import Derived.KernelRfl
import Derived.Test.YtkcceaplmgdnfaaGreatDoorC8
set_option linter.all false
namespace Go.bu
open Go.Conc
section
variable{P:Program}(L:hQ P){m:Mo}
theorem aB.start{f:FuncId}{fn:Func}{args:List AV}{σ:aa}{b:cJ->aa->Prop}{body:Code}(mu:List Nat)(hold:List Entry)(k:Nat)(c:P.funcs[f]?=some fn)(hb:fn.body=some body)(e:args.length=k)(d:mS fn k=true)(a:jX hold body=true)
 (h:bd L m f fn.ntmps none mu hold 1000 [.code body] ⟨cW args,σ,[],.no⟩ (PR L m fn.results.toList (ml b))):aB P m f args σ b:=by
 simp only[mS,Bool.and_eq_true]at d;refine aB.thaw (aB.intro L c hb (by simp_all) ?_ (Go.bd L mu hold 1000 (by simpa[iW]using a) h))
 simp_all
variable{fid n:Nat}{ro:Option Nat}{hold:List Entry}{s:St}{K:Exit->St->Prop}{k:List Item}
theorem af.run(mu:List Nat){todo:List Item}(h:bd L m fid n ro mu hold 1000 todo s K):af P m fid n ro hold todo s K:=λa=>Go.bd L mu hold 1000 a h
theorem an{f:FuncId}{fn:Func}{args:List AV}{σ:aa}{b:cJ->aa->Prop}(c:P.funcs[f]?=some fn)(hb:fn.body.isSome=true)(a:(fn.name==  "runtime.NumGoroutine")=false)(h:aB P m f args σ b):
 bz P m (.fn (.func f) [] []) args σ b:=.func c hb a (by simpa using h)
theorem cP{f:FuncId}{fn:Func}{first cap args args':List AV}{σ:aa}{b:cJ->aa->Prop}(c:P.funcs[f]?=some fn)(hb:fn.body.isSome=true)(a:(fn.name==  "runtime.NumGoroutine")=false)(d:first++args++cap=args')(h:aB P m f args' σ b):
 bz P m (.fn (.func f) first cap) args σ b:=.func c hb a (d ▸ h)
theorem af.loop{c:Code}(N:Nat)(I:Nat->St->Prop)(g:I 0 s)
 (h:∀b i s,i<=N->I i s->(∀s',i<N->I (i+1) s'->af P m fid n ro hold (.inLoop b::k) s' K)->af P m fid n ro hold (.code c::.inLoop b::k) s K):af P m fid n ro hold (.code (.loop c)::k) s K:=λe=>by
 have d:∀b,iW hold (.code c::.inLoop b::k)=true:=λb=>by simpa[iW,jX]using e
 refine Go.loop (λa s=>∃i,a=N-i/\i<=N/\I i s) N ⟨0,by simp,by omega,g⟩ ?_;rintro b a s ⟨i,rfl,j,l⟩ o;exact h b i s j l (λs' p f _=>o (N-(i+1)) s' (by omega) ⟨i+1,rfl,by omega,f⟩) (d b)
def Iu:Option Code->Bool
 |none=>true
 |some .ret=>true
 |some (.exit _)=>true
 |_=>false
theorem af.rangeFunc{f:Operand}{params:Array Tmp}{assign body:Code}(i:Operand.ok n f=true)
 (h:iW hold [.code assign,.code body]=true->∀r l,s.σ r=none->s.σ l=none->r≠l->bz P m (au s.env f) [.fn (.yield l) [] []] ((s.σ.set r (.raw (.deferred (some [])))).set l (.loop ⟨.ready,none,fid,n,s.env,params,assign,body,r⟩))
   (fun res σ'=>match res with
     |.val _=>∃a,σ' l=some (.loop a)/\a.state≠.busy/\Iu a.pending=true/\af P m fid n none hold ((a.pending.map Item.code).toList++k) {s with σ:=σ'.del l,D:=.mark r::s.D} K
     |.panic v=>K (.panic v) {s with σ:=σ',D:=.mark r::s.D})):af P m fid n none hold (.code (.rangeFunc f params assign body)::k) s K:=λd=>by
 have j:iW hold [.code assign,.code body]=true:=by
  simp only[iW,List.all_cons,jX,Bool.and_eq_true]at d ⊢
  simp_all
 refine Go.rangeFunc i λr l a b c=>(h j r l a b c).mono λres σ' e=>?_
 cases res with
 |panic v=>exact e
 |val v=>obtain⟨o,p,q,g,t⟩:=e;refine⟨o,p,q,t ?_⟩;simp only[iW,List.all_cons,Bool.and_eq_true,List.all_append]at d ⊢;refine⟨?_,d.2⟩;unfold Iu at g;split at g<;>rename_i u<;>simp_all [jX]
theorem bz.r6{l:Nat}{args:List AV}{σ:aa}{c:cJ->aa->Prop}{a:me}{fn:Func}(b:iW hold [.code a.assign,.code a.body]=true)(d:P.funcs[a.fn]?=some fn)(e:σ l=some (.loop a))(f:args.length=a.params.size)
 (h:af P m a.fn a.n (some l) hold [.code a.assign,.beginRound,.code a.body] ⟨kG a.env a.params.toList args,σ,[],.no⟩ (Ik l c)):bz P m (.fn (.yield l) [] []) args σ c:=
 .yield d e f (h (by simp only[iW,List.all_cons,Bool.and_eq_true]at b ⊢;simp_all))
theorem af.beginRound{l:Nat}{a:me}(c:s.σ l=some (.loop a))(ha:a.state=.ready)(h:af P m fid n (some l) hold k {s with σ:=s.σ.set l (.loop {a with state:=.busy})} K):af P m fid n (some l) hold (.beginRound::k) s K:=λb=>.beginRound c ha (h (by simpa[iW,jX]using b))
theorem af.freeze{todo:List Item}{env a:Env}{σ σ':aa}{D:List kF}{rc:Rec}(b:Nat)(l:List AV)(hb:σ b=some (.cells l))(c:∀t,Fz b l (env t) (a t))(e:FP b l σ σ')
 (h:af P m fid n ro hold todo ⟨a,σ',D,rc⟩ K):af P m fid n ro hold todo ⟨env,σ,D,rc⟩ K:=λd=>Go.freeze b l hb c e (h d)
end
theorem aa.le_refl(σ:aa):σ.Le σ:=λ_ _ h=>h
theorem aa.le_trans{a b c:aa}(h:a.Le b)(d:b.Le c):a.Le c:=λx y e=>d x y (h x y e)
theorem aa.r7{σ0 σ:aa}{b:Nat}{x:fy}(h:σ0.Le σ)(hb:σ b=none):σ0.Le (σ.set b x):=λc y a=>by
 by_cases e:c=b
 . subst e;have:=h _ _ a;simp_all
 . simp only[aa.set,e,if_false];exact h _ _ a
theorem aa.eo{σ0 σ:aa}{b:Nat}{x:fy}(h:σ0.Le σ)(hb:σ0 b=none):σ0.Le (σ.set b x):=λc y a=>by
 by_cases e:c=b
 . simp_all
 . simp only[aa.set,e,if_false];exact h _ _ a
theorem aa.kJ{σ0 σ:aa}{b:Nat}(h:σ0.Le σ)(hb:σ0 b=none):σ0.Le (σ.del b):=λc y a=>by
 by_cases e:c=b
 . simp_all
 . simp only[aa.del,e,if_false];exact h _ _ a
theorem aa.aH{σ:aa}{b c:Nat}{x:fy}(h:(σ.set b x) c=none):c≠b/\b≠c/\σ c=none:=by
 by_cases e:c=b
 . subst e;simp[aa.set]at h
 . simp only[aa.set,e,if_false]at h
   grind
@[simp] theorem aa.ao(σ:aa)(b:Nat)(x:fy):(σ.set b x) b=some x:=by simp[aa.set]
theorem aa.ak(σ:aa){b c:Nat}(x:fy)(h:c≠b):(σ.set b x) c=σ c:=by simp[aa.set,h]
@[simp] theorem aa.set_set(σ:aa)(b:Nat)(x y:fy):(σ.set b x).set b y=σ.set b y:=by funext c;by_cases e:c=b<;>simp[aa.set,e]
section
variable{P:Program}(L:hQ P)(m:Mo)(fid n f:Nat)(ro:Option Nat)(mu:List Nat)(hold:List Entry)
def stepW(ops:Array Oper)(is:List Nat)(k:List Item)(dst:Option Tmp)(s:St)(K:Exit->St->Prop)(x:Out):Prop:=qa x (λa b=>bd L m fid n ro mu hold f (.inRegion ops is::k) {s with env:=aX s.env dst a,σ:=b} K) (λa b=>K (.panic a) {s with σ:=b})
def Iv(ops:Array Oper)(is:List Nat)(k:List Item)(dst:Option Tmp)(s:St)(K:Exit->St->Prop)(σ:aa)(x:Option AV):Prop:=stepW L m fid n f ro mu hold ops is k dst s K (.opt x σ)
def bq(ops:Array Oper)(is:List Nat)(k:List Item)(dst:Option Tmp)(s:St)(K:Exit->St->Prop)(σ:aa)(c:List AV):Prop:=stepW L m fid n f ro mu hold ops is k dst s K (.new σ c)
def qJ(ops:Array Oper)(i:Nat)(is:List Nat)(k:List Item)(o:Oper)(s:St)(K:Exit->St->Prop)(x:Option Bool):Prop:=
 FV x (if nT L o=true then qa (zk L mu o s.env s.σ) (λa b=>bd L m fid n ro mu hold f (.inRegion ops is::k) {s with env:=aX s.env o.dst a,σ:=b} K) (λa b=>K (.panic a) {s with σ:=b})
        else if te o.op=true then Mr (P:=P) m o s.env s.σ (λa b=>af P m fid n ro hold (.inRegion ops is::k) {s with env:=aX s.env o.dst a,σ:=b} K) (λa b=>∀env,K (.panic a) {s with env,σ:=b})
        else af P m fid n ro hold (.inRegion ops (i::is)::k) s K) (bd L m fid n ro mu hold f (.inRegion ops is::k) {s with env:=aX s.env o.dst (.lit (.tuple #[]))} K)
def aG(a b:Code)(k:List Item)(s:St)(K:Exit->St->Prop)(x:Bool):Prop:=ta x (bd L m fid n ro mu hold f (.code a::k) s K) (bd L m fid n ro mu hold f (.code b::k) s K)
def OM(P:Program)(m:Mo)(fid n:Nat)(ro:Option Nat)(hold:List Entry)(k:List Item)(s:St)(K:Exit->St->Prop):Env->aa->Prop:=λenv σ=>af P m fid n ro hold k {s with env,σ} K
def ON(s:St)(K:Exit->St->Prop):AV->aa->Prop:=λv σ=>∀env,K (.panic v) {s with env,σ}
variable{L m fid n f ro mu hold}{s:St}{K:Exit->St->Prop}{k:List Item}{ops:Array Oper}{i:Nat}{is:List Nat}{dst:Option Tmp}{σ:aa}
@[simp] theorem QZ{env:Env}:OM P m fid n ro hold k s K env σ=af P m fid n ro hold k {s with env,σ} K:=propext Iff.rfl
@[simp] theorem Q0{v:AV}:ON s K v σ=∀env,K (.panic v) {s with env,σ}:=propext Iff.rfl
@[simp] theorem Q1{a:AV}:stepW L m fid n f ro mu hold ops is k dst s K (.ok a σ)=bd L m fid n ro mu hold f (.inRegion ops is::k) {s with env:=aX s.env dst a,σ:=σ} K:=propext Iff.rfl
@[simp] theorem OP{p:Prop}{x:Out}:stepW L m fid n f ro mu hold ops is k dst s K (.gu p x)=(p/\stepW L m fid n f ro mu hold ops is k dst s K x):=propext Iff.rfl
@[simp] theorem P2{c:List AV}:stepW L m fid n f ro mu hold ops is k dst s K (.new σ c)=bq L m fid n f ro mu hold ops is k dst s K σ c:=propext Iff.rfl
@[simp] theorem P3{x:Option AV}:stepW L m fid n f ro mu hold ops is k dst s K (.opt x σ)=Iv L m fid n f ro mu hold ops is k dst s K σ x:=propext Iff.rfl
@[simp] theorem P4{a:AV}:Iv L m fid n f ro mu hold ops is k dst s K σ (some a)=bd L m fid n ro mu hold f (.inRegion ops is::k) {s with env:=aX s.env dst a,σ:=σ} K:=propext Iff.rfl
@[simp] theorem P5:Iv L m fid n f ro mu hold ops is k dst s K σ none=False:=propext Iff.rfl
@[simp] theorem Tg{c:Prop}[Decidable c]{x:Option AV}:Iv L m fid n f ro mu hold ops is k dst s K σ (if c then x else none)=(c/\Iv L m fid n f ro mu hold ops is k dst s K σ x):=by by_cases h:c<;>simp[h]
theorem bq.intro{c:List AV}(h:∀b,σ b=none->bd L m fid n ro mu hold f (.inRegion ops is::k) {s with env:=aX s.env dst (.ref b 0),σ:=σ.set b (.cells c)} K):bq L m fid n f ro mu hold ops is k dst s K σ c:=h
@[simp] theorem Q2{o:Oper}:qJ L m fid n f ro mu hold ops i is k o s K (some true)=(if nT L o=true then stepW L m fid n f ro mu hold ops is k o.dst s K (zk L mu o s.env s.σ)
   else if te o.op=true then Mr (P:=P) m o s.env s.σ (λa σ'=>af P m fid n ro hold (.inRegion ops is::k) {s with env:=aX s.env o.dst a,σ:=σ'} K) (λa σ'=>∀env,K (.panic a) {s with env,σ:=σ'})
   else af P m fid n ro hold (.inRegion ops (i::is)::k) s K):=by unfold qJ;rw[mq,mV];rfl
@[simp] theorem P6{o:Oper}:qJ L m fid n f ro mu hold ops i is k o s K (some false)=bd L m fid n ro mu hold f (.inRegion ops is::k) {s with env:=aX s.env o.dst (.lit (.tuple #[]))} K:=by unfold qJ;rw[mq,lD]
theorem qJ.intro{o:Oper}{x:Bool}(a:x=true->qJ L m fid n f ro mu hold ops i is k o s K (some true))(b:x=false->qJ L m fid n f ro mu hold ops i is k o s K (some false)):qJ L m fid n f ro mu hold ops i is k o s K (some x):=by cases x with|true=>exact a rfl|false=>exact b rfl
@[simp] theorem OQ{a b:Code}:aG L m fid n f ro mu hold a b k s K true=bd L m fid n ro mu hold f (.code a::k) s K:=by unfold aG;rw[mV]
@[simp] theorem NT{a b:Code}:aG L m fid n f ro mu hold a b k s K false=bd L m fid n ro mu hold f (.code b::k) s K:=by unfold aG;rw[lD]
@[simp] theorem P7{a b:Code}{x:Bool}:aG L m fid n f ro mu hold a b k s K (!x)=aG L m fid n f ro mu hold b a k s K x:=by cases x<;>simp
theorem aG.intro{a b:Code}{x:Bool}(c:x=true->bd L m fid n ro mu hold f (.code a::k) s K)(d:x=false->bd L m fid n ro mu hold f (.code b::k) s K):aG L m fid n f ro mu hold a b k s K x:=⟨c,d⟩
@[simp] theorem Q3 :bd L m fid n ro mu hold (f+1) ([]) s K=K (.leave none) s:=propext Iff.rfl
@[simp] theorem Q4 :bd L m fid n ro mu hold (f+1) (.code .ret::k) s K=K (.leave (some .ret)) s:=propext Iff.rfl
@[simp] theorem P8 :bd L m fid n ro mu hold (f+1) (.code .skip::k) s K=bd L m fid n ro mu hold f k s K:=propext Iff.rfl
@[simp] theorem OR{l:Nat}:bd L m fid n ro mu hold (f+1) (.code (.label l)::k) s K=bd L m fid n ro mu hold f k s K:=propext Iff.rfl
@[simp] theorem Mt{id:Nat}:bd L m fid n ro mu hold (f+1) (.inBlock id::k) s K=bd L m fid n ro mu hold f k s K:=propext Iff.rfl
@[simp] theorem Mw{c:Code}:bd L m fid n ro mu hold (f+1) (.inScope c::k) s K=bd L m fid n ro mu hold f k s K:=propext Iff.rfl
@[simp] theorem Q5{a b:Code}:bd L m fid n ro mu hold (f+1) (.code (.seq a b)::k) s K=bd L m fid n ro mu hold f (.code a::.code b::k) s K:=propext Iff.rfl
@[simp] theorem OS{id:Nat}{c:Code}:bd L m fid n ro mu hold (f+1) (.code (.block id c)::k) s K=bd L m fid n ro mu hold f (.code c::.inBlock id::k) s K:=propext Iff.rfl
@[simp] theorem OT{c:Code}:bd L m fid n ro mu hold (f+1) (.code (.scope c)::k) s K=bd L m fid n ro mu hold f (.code c::.inScope c::k) s K:=propext Iff.rfl
@[simp] theorem P9{id:Nat}:bd L m fid n ro mu hold (f+1) (.code (.exit id)::k) s K=(match exitTo id k with
   |some k'=>bd L m fid n ro mu hold f k' s K
   |none=>K (.leave (some (.exit id))) s):=propext Iff.rfl
@[simp] theorem Qa{c:Operand}{a b:Code}:bd L m fid n ro mu hold (f+1) (.code (.cond c a b)::k) s K=(Operand.ok n c=true/\(match au s.env c with
   |.lit (.bool x)=>aG L m fid n f ro mu hold a b k s K x
   |_=>False)):=propext Iff.rfl
@[simp] theorem NU{id:Nat}:bd L m fid n ro mu hold (f+1) (.code (.region id ops false)::k) s K=bd L m fid n ro mu hold f (.inRegion ops (List.range ops.size)::k) s K:=propext Iff.rfl
@[simp] theorem Qb{id:Nat}:bd L m fid n ro mu hold (f+1) (.code (.region id ops true)::k) s K=(match hold.find? λe=>e.id==id with
   |some ⟨_,p⟩=>fY L m mu ops n (ON s K) p s.env s.σ (OM P m fid n ro hold k s K)
   |none=>af P m fid n ro hold (.code (.region id ops true)::k) s K):=propext Iff.rfl
@[simp] theorem Iw :bd L m fid n ro mu hold (f+1) (.inRegion ops []::k) s K=bd L m fid n ro mu hold f k s K:=propext Iff.rfl
@[simp] theorem L9 :bd L m fid n ro mu hold (f+1) (.inRegion ops (i::is)::k) s K=(match ops[i]? with
   |some o=>Oper.ok n o=true/\qJ L m fid n f ro mu hold ops i is k o s K (vl ops n s.env o)
   |none=>af P m fid n ro hold (.inRegion ops (i::is)::k) s K):=propext Iff.rfl
@[simp] theorem Qc{c:Code}:bd L m fid n ro mu hold (f+1) (.code (.loop c)::k) s K=af P m fid n ro hold (.code (.loop c)::k) s K:=propext Iff.rfl
@[simp] theorem NV{c:Code}:bd L m fid n ro mu hold (f+1) (.inLoop c::k) s K=af P m fid n ro hold (.inLoop c::k) s K:=propext Iff.rfl
@[simp] theorem Ix{x:Operand}{a:Array Tmp}{c d:Code}:bd L m fid n ro mu hold (f+1) (.code (.rangeFunc x a c d)::k) s K=af P m fid n ro hold (.code (.rangeFunc x a c d)::k) s K:=propext Iff.rfl
@[simp] theorem H3 :bd L m fid n ro mu hold (f+1) (.beginRound::k) s K=af P m fid n ro hold (.beginRound::k) s K:=propext Iff.rfl
end
section
variable{P:Program}(L:hQ P)(m:Mo)(n:Nat)(mu:List Nat)(ops:Array Oper)(Kp:AV->aa->Prop)(R:Env->aa->Prop)
def vn(lt:Bool)(σ:aa)(p:iD)(S:List Nat)(env:Env):Prop:=zl L mu ops n lt σ (λa=>fY L m mu ops n Kp p a σ R) .mk S env
def AX(lt:Bool)(σ:aa)(p:iD)(S:List Nat)(dst:Option Tmp)(env:Env)(x:Option AV):Prop:=xu x λa=>vn L m n mu ops Kp R lt σ p S (aX env dst a)
def Ma(lt:Bool)(σ:aa)(p:iD)(S:List Nat)(o:Oper)(env:Env)(x:Option Bool):Prop:=FV x (AX L m n mu ops Kp R lt σ p S o.dst env (C5 L mu lt o env σ)) (vn L m n mu ops Kp R lt σ p S (aX env o.dst (.lit (.tuple #[]))))
def tg(p:iD)(dst:Option Tmp)(env:Env)(x:Out):Prop:=qa x (λa b=>fY L m mu ops n Kp p (aX env dst a) b R) Kp
def Q6(p:iD)(dst:Option Tmp)(env:Env)(σ:aa)(x:Option AV):Prop:=tg L m n mu ops Kp R p dst env (.opt x σ)
def po(p:iD)(dst:Option Tmp)(env:Env)(σ:aa)(c:List AV):Prop:=tg L m n mu ops Kp R p dst env (.new σ c)
def NW(i:Nat)(p:iD)(o:Oper)(env:Env)(σ:aa)(x:Option Bool):Prop:=
 FV x (if nT L o=true then qa (zk L mu o env σ) (λa b=>fY L m mu ops n Kp p (aX env o.dst a) b R) Kp else
    if te o.op=true then Mr (P:=P) m o env σ (λa b=>aI P m ops n Kp p (aX env o.dst a) b R) Kp else iC P m ops n Kp i env σ (λenv σ=>aI P m ops n Kp p env σ R)) (fY L m mu ops n Kp p (aX env o.dst (.lit (.tuple #[]))) σ R)
variable{L m n mu ops Kp R}{i:Nat}{lt:Bool}{env:Env}{σ:aa}{p q:iD}{S:List Nat}{dst:Option Tmp}
@[simp] theorem Qd:fY L m mu ops n Kp .done env σ R=R env σ:=propext Iff.rfl
@[simp] theorem Qe:fY L m mu ops n Kp (.take S lt p) env σ R=vn L m n mu ops Kp R lt σ p S env:=propext Iff.rfl
@[simp] theorem Q7:fY L m mu ops n Kp (.one i p) env σ R=(match ops[i]? with|some o=>Oper.ok n o=true/\NW L m n mu ops Kp R i p o env σ (vl ops n env o)|none=>False):=propext Iff.rfl
@[simp] theorem Qf:fY L m mu ops n Kp (.both i p q) env σ R=((match ops[i]? with|some o=>Oper.ok n o=true/\NW L m n mu ops Kp R i p o env σ (vl ops n env o)|none=>False)/\fY L m mu ops n Kp q env σ R):=propext Iff.rfl
@[simp] theorem Qg:vn L m n mu ops Kp R lt σ p [] env=fY L m mu ops n Kp p env σ R:=propext Iff.rfl
@[simp] theorem OU:vn L m n mu ops Kp R lt σ p (i::S) env=(match ops[i]? with|some o=>(Oper.ok n o && o.dst.isSome)=true/\Ma L m n mu ops Kp R lt σ p S o env (vl ops n env o)|none=>False):=propext Iff.rfl
@[simp] theorem Qh{a:AV}:AX L m n mu ops Kp R lt σ p S dst env (some a)=vn L m n mu ops Kp R lt σ p S (aX env dst a):=by unfold AX;rw[FT]
@[simp] theorem Qi:AX L m n mu ops Kp R lt σ p S dst env none=False:=by unfold AX;rw[FU]
@[simp] theorem Ti{c:Prop}[Decidable c]{x:Option AV}:AX L m n mu ops Kp R lt σ p S dst env (if c then x else none)=(c/\AX L m n mu ops Kp R lt σ p S dst env x):=by by_cases h:c<;>simp[h]
@[simp] theorem Q8{o:Oper}:Ma L m n mu ops Kp R lt σ p S o env (some true)=AX L m n mu ops Kp R lt σ p S o.dst env (C5 L mu lt o env σ):=by unfold Ma;rw[mq,mV]
@[simp] theorem Qj{o:Oper}:Ma L m n mu ops Kp R lt σ p S o env (some false)=vn L m n mu ops Kp R lt σ p S (aX env o.dst (.lit (.tuple #[]))):=by unfold Ma;rw[mq,lD]
theorem Ma.intro{o:Oper}{x:Bool}(a:x=true->Ma L m n mu ops Kp R lt σ p S o env (some true))(b:x=false->Ma L m n mu ops Kp R lt σ p S o env (some false)):Ma L m n mu ops Kp R lt σ p S o env (some x):=by cases x with|true=>exact a rfl|false=>exact b rfl
@[simp] theorem Q9{a:AV}:tg L m n mu ops Kp R p dst env (.ok a σ)=fY L m mu ops n Kp p (aX env dst a) σ R:=propext Iff.rfl
@[simp] theorem OV{c:Prop}{x:Out}:tg L m n mu ops Kp R p dst env (.gu c x)=(c/\tg L m n mu ops Kp R p dst env x):=propext Iff.rfl
@[simp] theorem Qk{c:List AV}:tg L m n mu ops Kp R p dst env (.new σ c)=po L m n mu ops Kp R p dst env σ c:=propext Iff.rfl
@[simp] theorem Ql{x:Option AV}:tg L m n mu ops Kp R p dst env (.opt x σ)=Q6 L m n mu ops Kp R p dst env σ x:=propext Iff.rfl
@[simp] theorem Qm{a:AV}:Q6 L m n mu ops Kp R p dst env σ (some a)=fY L m mu ops n Kp p (aX env dst a) σ R:=propext Iff.rfl
theorem po.intro{c:List AV}(h:∀b,σ b=none->fY L m mu ops n Kp p (aX env dst (.ref b 0)) (σ.set b (.cells c)) R):po L m n mu ops Kp R p dst env σ c:=h
@[simp] theorem Q'{o:Oper}:NW L m n mu ops Kp R i p o env σ (some true)=(if nT L o=true then tg L m n mu ops Kp R p o.dst env (zk L mu o env σ)else
   if te o.op=true then Mr (P:=P) m o env σ (λa σ'=>aI P m ops n Kp p (aX env o.dst a) σ' R) Kp else iC P m ops n Kp i env σ (λenv σ=>aI P m ops n Kp p env σ R)):=by unfold NW;rw[mq,mV];rfl
@[simp] theorem Qn{o:Oper}:NW L m n mu ops Kp R i p o env σ (some false)=fY L m mu ops n Kp p (aX env o.dst (.lit (.tuple #[]))) σ R:=by unfold NW;rw[mq,lD]
end
@[simp] theorem OW{l c:List AV}(h:c.length=l.length):aL l 0 c=c:=by unfold aL;simp[h]
@[simp] theorem Iy{l c:List AV}{off:Nat}(h:off+c.length<=l.length):(aL l off c).length=l.length:=jq h
@[simp high] theorem C7{l:List AV}{off:Nat}{v:AV}(h:off<l.length):aL l off [v]=l.set off v:=by unfold aL;rw[List.set_eq_take_append_cons_drop,if_pos h];simp
attribute [simp] C5 tZ jv vf zk nT vl te Mr Mq C4 Function.comp_def
def mW(P:Program)(t:TypeId)(name:String)(f:FuncId)(a a':AV):Prop:=∀k O v (K:FuncId × Value->ai->aj->Prop) Kp,V k v a->(∀r,V k r a'->K (f,r) k O)->dk P (method (P.types.size+Made.depth) t v name) k O K Kp
section
variable{P:Program}{m:Mo}{fid n:Nat}{ro:Option Nat}{hold:List Entry}{s:St}{K:Exit->St->Prop}{k:List Item}
theorem pF{name:String}{recv:Value}{c a:Array Value}:Go.invoke (.fn (.method name) c) (#[recv]++a)=callMethod recv name a:=by
 have b:(#[recv]++a)[0]?=some recv:=by grind
 have d:(#[recv]++a).extract 1 (#[recv]++a).size=a:=by simp_all
 simp only[Go.invoke,b,d]
theorem af.invoke{ops:Array Oper}{i:Nat}{is:List Nat}{o:Oper}{recv:Operand}{name:String}{args:Array Operand}{B:Array TypeId}{t f:Nat}{a a':AV}{fn:Func}(N:ops[i]?=some o)(C:o.op=.call ⟨.invoke recv name,args,B⟩)(hg:o.guard=none)(D:Oper.ok n o=true)
 (W:au s.env recv=.kD t a) (X:mW P t name f a a') (Y:P.funcs[f]?=some fn) (hb:fn.body.isSome=true) (E:(fn.name==  "runtime.NumGoroutine")=false)
 (h:aB P m f (a'::args.toList.map (au s.env)) s.σ (λr σ'=>match r with|.val x=>af P m fid n ro hold (.inRegion ops is::k) {s with env:=aX s.env o.dst x,σ:=σ'} K|.panic v=>K (.panic v) {s with σ:=σ'})):
 af P m fid n ro hold (.inRegion ops (i::is)::k) s K:=λF Q kk O tmps defs kind cs Z d R=>by
 have hw:bK ops n s.env o:=by unfold bK;simp_all
 refine T.mP (λw=>dA N (fR d.size d.env hw) (.inr λc e=>by simp_all) w) (dv ?_)
 have g:∀x∈o.op.operands,V kk (Frame.eval ⟨fid,tmps,.inRegion ops (i::is)::k,defs,.run,kind,ro⟩ x) (au s.env x):=λx S=>by
  refine V.eval d.env d.size x ?_;simp only[Oper.ok,Bool.and_eq_true,Array.all_eq_true_iff_forall_mem]at D
  grind
 have y:=g recv (by simp_all)
 rw[W]at y;have l:=Vs.ofArray (k:=kk) (ρ:=Frame.eval ⟨fid,tmps,.inRegion ops (i::is)::k,defs,.run,kind,ro⟩) (env:=s.env) (xs:=args) (λx S=>g x (by simp_all))
 generalize hq:Frame.eval _ recv=cf at y;cases y with
 | kD _ v _ H=>
   simp only[execOp,C,resolve,hq];refine ag (ah ?_);rw[pF];unfold callMethod;simp only;refine ag (bb ?_);refine ag (X kk O v _ _ H λr I=>?_)
   simp only[callFunc];refine ag (bb ?_);rw[Y];have J:fn.body.isNone=false:=by cases S:fn.body<;>simp_all
   simp only[E,J,Bool.false_eq_true,if_false];refine ah λ_=>⟨by simp,?_⟩
   have e:#[r]++args.map (Frame.eval ⟨fid,tmps,.inRegion ops (i::is)::k,defs,.run,kind,ro⟩)=(r::(args.map (Frame.eval ⟨fid,tmps,.inRegion ops (i::is)::k,defs,.run,kind,ro⟩)).toList).toArray:=by simp
   rw[e];refine h Q kk O _ ⟨fid,tmps,.inRegion ops (i::is)::k,defs,.run,kind,ro⟩ (eM s.rc cs) .normal (by simp) (.cons I ⟨by grind,λj v a y ha=>l.2 j v a (by grind) ha⟩) d.rel ?_ ?_
   . intro z A L U σ' b p q M
     obtain⟨u,e1,e2⟩:=d.put (fid:=fid) (ro:=ro) (rest:=is) (kk:=k) b N p q;show T P m Q z A (G (Frame.finish ⟨fid,tmps,.inRegion ops (i::is)::k,defs,.run,kind,ro⟩ L) (eM s.rc cs));rw[e1];exact M (by simpa[iW,jX]using F) Q z A u defs kind cs Z e2 (R.mono b)
   . intro z A L U σ' b p q M
     exact R.panic z A tmps defs {s with σ:=σ'} _ L U b ⟨d.size,d.env.mono b,q,d.ds.mono b,d.rc.mono b⟩ p M
theorem bs{ops:Array Oper}{env:Env}{o:Oper}(a:o.guard=none):bK ops n env o:=by unfold bK;simp_all
theorem af.defer{ops:Array Oper}{i:Nat}{is:List Nat}{o:Oper}{fo:Operand}{args:Array Operand}{a:Array TypeId}{f:Fn}{first cap:List AV}(b:ro=none)(j:ops[i]?=some o)(c:o.op=.defer ⟨.value fo,args,a⟩)(l:o.guard=none)(d:Oper.ok n o=true)
 (e:au s.env fo=.fn f first cap) (h:af P m fid n ro hold (.inRegion ops is::k) {s with env:=aX s.env o.dst .bJ,D:=.call f cap (first++args.toList.map (au s.env))::s.D} K):af P m fid n ro hold (.inRegion ops (i::is)::k) s K:=
 λg=>Go.defer b j c (bs l) d e (h (by simpa[iW,jX]using g))
end
def EP(F a:Nat->Prop)(σ σ':aa):Prop:=∀b x,¬F b->σ b=some x->σ' b=some x/\¬a b
def cq:AV->Option Nat
 |.sl _ _ (.tok b _)=>some b
 |_=>none
def aa.off(σ:aa)(a:AV):aa:=match cq a with|some b=>σ.del b|none=>σ
theorem Tok.here{σ0 σ:aa}{a:AV}{kk:Nat}{es:List AV}(h:Tok σ0 σ a kk es):Tok (σ.off a) σ a kk es/\σ0.Le (σ.off a):=by
 obtain⟨d,g⟩:=h;rcases g with⟨rfl,rfl⟩|rfl|⟨b,e,k,rfl,i⟩
 . exact⟨⟨aa.le_refl _,.inl ⟨rfl,rfl⟩⟩,d⟩
 . exact⟨⟨aa.le_refl _,.inr (.inl rfl)⟩,d⟩
 . refine⟨⟨λc x f=>?_,.inr (.inr ⟨b,e,by simp[aa.off,cq,aa.del],rfl,i⟩)⟩,λc x f=>?_⟩
   . simp only[aa.off,cq,aa.del]at f
     simp_all
   . have j:c≠b:=λe=>by simp_all
     simp only[aa.off,cq,aa.del,j,if_false];exact d c x f
theorem Tok.base{σ0 c σ:aa}{a:AV}{kk:Nat}{es:List AV}(h:Tok c σ a kk es)(d:σ0.Le c):Tok σ0 σ a kk es:=by
 obtain⟨f,g⟩:=h;refine⟨aa.le_trans d f,?_⟩;rcases g with h|h|⟨b,e,k,i,j⟩
 . exact .inl h
 . simp_all
 . refine .inr (.inr ⟨b,e,?_,i,j⟩)
   cases hb:σ0 b with
   |none=>rfl
   |some x=>have:=d b x hb;simp_all
theorem Tok.beside{σ0 σ:aa}{a:AV}{kk:Nat}{es:List AV}(h:Tok σ0 σ a kk es){b:Nat}{x:fy}(hb:σ0 b=none)(ht:cq a≠some b):Tok σ0 (σ.set b x) a kk es:=by
 obtain⟨d,f⟩:=h;refine⟨aa.eo d hb,?_⟩;rcases f with h|h|⟨c,e,g,rfl,i⟩
 . exact .inl h
 . simp_all
 . refine .inr (.inr ⟨c,e,g,rfl,?_⟩)
   have j:c≠b:=λe=>ht (by simp[cq,e])
   rw[aa.ak _ _ j];exact i
theorem Tok.bZ{σ0 σ:aa}{a:AV}{kk:Nat}{es:List AV}(h:Tok σ0 σ a kk es){b:Nat}(hb:cq a=some b):σ0 b=none/\∃e,σ b=some (.tail e):=by
 obtain⟨f,d⟩:=h;rcases d with⟨rfl,rfl⟩|rfl|⟨c,e,g,rfl,i⟩
 . cases hb
 . cases hb
 . simp only[cq,Option.some.injEq]at hb
   simp_all
theorem Tok.cells{σ0 σ:aa}{a:AV}{kk:Nat}{es:List AV}(h:Tok σ0 σ a kk es):a.cells=[a]/\a.flat=true:=by
 obtain⟨_,b⟩:=h;rcases b with⟨rfl,rfl⟩|rfl|⟨c,e,d,rfl,f⟩<;>exact⟨rfl,rfl⟩
theorem aa.gT{σ:aa}{a:AV}{b:Nat}(h:cq a≠some b):σ.off a b=σ b:=by
 unfold aa.off;cases d:cq a with
 |none=>rfl
 | some c=>
   have:b≠c:=λe=>h (by rw[d,e])
   simp[aa.del,this]
theorem aa.OX{σ:aa}{a:AV}{b:Nat}{x:fy}(h:σ.off a b=some x):σ b=some x:=by
 unfold aa.off at h;cases d:cq a with
 |none=>simp_all
 | some c=>
   rw[d]at h;simp only[aa.del]at h
   simp_all
inductive Wl:List AV->List AV->Prop
 |nil:Wl [] []
 |cons {a a':AV}{l l':List AV}:a.W a'->Wl l l'->Wl (a::l) (a'::l')
theorem Wl.refl:∀(l:List AV),Wl l l
 |[]=>.nil
 |a::l=>.cons (.refl a) (Wl.refl l)
theorem Wl.len{l a:List AV}(h:Wl l a):l.length=a.length:=by
 induction h with
 |nil=>rfl
 |cons _ _ b=>simp[b]
theorem Wl.at{l c:List AV}(h:Wl l c):∀{i:Nat}{a':AV},c[i]?=some a'->∃a,l[i]?=some a/\a.W a':=by
 induction h with
 |nil=>simp_all
 |@cons a b l c d e f=>grind
theorem Vs.vo{k:ai}{c:List Value}{l e:List AV}(h:Vs k c l)(f:Wl l e):Vs k c e:=⟨by rw[h.1,f.len],λi v a g ha=>by obtain⟨b,hb,d⟩:=f.at ha;exact d k v (h.2 i v b g hb)⟩
theorem aB.vo{P:Program}{m:Mo}{f:FuncId}{args args':List AV}{σ:aa}{b:cJ->aa->Prop}(h:aB P m f args' σ b)(d:Wl args args'):aB P m f args σ b:=λQ k O a c rest kind e g i j l=>h Q k O a c rest kind e (g.vo d) i j l
theorem aM{P:Program}{m:Mo}{f:FuncId}{fn:Func}{args args':List AV}{σ:aa}{b:cJ->aa->Prop}(c:P.funcs[f]?=some fn)(hb:fn.body.isSome=true)(a:(fn.name==  "runtime.NumGoroutine")=false)(d:Wl args args')(h:aB P m f args' σ b):
 bz P m (.fn (.func f) [] []) args σ b:=an c hb a (h.vo d)
def ai.Iz(k:ai)(r:Nat)(c:Array Value)(f:Nat->Option Value):ai:={k with cell:=λb j=>if b=r/\f j=none then c[j]? else k.cell b j}
theorem C8{k:ai}{O:aj}{r:Nat}{c:Array Value}{e:TypeId}{f:Nat->Option Value}(p:O r=some (.obj (.cells c e (0,0))))(B:k.sh r=some (e,c.size))(C:∀i v,f i=some v->c[i]?=some v):jR k O (k.Iz r c f) (O.set r (.part f)):=λw h=>by
 have y:=h.obj _ _ p
 have D:∀j,k.cell r j=none:=λj=>by
  cases q:k.cell r j with
  |none=>rfl
  |some v=>exact(h.apart _ _ _ q (.inl ⟨_,p⟩)).elim
 have t:k.Le (k.Iz r c f):=⟨λb i v l=>by
  have:¬(b=r/\f i=none):=λx=>by simp_all
  simpa[ai.Iz,this]using l,λ_ _ h=>h⟩
 have n:∀b,b≠r->(O.set r (.part f)) b=O b:=λb hb=>by simp[aj.set,hb]
 have d:(O.set r (.part f)) r=some (.part f):=by simp[aj.set]
 refine⟨⟨λb i v l z=>?_,λb i v l=>?_,h.sh,λb o hb=>?_,λb m hb=>?_,λb g hb=>?_⟩,⟨t,Nat.le_refl _,λ_ _ _=>rfl,λ_ _ _ _ c _ h=>⟨c,h,rfl,λ_ _=>rfl⟩,λ_ _ _ _ c _ h=>⟨c,h,rfl,λ_ _=>rfl⟩,λ_ _=>rfl,λb x A=>?_,λb i v l=>?_,λ_ _ h=>.inl h,by simp,rfl,rfl,rfl,by simp,λb g hb=>?_⟩⟩
 . by_cases hb:b=r
   . subst hb
     rcases z with⟨o,s⟩|⟨m,s,E⟩|⟨g,s,E⟩
     . simp_all
     . simp_all
     . rw[d]at s;cases s
       simp only[ai.Iz,true_and]at l
       simp_all
   . have u:k.cell b i=some v:=by simpa[ai.Iz,hb]using l
     exact h.apart b i v u (by simpa[aO,aj.set,hb]using z)
 . by_cases hb:b=r/\f i=none
   . obtain⟨rfl,F⟩:=hb
     simp only[ai.Iz,F,and_self,if_true]at l;simp[World.cell?,y,l]
   . exact h.cell b i v (by simpa only[ai.Iz,hb,if_false]using l)
 . by_cases a:b=r
   . simp_all
   . exact h.obj b o (by simp_all)
 . by_cases a:b=r
   . simp_all
   . exact h.tail b m (by simp_all)
 . by_cases a:b=r
   . subst a;rw[d]at hb;cases hb
     exact⟨c,e,y,B,C⟩
   . exact h.part b g (by simp_all)
 . by_cases a:b=r
   . subst a;exact .inl ⟨_,p,trivial⟩
   . rw[n b a]at A;exact .inl ⟨x,A,.refl x⟩
 . by_cases hb:b=r/\f i=none
   . obtain⟨rfl,_⟩:=hb;exact .inr (.inl (.inl ⟨_,p⟩))
   . exact .inl (by simpa only[ai.Iz,hb,if_false]using l)
 grind
section
variable{P:Program}{m:Mo}{Q:ai->aj->Goroutine->Prop}{k:ai}{O:aj}{g:Goroutine}{σ:aa}
theorem T.part{r:Nat}{c:Array Value}{e:TypeId}{f:Nat->Option Value}(d:O r=some (.obj (.cells c e (0,0))))(p:∀i v,f i=some v->c[i]?=some v)(b:g.status=.running)
 (h:∀k' O',k.Le k'->k'.sh r=some (e,c.size)->(∀j v,f j=none->c[j]?=some v->k'.cell r j=some v)->O'=O.set r (.part f)->T P m Q k' O' g):T P m Q k O g:=by
 by_cases a:∃w,Sat k O w
 . obtain⟨w,l⟩:=a
   have q:=(jx (k:=k) d w l).2.le;have o:=C8 (k:=k.dQ r (e,c.size)) (f:=f) d (by simp[ai.dQ]) p;have n:(k.dQ r (e,c.size)).Le ((k.dQ r (e,c.size)).Iz r c f):=(o w (jx (k:=k) d w l).1).2.le;exact .ghost (jx d) (.ghost o (h _ _ (q.trans n) (by simp[ai.Iz,ai.dQ]) (λj v s t=>by simp[ai.Iz,s,t]) rfl))
 . exact .step (λ_ _ _=>False) b (λ_ _ _ h=>h.elim) λw l=>absurd ⟨w,l⟩ a
theorem T.NX{b:Nat}{l:List AV}{hole:List Nat}{f:Nat->Option Value}(r:Rel k O σ)(hb:σ b=some (.cells l))(w:∀i v,f i=some v->l[i]?=some (.lit v))(E:∀i,f i=none↔i∉hole)(o:g.status=.running)
 (h:∀k' O',k.Le k'->(∀off,V k' (.pointer (some ⟨b,off,none⟩)) (.kp b l hole off))->Rel k' O' (σ.set b (.part f))->T P m Q k' O' g):T P m Q k O g:=by
 obtain⟨y,x,z⟩:=r.1 b _ hb (by simp);cases z with
 | cells c e _ F s A=>
   refine T.part (f:=f) x (λi v B=>?_) o λk' O' n p G q=>?_
   . have C:=w i v B
     have d:i<c.size:=by grind
     have t:=s i c[i] _ (by simp[d]) C;have:c[i]=v:=by generalize c[i]=u at t;cases t;rfl
     grind
   . refine h k' O' n (λoff=>.kp b off c.size e l hole (λj=>c.getD j undef) p (by omega) (λj H D=>?_) (λj a D ha=>?_)) ?_
     . have d:j<c.size:=by omega
       refine⟨?_,?_⟩
       . simp_all
       . simp only[Array.getD,d,dif_pos]
         exact A j _ (by simp[d])
     . have d:j<c.size:=by grind
       simp only[Array.getD,d,dif_pos];exact(s j _ a (by simp[d]) ha).mono n
     . rw[q]
       exact(r.mono n).set (.part f)
theorem aB.share{f:FuncId}{args:List AV}{j KF0:cJ->aa->Prop}(h:aB P m f args σ KF0)
 (u:∀r σ',KF0 r σ'->j r σ'\/∃b l hole F,r=.val (.ref b 0)/\σ' b=some (.cells l)/\(∀i v,F i=some v->l[i]?=some (.lit v))/\(∀i,F i=none↔i∉hole)/\j (.val (.kp b l hole 0)) (σ'.set b (.part F))):aB P m f args σ j:=by
 intro Q k O a c rest kind w x y z H;refine h Q k O a c rest kind w x y (λA B C D σ' d s t n=>?_) (λA B C D σ' d s t n=>?_)
 . rcases u _ _ n with n|⟨b,l,hole,F,e,hb,E,G,o⟩
   . grind
   . cases e
     cases s;exact T.NX t hb E G (by cases kind<;>rfl) λI J g p q=>z _ _ _ _ _ (d.trans g) (p 0) q o
 grind
end
structure FW(P:Program)(mt kt et:Nat){κ:Type}[BEq κ](ka:κ->AV)(kv:κ->Value):Prop where
 hm:P.underlying mt=some (.map kt et)
 hk:∃fs,P.underlying kt=some (.struct fs)
 val:∀{k:ai}{v:Value}{n:κ},V k v (ka n)->v=kv n
 H4:∀{k:ai}{O:aj}{Kp:Value->ai->aj->Prop}{b:Bool}{n:κ}{K:Unit->ai->aj->Prop},K () k O->dk P (Instr.checkKey b 10000 kt (kv n)) k O K Kp
 eq:∀{k:ai}{O:aj}{Kp:Value->ai->aj->Prop}{a b:κ}{K:Bool->ai->aj->Prop},K (a==b) k O->dk P (Op.equal kt (kv a) (kv b)) k O K Kp
section
variable{κ:Type}[BEq κ]{ka:κ->AV}{kv:κ->Value}
def lX(ka:κ->AV)(l:List (κ × AV)):fy:=.map (l.map λp=>(ka p.1,p.2))
def cS(l:List (κ × AV))(n:κ):Option AV:=(l.find? λp=>n==p.1).map (·.2)
variable{P:Program}(L:hQ P){k:ai}{O:aj}{Kp:Value->ai->aj->Prop}{mt kt et:Nat}
theorem bY{K:TypeDesc->ai->aj->Prop}{t:Nat}{d:TypeDesc}(a:P.underlying t=some d)(h:K d k O):dk P (underlying t) k O K Kp:=by unfold underlying;refine ag (bb ?_);rw[a];exact h
theorem nG(M:FW P mt kt et ka kv){n:κ}{K:Option (Nat × Value)->ai->aj->Prop}:∀(es:List MapEntry) (l:List (κ × AV)) (j:Nat),es.length=l.length->(∀(j:Nat) e p,es[j]?=some e->l[j]?=some p->V k e.key (ka p.1)/\V k e.val p.2) ->
 (∀a v j,cS l n=some a->V k v a->K (some (j,v)) k O)->(cS l n=none->K none k O)->dk P (Instr.findAsking kt (kv n) es j) k O K Kp
 |[],[],j,_,_,_,h=>by rw[Instr.findAsking];exact ah (h rfl)
 | e ::es,p::l,j,o,d,b,f=>by
   obtain⟨g,i⟩:=d 0 e p rfl rfl;rw[Instr.findAsking,M.val g];refine ag (M.eq ?_);cases c:(n==p.1)with
   |true=>simp only[if_true];exact ah (b p.2 _ _ (by simp[cS,c]) i)
   | false=>
     simp only[Bool.false_eq_true,if_false];have m:cS (p::l) n=cS l n:=by simp[cS,c]
     rw[m]at b f;exact nG M es l (j+1) (by simp_all) (λj e p q c=>d (j+1) e p (by simp_all) (by simp_all)) b f
 |[],_::_,_,h,_,_,_=>by simp at h
 |_::_,[],_,h,_,_,_=>by simp at h
theorem qK(M:FW P mt kt et ka kv){n:κ}{K:Option (Nat × Value)->ai->aj->Prop}{es:List MapEntry}{l:List (κ × AV)}(b:es.length=l.length)(d:∀(j:Nat) e p,es[j]?=some e->l[j]?=some p->V k e.key (ka p.1)/\V k e.val p.2)
 (f:∀a v j,cS l n=some a->V k v a->K (some (j,v)) k O) (c:cS l n=none->K none k O):dk P (Instr.findKey kt (kv n) es) k O K Kp:=by
 obtain⟨fs,g⟩:=M.hk;unfold Instr.findKey;refine ag (bY g ?_);cases es with
 | nil=>
   cases l with
   |nil=>exact ah (c rfl)
   |cons p l=>simp at b
 | cons e es=>
   have:Instr.findNow (.struct fs) (kv n) (e::es) 0=none:=by simp[Instr.findNow,Instr.sameNow]
   rw[this];exact nG M _ l 0 b d f c
omit [BEq κ] in
theorem ER{σ:aa}(c:Rel k O σ){b:Nat}{l:List (κ × AV)}(hb:σ b=some (lX ka l)):∃es clock,O b=some (.obj (.map es clock))/\es.toList.length=l.length/\∀(j:Nat) e p,es.toList[j]?=some e->l[j]?=some p->V k e.key (ka p.1)/\V k e.val p.2:=by
 obtain⟨x,d,a⟩:=c.1 b _ hb (by simp[lX]);unfold lX at a;cases a with
 | map es clock m f g=>
   refine⟨es,clock,d,by simpa using f,λj e p h i=>?_⟩;exact g j e (ka p.1,p.2) (by simpa using h) (by simp[i])
variable{o:Oper}{env:Env}{σ:aa}{K Kq:AV->aa->Prop}
theorem vp(M:FW P mt kt et ka kv){p:TI}{x m:Operand}{b:Nat}{l:List (κ × AV)}{n:κ}{two:Bool}(y:o.op=.lookup mt x m two)(q:L.tt et=some p)(z:au env x=.map b)(A:au env m=ka n)(hb:σ b=some (lX ka l))
 (e:K (if two then .bp [(cS l n).getD (iP p.zero),.lit (.bool (cS l n).isSome)]else(cS l n).getD (iP p.zero)) σ):aJ P o env σ K Kq:=
 aJ.val (s:=λf=>Instr.lookup mt (f x) (f m) two) (λf=>by simp[execOp,y]) λk O f g h=>by
  have r:=g x (by simp_all);have w:=g m (by simp_all);rw[z]at r;rw[A]at w;rw[M.val w];generalize f x=G at r;cases r;obtain⟨es,clock,B,C,D⟩:=ER h hb;unfold Instr.lookup;refine ag (bY M.hm ?_);simp only;refine ag (s:=getObj b) ⟨_,B,rfl,ah ?_⟩;refine ag (ah ?_);refine ag (M.H4 ?_);refine ag (qK M C D (λa v j t E=>?_) (λt=>?_))
  . simp only
    refine ag (ah ?_);rw[t]at e;cases two with
    |false=>exact ah (.here ⟨.refl k,_,σ,E,h,e⟩)
    |true=>
    refine ah (.here ⟨.refl k,_,σ,.bp _ _ rfl (λi u F d c=>?_),h,e⟩)
    match i with
    |0=>simp_all
    |1=>simp at d c;subst d;subst c;exact .lit _
    |i+2=>simp at c
  . simp only
    refine ag (cD L q ?_);refine ag (ah ?_);rw[t]at e;cases two with
    |false=>exact ah (.here ⟨.refl k,_,σ,.iP k _,h,e⟩)
    |true=>
    refine ah (.here ⟨.refl k,_,σ,.bp _ _ rfl (λi u F d c=>?_),h,e⟩)
    match i with
    |0=>simp at d c;subst d;subst c;exact .iP k _
    |1=>simp at d c;subst d;subst c;exact .lit _
    |i+2=>simp at c
theorem pG(M:FW P mt kt et ka kv){x f y:Operand}{b:Nat}{l:List (κ × AV)}{n:κ}{a:AV}(r:o.op=.mapUpdate mt x f y)(t:au env x=.map b)(u:au env f=ka n)(w:au env y=a)(hb:σ b=some (lX ka l))(G:cS l n=none)
 (z:K (.lit undef) (σ.set b (lX ka (l++[(n,a)])))):aJ P o env σ K Kq:=λk O d c m=>by
 have g:=c x (by simp_all);have h:=c f (by simp_all);have A:=c y (by simp_all);rw[t]at g;rw[u]at h;rw[w]at A;have B:execOp d o=(do Instr.mapUpdate mt (d x) (d f) (d y);pure .skip):=by simp[execOp,r]
 rw[B];have i:=h;rw[M.val h]at i ⊢;generalize d x=H at g;cases g;obtain⟨es,clock,q,C,D⟩:=ER m hb;unfold Instr.mapUpdate;refine ag (ag (bY M.hm ?_));simp only;refine ag (s:=getObj b) ⟨_,q,rfl,ah ?_⟩;simp only;refine ag (M.H4 ?_);refine ag (qK M C D (λa v j I J=>by simp_all) (λ_=>?_));simp only;refine⟨⟨_,q,rfl⟩,rfl,ah ?_⟩;refine⟨undef,.inr ⟨rfl,rfl⟩,.here ⟨.refl k,.lit undef,_,.lit _,m.set (.map _ _ _ ?_ (λj e p E F=>?_)),z⟩⟩
 . simp_all
 . rw[Array.getElem?_push]at E
   rw[List.map_append]at F
   grind
omit [BEq κ] in
theorem th{mt:Nat}(ka:κ->AV)(f:o.op=.makeMap mt none)(g:∀b,σ b=none->K (.map b) (σ.set b (lX ka []))):aJ P o env σ K Kq:=
 aJ.val (s:=λc=>Instr.makeMap mt none) (λc=>by simp[execOp,f]) λk O c h d=>by
  unfold Instr.makeMap;simp only;refine ag (s:=newObj _) ⟨rfl,λr a=>ah ?_⟩;exact .here ⟨.made a.2.2,_,_,.map r,(d.mono (.made a.2.2)).set (.map _ _ _ rfl λj e p i=>by simp at i),g r (d.isNone a.1 a.2.2)⟩
end
structure IA(P:Program)(mt kt et ft:Nat)(kd:IntKind):Prop where
 hm:P.underlying mt=some (.map kt et)
 hk:∃f,P.underlying kt=some (.struct #[f])/\(f.name≠ "_")/\f.type=ft/\f.offset=0
 hf:P.underlying ft=some (.int kd)
 hs:P.stoodInHeld kt=false
structure AY(P:Program)(mt kt et ft:Nat)(kd:IntKind):Prop where
 hm:P.underlying mt=some (.map kt et)
 hk:∃f g,P.underlying kt=some (.struct #[f,g])/\(f.name≠ "_"/\g.name≠ "_")/\(f.type=ft/\g.type=ft)/\f.offset=0/\g.offset=1
 hf:P.underlying ft=some (.int kd)
 hs:P.stoodInHeld kt=false
def FX(kd:IntKind)(n:Int):AV:=.agg [.lit (.int kd n)]
def nW(kd:IntKind)(p:Int × Int):AV:=.agg [.lit (.int kd p.1),.lit (.int kd p.2)]
abbrev mapA(kd:IntKind)(l:List (Int × AV)):fy:=lX (FX kd) l
abbrev ES(l:List (Int × AV))(n:Int):Option AV:=cS l n
section
variable{P:Program}(L:hQ P){k:ai}{O:aj}{Kp:Value->ai->aj->Prop}{mt kt et ft:Nat}{kd:IntKind}
theorem fS{K:Value->ai->aj->Prop}{i:TI}{v:Value}{c:Array Value}{o:Nat}(ht:L.tt ft=some i)(ha:i.agg=false)(a:c[o]?=some v)(h:K v k O):dk P (part ft c o) k O K Kp:=by unfold part;refine ag (oD L ht ?_);rw[ha,a];exact ah h
theorem V.FX{k:ai}{v:Value}{kd:IntKind}{n:Int}(h:V k v (FX kd n)):v=.agg #[.int kd n]:=by
 cases h with
 | agg c l a b=>
   obtain⟨c⟩:=c
   match c,a with
   |[x],_=>have:=b 0 x (.lit (.int kd n)) rfl rfl;cases this;rfl
theorem V.nW{k:ai}{v:Value}{kd:IntKind}{n:Int × Int}(h:V k v (nW kd n)):v=.agg #[.int kd n.1,.int kd n.2]:=by
 cases h with
 | agg c l b a=>
   obtain⟨c⟩:=c
   match c,b with
   |[x,y],_=>have d:=a 0 x (.lit (.int kd n.1)) rfl rfl;have e:=a 1 y (.lit (.int kd n.2)) rfl rfl;cases d;cases e;rfl
variable{i:TI}(ht:L.tt ft=some i)(ha:i.agg=false)
include ht ha
theorem IA.key(M:IA P mt kt et ft kd):FW P mt kt et (bu.FX kd) (λn=>.agg #[.int kd n]) where
 hm:=M.hm
 hk:=let ⟨f,h,_⟩:=M.hk;⟨_,h⟩
 val:=V.FX
 H4 {k O Kp b n K} h:=by obtain⟨f,d,e,g,i⟩:=M.hk;show dk P (Instr.checkKey b (9998+1+1) kt (.agg #[.int kd n])) k O K Kp;rw[Instr.checkKey];refine ag (bY d ?_);simp only[List.forIn_toArray,List.forIn_cons,List.forIn_nil];rw[if_pos e,g,i];refine ag (ag (ag (fS L ht ha rfl ?_)));rw[Instr.checkKey];refine ag (ag (bY M.hf ?_));exact ah (ah (ah (ah h)))
 eq {k O Kp a b K} h:=by
  obtain⟨f,d,e,g,i⟩:=M.hk;show dk P (Op.equalIn (9998+1+1) kt (.agg #[.int kd a]) (.agg #[.int kd b])) k O K Kp;rw[Op.equalIn];refine ag (bY d ?_);refine ag (bb ?_);rw[M.hs];simp only[Bool.false_eq_true,if_false,List.forIn_toArray,List.forIn_cons,List.forIn_nil];rw[if_pos e,g,i];refine ag (ag (ag (fS L ht ha (v:=.int kd a) rfl ?_)));refine ag (fS L ht ha (v:=.int kd b) rfl ?_);refine ag ?_;rw[Op.equalIn];refine ag (bY M.hf ?_);simp only[if_true];refine ah ?_;cases c:(a==b)with
  |true=>rw[c]at h;exact ah (ah (ah h))
  |false=>rw[c]at h;exact ah (ah (ah h))
theorem AY.key(M:AY P mt kt et ft kd):FW P mt kt et (bu.nW kd) (λn=>.agg #[.int kd n.1,.int kd n.2]) where
 hm:=M.hm
 hk:=let ⟨f,g,h,_⟩:=M.hk;⟨_,h⟩
 val:=V.nW
 H4 {k O Kp b n K} h:=by
  obtain⟨f,g,m,⟨o,c⟩,⟨p,d⟩,q,i⟩:=M.hk;show dk P (Instr.checkKey b (9998+1+1) kt (.agg #[.int kd n.1,.int kd n.2])) k O K Kp;rw[Instr.checkKey];refine ag (bY m ?_);simp only[List.forIn_toArray,List.forIn_cons,List.forIn_nil];rw[if_pos o,if_pos c,p,q,d,i];refine ag (ag (ag (fS L ht ha rfl ?_)));rw[Instr.checkKey];refine ag (ag (bY M.hf ?_));refine ah (ah ?_);refine ag (ag (fS L ht ha rfl ?_));refine ag (ag (bY M.hf ?_));exact ah (ah (ah (ah h)))
 eq {k O Kp a b K} h:=by
  obtain⟨f,g,m,⟨o,c⟩,⟨p,d⟩,q,i⟩:=M.hk;show dk P (Op.equalIn (9998+1+1) kt (.agg #[.int kd a.1,.int kd a.2]) (.agg #[.int kd b.1,.int kd b.2])) k O K Kp;rw[Op.equalIn];refine ag (bY m ?_);refine ag (bb ?_);rw[M.hs];simp only[Bool.false_eq_true,if_false,List.forIn_toArray,List.forIn_cons,List.forIn_nil];rw[if_pos o,if_pos c,p,q,d,i];refine ag (ag (ag (fS L ht ha (v:=.int kd a.1) rfl ?_)));refine ag (fS L ht ha (v:=.int kd b.1) rfl ?_);refine ag ?_;rw[Op.equalIn];refine ag (bY M.hf ?_);simp only[if_true];refine ah ?_;have e:(a==b)=(a.1==b.1 && a.2==b.2):=rfl;rw[e]at h;cases j:(a.1==b.1)with
  |false=>rw[j]at h;exact ah (ah (ah h))
  | true=>
    rw[j]at h;refine ah ?_;refine ag (ag (fS L ht ha (v:=.int kd a.2) rfl ?_));refine ag (fS L ht ha (v:=.int kd b.2) rfl ?_);refine ag ?_;refine ag (bY M.hf ?_);simp only[if_true];refine ah ?_;cases l:(a.2==b.2)with
    |true=>rw[l]at h;exact ah (ah (ah h))
    |false=>rw[l]at h;exact ah (ah (ah h))
end
end Go.bu
