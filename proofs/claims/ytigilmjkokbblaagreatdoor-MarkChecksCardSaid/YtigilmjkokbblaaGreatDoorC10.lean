/- Part 10 of the proof. -/
import Derived.KernelRfl
import Derived.Test.YtigilmjkokbblaaGreatDoorC9
set_option linter.all false
namespace Go.bd
open Go.Conc
section
variable{P:Program}(L:iG P){m:Mo}
theorem aB.start{f:FuncId}{fn:Func}{args:List AV}{σ:aa}{c:dV->aa->Prop}{body:Code}(mu:List Nat)(hold:List Entry)(k:Nat)(d:P.funcs[f]?=some fn)(hb:fn.body=some body)(e:args.length=k)(a:oa fn k=true)(b:mJ hold body=true)
 (h:bx L m f fn.ntmps none mu hold 1000 [.code body] ⟨dD args,σ,[],.no⟩ (QZ L m fn.results.toList (oc c))):aB P m f args σ c:=by
 simp only[oa,Bool.and_eq_true]at a;refine aB.thaw (aB.intro L d hb (by rw[e];exact Nat.le_of_ble_eq_true a.1) ?_ (Go.bx L mu hold 1000 (by simpa[lr]using b) h));have:=a.2;simpa using this
variable{fid n:Nat}{ro:Option Nat}{hold:List Entry}{s:St}{K:Exit->St->Prop}{k:List Item}
theorem ab.run(mu:List Nat){todo:List Item}(h:bx L m fid n ro mu hold 1000 todo s K):ab P m fid n ro hold todo s K:=λa=>Go.bx L mu hold 1000 a h
theorem an{f:FuncId}{fn:Func}{args:List AV}{σ:aa}{b:dV->aa->Prop}(c:P.funcs[f]?=some fn)(hb:fn.body.isSome=true)(a:(fn.name==  "runtime.NumGoroutine")=false)(h:aB P m f args σ b):
 cN P m (.fn (.func f) [] []) args σ b:=.func c hb a (by simpa using h)
theorem eL{f:FuncId}{fn:Func}{first cap args args':List AV}{σ:aa}{b:dV->aa->Prop}(c:P.funcs[f]?=some fn)(hb:fn.body.isSome=true)(a:(fn.name==  "runtime.NumGoroutine")=false)(d:first++args++cap=args')(h:aB P m f args' σ b):
 cN P m (.fn (.func f) first cap) args σ b:=.func c hb a (d ▸ h)
theorem ab.loop{c:Code}(N:Nat)(I:Nat->St->Prop)(g:I 0 s)
 (h:∀b i s,i<=N->I i s->(∀s',i<N->I (i+1) s'->ab P m fid n ro hold (.inLoop b::k) s' K)->ab P m fid n ro hold (.code c::.inLoop b::k) s K):ab P m fid n ro hold (.code (.loop c)::k) s K:=λe=>by
 have d:∀b,lr hold (.code c::.inLoop b::k)=true:=λb=>by simpa[lr,mJ]using e
 refine Go.loop (λa s=>∃i,a=N-i/\i<=N/\I i s) N ⟨0,by simp,by omega,g⟩ ?_;rintro b a s ⟨i,rfl,j,l⟩ o;exact h b i s j l (λs' p f _=>o (N-(i+1)) s' (by omega) ⟨i+1,rfl,by omega,f⟩) (d b)
theorem ab.weaken{todo:List Item}{σ:aa}(h:ab P m fid n ro hold todo {s with σ} K)(b:σ.Le s.σ):ab P m fid n ro hold todo s K:=λa=>(h a).weaken b
def Kw:Option Code->Bool
 |none=>true
 |some .ret=>true
 |some (.exit _)=>true
 |_=>false
theorem ab.rangeFunc{f:Operand}{params:Array Tmp}{assign body:Code}(i:Operand.ok n f=true)
 (h:lr hold [.code assign,.code body]=true->∀r l,s.σ r=none->s.σ l=none->r≠l->cN P m (ar s.env f) [.fn (.yield l) [] []] ((s.σ.set r (.raw (.deferred (some [])))).set l (.loop ⟨.ready,none,fid,n,s.env,params,assign,body,r⟩))
   (fun res σ'=>match res with
     |.val _=>∃a,σ' l=some (.loop a)/\a.state≠.busy/\Kw a.pending=true/\ab P m fid n none hold ((a.pending.map Item.code).toList++k) {s with σ:=σ'.del l,D:=.mark r::s.D} K
     |.panic v=>K (.panic v) {s with σ:=σ',D:=.mark r::s.D})):ab P m fid n none hold (.code (.rangeFunc f params assign body)::k) s K:=λd=>by
 have j:lr hold [.code assign,.code body]=true:=by simp only[lr,List.all_cons,mJ,Bool.and_eq_true]at d ⊢;exact⟨d.1.1,d.1.2,rfl⟩
 refine Go.rangeFunc i λr l a b c=>(h j r l a b c).mono λres σ' e=>?_
 cases res with
 |panic v=>exact e
 |val v=>obtain⟨o,p,q,g,t⟩:=e;refine⟨o,p,q,t ?_⟩;simp only[lr,List.all_cons,Bool.and_eq_true,List.all_append]at d ⊢;refine⟨?_,d.2⟩;unfold Kw at g;split at g<;>rename_i u<;>simp_all [mJ]
theorem cN.tP{l:Nat}{args:List AV}{σ:aa}{c:dV->aa->Prop}{a:mE}{fn:Func}(b:lr hold [.code a.assign,.code a.body]=true)(d:P.funcs[a.fn]?=some fn)(e:σ l=some (.loop a))(f:args.length=a.params.size)
 (h:ab P m a.fn a.n (some l) hold [.code a.assign,.beginRound,.code a.body] ⟨gg a.env a.params.toList args,σ,[],.no⟩ (JQ l c)):cN P m (.fn (.yield l) [] []) args σ c:=
 .yield d e f (h (by simp only[lr,List.all_cons,Bool.and_eq_true]at b ⊢;exact⟨b.1,trivial,b.2⟩))
theorem ab.beginRound{l:Nat}{a:mE}(c:s.σ l=some (.loop a))(ha:a.state=.ready)(h:ab P m fid n (some l) hold k {s with σ:=s.σ.set l (.loop {a with state:=.busy})} K):ab P m fid n (some l) hold (.beginRound::k) s K:=λb=>.beginRound c ha (h (by simpa[lr,mJ]using b))
theorem ab.freeze{todo:List Item}{env a:Env}{σ σ':aa}{D:List lQ}{rc:Rec}(b:Nat)(l:List AV)(hb:σ b=some (.cells l))(c:∀t,Fz b l (env t) (a t))(e:Hw b l σ σ')
 (h:ab P m fid n ro hold todo ⟨a,σ',D,rc⟩ K):ab P m fid n ro hold todo ⟨env,σ,D,rc⟩ K:=λd=>Go.freeze b l hb c e (h d)
end
theorem aa.le_refl(σ:aa):σ.Le σ:=λ_ _ h=>h
theorem aa.le_trans{a b c:aa}(h:a.Le b)(d:b.Le c):a.Le c:=λx y e=>d x y (h x y e)
theorem aa.dg{σ0 σ:aa}{b:Nat}{x:jB}(h:σ0.Le σ)(hb:σ b=none):σ0.Le (σ.set b x):=λc y a=>by
 by_cases e:c=b
 . subst e;have:=h _ _ a;rw[hb]at this;cases this
 . simp only[aa.set,e,if_false];exact h _ _ a
theorem aa.ia{σ0 σ:aa}{b:Nat}{x:jB}(h:σ0.Le σ)(hb:σ0 b=none):σ0.Le (σ.set b x):=λc y a=>by
 by_cases e:c=b
 . subst e;rw[hb]at a;cases a
 . simp only[aa.set,e,if_false];exact h _ _ a
theorem aa.jT{σ0 σ:aa}{b:Nat}(h:σ0.Le σ)(hb:σ0 b=none):σ0.Le (σ.del b):=λc y a=>by
 by_cases e:c=b
 . subst e;rw[hb]at a;cases a
 . simp only[aa.del,e,if_false];exact h _ _ a
theorem aa.aF{σ:aa}{b c:Nat}{x:jB}(h:(σ.set b x) c=none):c≠b/\b≠c/\σ c=none:=by
 by_cases e:c=b
 . subst e;simp[aa.set]at h
 . simp only[aa.set,e,if_false]at h
   exact⟨e,λa=>e a.symm,h⟩
@[simp] theorem aa.ak(σ:aa)(b:Nat)(x:jB):(σ.set b x) b=some x:=by simp[aa.set]
theorem aa.ag(σ:aa){b c:Nat}(x:jB)(h:c≠b):(σ.set b x) c=σ c:=by simp[aa.set,h]
@[simp] theorem aa.set_set(σ:aa)(b:Nat)(x y:jB):(σ.set b x).set b y=σ.set b y:=by funext c;by_cases e:c=b<;>simp[aa.set,e]
section
variable{P:Program}(L:iG P)(m:Mo)(fid n f:Nat)(ro:Option Nat)(mu:List Nat)(hold:List Entry)
def stepW(ops:Array Oper)(is:List Nat)(k:List Item)(dst:Option Tmp)(s:St)(K:Exit->St->Prop)(x:Out):Prop:=rk x (λa b=>bx L m fid n ro mu hold f (.inRegion ops is::k) {s with env:=bo s.env dst a,σ:=b} K) (λa b=>K (.panic a) {s with σ:=b})
def SB(ops:Array Oper)(is:List Nat)(k:List Item)(dst:Option Tmp)(s:St)(K:Exit->St->Prop)(σ:aa)(x:Option AV):Prop:=stepW L m fid n f ro mu hold ops is k dst s K (.opt x σ)
def bL(ops:Array Oper)(is:List Nat)(k:List Item)(dst:Option Tmp)(s:St)(K:Exit->St->Prop)(σ:aa)(c:List AV):Prop:=stepW L m fid n f ro mu hold ops is k dst s K (.new σ c)
def vv(ops:Array Oper)(i:Nat)(is:List Nat)(k:List Item)(o:Oper)(s:St)(K:Exit->St->Prop)(x:Option Bool):Prop:=
 Ny x (if pD L o=true then rk (A7 L mu o s.env s.σ) (λa b=>bx L m fid n ro mu hold f (.inRegion ops is::k) {s with env:=bo s.env o.dst a,σ:=b} K) (λa b=>K (.panic a) {s with σ:=b})
        else if uO o.op=true then Nz (P:=P) m o s.env s.σ (λa b=>ab P m fid n ro hold (.inRegion ops is::k) {s with env:=bo s.env o.dst a,σ:=b} K) (λa b=>∀env,K (.panic a) {s with env,σ:=b})
        else ab P m fid n ro hold (.inRegion ops (i::is)::k) s K) (bx L m fid n ro mu hold f (.inRegion ops is::k) {s with env:=bo s.env o.dst (.lit (.tuple #[]))} K)
def aI(a b:Code)(k:List Item)(s:St)(K:Exit->St->Prop)(x:Bool):Prop:=uM x (bx L m fid n ro mu hold f (.code a::k) s K) (bx L m fid n ro mu hold f (.code b::k) s K)
def SC(P:Program)(m:Mo)(fid n:Nat)(ro:Option Nat)(hold:List Entry)(k:List Item)(s:St)(K:Exit->St->Prop):Env->aa->Prop:=λenv σ=>ab P m fid n ro hold k {s with env,σ} K
def SD(s:St)(K:Exit->St->Prop):AV->aa->Prop:=λv σ=>∀env,K (.panic v) {s with env,σ}
variable{L m fid n f ro mu hold}{s:St}{K:Exit->St->Prop}{k:List Item}{ops:Array Oper}{i:Nat}{is:List Nat}{dst:Option Tmp}{σ:aa}
@[simp] theorem SE{env:Env}:SC P m fid n ro hold k s K env σ=ab P m fid n ro hold k {s with env,σ} K:=propext Iff.rfl
@[simp] theorem SF{v:AV}:SD s K v σ=∀env,K (.panic v) {s with env,σ}:=propext Iff.rfl
@[simp] theorem SG{a:AV}:stepW L m fid n f ro mu hold ops is k dst s K (.ok a σ)=bx L m fid n ro mu hold f (.inRegion ops is::k) {s with env:=bo s.env dst a,σ:=σ} K:=propext Iff.rfl
@[simp] theorem Qh{p:Prop}{x:Out}:stepW L m fid n f ro mu hold ops is k dst s K (.gQ p x)=(p/\stepW L m fid n f ro mu hold ops is k dst s K x):=propext Iff.rfl
@[simp] theorem Rb{c:List AV}:stepW L m fid n f ro mu hold ops is k dst s K (.new σ c)=bL L m fid n f ro mu hold ops is k dst s K σ c:=propext Iff.rfl
@[simp] theorem Rc{x:Option AV}:stepW L m fid n f ro mu hold ops is k dst s K (.opt x σ)=SB L m fid n f ro mu hold ops is k dst s K σ x:=propext Iff.rfl
@[simp] theorem Rd{a:AV}:SB L m fid n f ro mu hold ops is k dst s K σ (some a)=bx L m fid n ro mu hold f (.inRegion ops is::k) {s with env:=bo s.env dst a,σ:=σ} K:=propext Iff.rfl
theorem bL.intro{c:List AV}(h:∀b,σ b=none->bx L m fid n ro mu hold f (.inRegion ops is::k) {s with env:=bo s.env dst (.ref b 0),σ:=σ.set b (.cells c)} K):bL L m fid n f ro mu hold ops is k dst s K σ c:=h
@[simp] theorem SH{o:Oper}:vv L m fid n f ro mu hold ops i is k o s K (some true)=(if pD L o=true then stepW L m fid n f ro mu hold ops is k o.dst s K (A7 L mu o s.env s.σ)
   else if uO o.op=true then Nz (P:=P) m o s.env s.σ (λa σ'=>ab P m fid n ro hold (.inRegion ops is::k) {s with env:=bo s.env o.dst a,σ:=σ'} K) (λa σ'=>∀env,K (.panic a) {s with env,σ:=σ'})
   else ab P m fid n ro hold (.inRegion ops (i::is)::k) s K):=by unfold vv;rw[nA,od];rfl
@[simp] theorem Re{o:Oper}:vv L m fid n f ro mu hold ops i is k o s K (some false)=bx L m fid n ro mu hold f (.inRegion ops is::k) {s with env:=bo s.env o.dst (.lit (.tuple #[]))} K:=by unfold vv;rw[nA,mI]
theorem vv.intro{o:Oper}{x:Bool}(a:x=true->vv L m fid n f ro mu hold ops i is k o s K (some true))(b:x=false->vv L m fid n f ro mu hold ops i is k o s K (some false)):vv L m fid n f ro mu hold ops i is k o s K (some x):=by cases x with|true=>exact a rfl|false=>exact b rfl
@[simp] theorem Qi{a b:Code}:aI L m fid n f ro mu hold a b k s K true=bx L m fid n ro mu hold f (.code a::k) s K:=by unfold aI;rw[od]
@[simp] theorem Pn{a b:Code}:aI L m fid n f ro mu hold a b k s K false=bx L m fid n ro mu hold f (.code b::k) s K:=by unfold aI;rw[mI]
@[simp] theorem Rf{a b:Code}{x:Bool}:aI L m fid n f ro mu hold a b k s K (!x)=aI L m fid n f ro mu hold b a k s K x:=by cases x<;>simp
theorem aI.intro{a b:Code}{x:Bool}(c:x=true->bx L m fid n ro mu hold f (.code a::k) s K)(d:x=false->bx L m fid n ro mu hold f (.code b::k) s K):aI L m fid n f ro mu hold a b k s K x:=⟨c,d⟩
@[simp] theorem SI :bx L m fid n ro mu hold (f+1) ([]) s K=K (.leave none) s:=propext Iff.rfl
@[simp] theorem SJ :bx L m fid n ro mu hold (f+1) (.code .ret::k) s K=K (.leave (some .ret)) s:=propext Iff.rfl
@[simp] theorem Rg :bx L m fid n ro mu hold (f+1) (.code .skip::k) s K=bx L m fid n ro mu hold f k s K:=propext Iff.rfl
@[simp] theorem Qj{l:Nat}:bx L m fid n ro mu hold (f+1) (.code (.label l)::k) s K=bx L m fid n ro mu hold f k s K:=propext Iff.rfl
@[simp] theorem Od{id:Nat}:bx L m fid n ro mu hold (f+1) (.inBlock id::k) s K=bx L m fid n ro mu hold f k s K:=propext Iff.rfl
@[simp] theorem SK{a b:Code}:bx L m fid n ro mu hold (f+1) (.code (.seq a b)::k) s K=bx L m fid n ro mu hold f (.code a::.code b::k) s K:=propext Iff.rfl
@[simp] theorem Qk{id:Nat}{c:Code}:bx L m fid n ro mu hold (f+1) (.code (.block id c)::k) s K=bx L m fid n ro mu hold f (.code c::.inBlock id::k) s K:=propext Iff.rfl
@[simp] theorem Ql{c:Code}:bx L m fid n ro mu hold (f+1) (.code (.scope c)::k) s K=bx L m fid n ro mu hold f (.code c::.inScope c::k) s K:=propext Iff.rfl
@[simp] theorem Rh{id:Nat}:bx L m fid n ro mu hold (f+1) (.code (.exit id)::k) s K=(match exitTo id k with
   |some k'=>bx L m fid n ro mu hold f k' s K
   |none=>K (.leave (some (.exit id))) s):=propext Iff.rfl
@[simp] theorem Rk{c:Operand}{a b:Code}:bx L m fid n ro mu hold (f+1) (.code (.cond c a b)::k) s K=(Operand.ok n c=true/\(match ar s.env c with
   |.lit (.bool x)=>aI L m fid n f ro mu hold a b k s K x
   |_=>False)):=propext Iff.rfl
@[simp] theorem Po{id:Nat}:bx L m fid n ro mu hold (f+1) (.code (.region id ops false)::k) s K=bx L m fid n ro mu hold f (.inRegion ops (List.range ops.size)::k) s K:=propext Iff.rfl
@[simp] theorem Rl{id:Nat}:bx L m fid n ro mu hold (f+1) (.code (.region id ops true)::k) s K=(match hold.find? λe=>e.id==id with
   |some ⟨_,p⟩=>gZ L m mu ops n (SD s K) p s.env s.σ (SC P m fid n ro hold k s K)
   |none=>ab P m fid n ro hold (.code (.region id ops true)::k) s K):=propext Iff.rfl
@[simp] theorem Kx :bx L m fid n ro mu hold (f+1) (.inRegion ops []::k) s K=bx L m fid n ro mu hold f k s K:=propext Iff.rfl
@[simp] theorem No :bx L m fid n ro mu hold (f+1) (.inRegion ops (i::is)::k) s K=(match ops[i]? with
   |some o=>Oper.ok n o=true/\vv L m fid n f ro mu hold ops i is k o s K (wB ops n s.env o)
   |none=>ab P m fid n ro hold (.inRegion ops (i::is)::k) s K):=propext Iff.rfl
@[simp] theorem Rm{c:Code}:bx L m fid n ro mu hold (f+1) (.code (.loop c)::k) s K=ab P m fid n ro hold (.code (.loop c)::k) s K:=propext Iff.rfl
@[simp] theorem Pp{c:Code}:bx L m fid n ro mu hold (f+1) (.inLoop c::k) s K=ab P m fid n ro hold (.inLoop c::k) s K:=propext Iff.rfl
@[simp] theorem Ky{x:Operand}{a:Array Tmp}{c d:Code}:bx L m fid n ro mu hold (f+1) (.code (.rangeFunc x a c d)::k) s K=ab P m fid n ro hold (.code (.rangeFunc x a c d)::k) s K:=propext Iff.rfl
@[simp] theorem JD :bx L m fid n ro mu hold (f+1) (.beginRound::k) s K=ab P m fid n ro hold (.beginRound::k) s K:=propext Iff.rfl
end
section
variable{P:Program}(L:iG P)(m:Mo)(n:Nat)(mu:List Nat)(ops:Array Oper)(Kp:AV->aa->Prop)(R:Env->aa->Prop)
def xp(lt:Bool)(σ:aa)(p:kS)(S:List Nat)(env:Env):Prop:=Ey L mu ops n lt σ (λa=>gZ L m mu ops n Kp p a σ R) .mk S env
def C6(lt:Bool)(σ:aa)(p:kS)(S:List Nat)(dst:Option Tmp)(env:Env)(x:Option AV):Prop:=yJ x λa=>xp L m n mu ops Kp R lt σ p S (bo env dst a)
def JC(lt:Bool)(σ:aa)(p:kS)(S:List Nat)(o:Oper)(env:Env)(x:Option Bool):Prop:=Ny x (C6 L m n mu ops Kp R lt σ p S o.dst env (Ew L mu lt o env σ)) (xp L m n mu ops Kp R lt σ p S (bo env o.dst (.lit (.tuple #[]))))
def va(p:kS)(dst:Option Tmp)(env:Env)(x:Out):Prop:=rk x (λa b=>gZ L m mu ops n Kp p (bo env dst a) b R) Kp
def SL(p:kS)(dst:Option Tmp)(env:Env)(σ:aa)(x:Option AV):Prop:=va L m n mu ops Kp R p dst env (.opt x σ)
def pI(p:kS)(dst:Option Tmp)(env:Env)(σ:aa)(c:List AV):Prop:=va L m n mu ops Kp R p dst env (.new σ c)
def Rn(i:Nat)(p:kS)(o:Oper)(env:Env)(σ:aa)(x:Option Bool):Prop:=
 Ny x (if pD L o=true then rk (A7 L mu o env σ) (λa b=>gZ L m mu ops n Kp p (bo env o.dst a) b R) Kp else
    if uO o.op=true then Nz (P:=P) m o env σ (λa b=>aU P m ops n Kp p (bo env o.dst a) b R) Kp else jh P m ops n Kp i env σ (λenv σ=>aU P m ops n Kp p env σ R)) (gZ L m mu ops n Kp p (bo env o.dst (.lit (.tuple #[]))) σ R)
variable{L m n mu ops Kp R}{i:Nat}{lt:Bool}{env:Env}{σ:aa}{p q:kS}{S:List Nat}{dst:Option Tmp}
@[simp] theorem Ro:gZ L m mu ops n Kp .done env σ R=R env σ:=propext Iff.rfl
@[simp] theorem Rq:gZ L m mu ops n Kp (.take S lt p) env σ R=xp L m n mu ops Kp R lt σ p S env:=propext Iff.rfl
@[simp] theorem SM:gZ L m mu ops n Kp (.one i p) env σ R=(match ops[i]? with|some o=>Oper.ok n o=true/\Rn L m n mu ops Kp R i p o env σ (wB ops n env o)|none=>False):=propext Iff.rfl
@[simp] theorem Rr:gZ L m mu ops n Kp (.both i p q) env σ R=((match ops[i]? with|some o=>Oper.ok n o=true/\Rn L m n mu ops Kp R i p o env σ (wB ops n env o)|none=>False)/\gZ L m mu ops n Kp q env σ R):=propext Iff.rfl
@[simp] theorem Rs:xp L m n mu ops Kp R lt σ p [] env=gZ L m mu ops n Kp p env σ R:=propext Iff.rfl
@[simp] theorem Qm:xp L m n mu ops Kp R lt σ p (i::S) env=(match ops[i]? with|some o=>(Oper.ok n o && o.dst.isSome)=true/\JC L m n mu ops Kp R lt σ p S o env (wB ops n env o)|none=>False):=propext Iff.rfl
@[simp] theorem Rt{a:AV}:C6 L m n mu ops Kp R lt σ p S dst env (some a)=xp L m n mu ops Kp R lt σ p S (bo env dst a):=by unfold C6;rw[Hy]
@[simp] theorem Ru:C6 L m n mu ops Kp R lt σ p S dst env none=False:=by unfold C6;rw[Hz]
@[simp] theorem Uq{c:Prop}[Decidable c]{x:Option AV}:C6 L m n mu ops Kp R lt σ p S dst env (if c then x else none)=(c/\C6 L m n mu ops Kp R lt σ p S dst env x):=by by_cases h:c<;>simp[h]
@[simp] theorem SN{o:Oper}:JC L m n mu ops Kp R lt σ p S o env (some true)=C6 L m n mu ops Kp R lt σ p S o.dst env (Ew L mu lt o env σ):=by unfold JC;rw[nA,od]
@[simp] theorem Rv{o:Oper}:JC L m n mu ops Kp R lt σ p S o env (some false)=xp L m n mu ops Kp R lt σ p S (bo env o.dst (.lit (.tuple #[]))):=by unfold JC;rw[nA,mI]
theorem JC.intro{o:Oper}{x:Bool}(a:x=true->JC L m n mu ops Kp R lt σ p S o env (some true))(b:x=false->JC L m n mu ops Kp R lt σ p S o env (some false)):JC L m n mu ops Kp R lt σ p S o env (some x):=by cases x with|true=>exact a rfl|false=>exact b rfl
@[simp] theorem SO{a:AV}:va L m n mu ops Kp R p dst env (.ok a σ)=gZ L m mu ops n Kp p (bo env dst a) σ R:=propext Iff.rfl
@[simp] theorem Qn{c:Prop}{x:Out}:va L m n mu ops Kp R p dst env (.gQ c x)=(c/\va L m n mu ops Kp R p dst env x):=propext Iff.rfl
@[simp] theorem Rw{c:List AV}:va L m n mu ops Kp R p dst env (.new σ c)=pI L m n mu ops Kp R p dst env σ c:=propext Iff.rfl
@[simp] theorem Rx{x:Option AV}:va L m n mu ops Kp R p dst env (.opt x σ)=SL L m n mu ops Kp R p dst env σ x:=propext Iff.rfl
@[simp] theorem Ry{a:AV}:SL L m n mu ops Kp R p dst env σ (some a)=gZ L m mu ops n Kp p (bo env dst a) σ R:=propext Iff.rfl
theorem pI.intro{c:List AV}(h:∀b,σ b=none->gZ L m mu ops n Kp p (bo env dst (.ref b 0)) (σ.set b (.cells c)) R):pI L m n mu ops Kp R p dst env σ c:=h
@[simp] theorem SP{o:Oper}:Rn L m n mu ops Kp R i p o env σ (some true)=(if pD L o=true then va L m n mu ops Kp R p o.dst env (A7 L mu o env σ)else
   if uO o.op=true then Nz (P:=P) m o env σ (λa σ'=>aU P m ops n Kp p (bo env o.dst a) σ' R) Kp else jh P m ops n Kp i env σ (λenv σ=>aU P m ops n Kp p env σ R)):=by unfold Rn;rw[nA,od];rfl
@[simp] theorem Rz{o:Oper}:Rn L m n mu ops Kp R i p o env σ (some false)=gZ L m mu ops n Kp p (bo env o.dst (.lit (.tuple #[]))) σ R:=by unfold Rn;rw[nA,mI]
end
@[simp] theorem Qo{l c:List AV}(h:c.length=l.length):aG l 0 c=c:=by unfold aG;simp[h]
@[simp high] theorem xq{l:List AV}{off:Nat}{v:AV}(h:off<l.length):aG l off [v]=l.set off v:=by unfold aG;rw[List.set_eq_take_append_cons_drop,if_pos h];simp
attribute [simp] Ew vu mG wv A7 pD wB uO Nz Nx Ev Function.comp_def
def oB(P:Program)(t:TypeId)(name:String)(f:FuncId)(a a':AV):Prop:=∀k O v (K:FuncId × Value->ah->ai->Prop) Kp,V k v a->(∀r,V k r a'->K (f,r) k O)->eh P (method (P.types.size+Made.depth) t v name) k O K Kp
section
variable{P:Program}{m:Mo}{fid n:Nat}{ro:Option Nat}{hold:List Entry}{s:St}{K:Exit->St->Prop}{k:List Item}
theorem qN{name:String}{recv:Value}{c a:Array Value}:Go.invoke (.fn (.method name) c) (#[recv]++a)=callMethod recv name a:=by
 have b:(#[recv]++a)[0]?=some recv:=by rw[Array.getElem?_append_left (by simp)];rfl
 have d:(#[recv]++a).extract 1 (#[recv]++a).size=a:=by apply Array.ext';rw[Array.toList_extract];simp[List.extract];rw[<-Array.length_toList,List.take_length]
 simp only[Go.invoke,b,d]
theorem ab.invoke{ops:Array Oper}{i:Nat}{is:List Nat}{o:Oper}{recv:Operand}{name:String}{args:Array Operand}{E:Array TypeId}{t f:Nat}{a a':AV}{fn:Func}(R:ops[i]?=some o)(l:o.op=.call ⟨.invoke recv name,args,E⟩)(W:o.guard=none)(z:Oper.ok n o=true)
 (X:ar s.env recv=.lg t a) (Y:oB P t name f a a') (Z:P.funcs[f]?=some fn) (hb:fn.body.isSome=true) (F:(fn.name==  "runtime.NumGoroutine")=false)
 (h:aB P m f (a'::args.toList.map (ar s.env)) s.σ (λr σ'=>match r with|.val x=>ab P m fid n ro hold (.inRegion ops is::k) {s with env:=bo s.env o.dst x,σ:=σ'} K|.panic v=>K (.panic v) {s with σ:=σ'})):
 ab P m fid n ro hold (.inRegion ops (i::is)::k) s K:=λH Q kk O tmps defs kind cs h1 g S=>by
 have hw:cu ops n s.env o:=by unfold cu;rw[W];trivial
 refine T.nZ (λw=>dS R (gO g.size g.env hw) (.inr λc e=>by rw[l]at e;cases e) w) (dQ ?_)
 have p:∀x∈o.op.operands,V kk (Frame.eval ⟨fid,tmps,.inRegion ops (i::is)::k,defs,.run,kind,ro⟩ x) (ar s.env x):=λx B=>by refine V.eval g.env g.size x ?_;simp only[Oper.ok,Bool.and_eq_true,Array.all_eq_true_iff_forall_mem]at z;exact z.1 x B
 have A:=p recv (by simp[l,Op.operands,Call.operands])
 rw[X]at A;have d:=Vs.ofArray (k:=kk) (ρ:=Frame.eval ⟨fid,tmps,.inRegion ops (i::is)::k,defs,.run,kind,ro⟩) (env:=s.env) (xs:=args) (λx B=>p x (by simp[l,Op.operands,Call.operands,B]))
 generalize hq:Frame.eval _ recv=cf at A;cases A with
 | lg _ v _ I=>
   simp only[execOp,l,resolve,hq];refine af (aj ?_);rw[qN];unfold callMethod;simp only;refine af (bN ?_);refine af (Y kk O v _ _ I λr J=>?_)
   simp only[callFunc];refine af (bN ?_);rw[Z];have L:fn.body.isNone=false:=by cases B:fn.body<;>simp_all
   simp only[F,L,Bool.false_eq_true,if_false];refine aj λ_=>⟨by simp,?_⟩
   have e:#[r]++args.map (Frame.eval ⟨fid,tmps,.inRegion ops (i::is)::k,defs,.run,kind,ro⟩)=(r::(args.map (Frame.eval ⟨fid,tmps,.inRegion ops (i::is)::k,defs,.run,kind,ro⟩)).toList).toArray:=by simp
   rw[e];refine h Q kk O _ ⟨fid,tmps,.inRegion ops (i::is)::k,defs,.run,kind,ro⟩ (gf s.rc cs) .normal (by simp) (.cons J ⟨by simpa using d.1,λj v a A ha=>d.2 j v a (by simpa using A) ha⟩) g.rel ?_ ?_
   . intro C D M U σ' b q u N
     obtain⟨y,e1,e2⟩:=g.put (fid:=fid) (ro:=ro) (rest:=is) (kk:=k) b R q u;show T P m Q C D (G (Frame.finish ⟨fid,tmps,.inRegion ops (i::is)::k,defs,.run,kind,ro⟩ M) (gf s.rc cs));rw[e1];exact N (by simpa[lr,mJ]using H) Q C D y defs kind cs h1 e2 (S.mono b)
   . intro C D M U σ' b q u N
     exact S.panic C D tmps defs {s with σ:=σ'} _ M U b ⟨g.size,g.env.mono b,u,g.ds.mono b,g.rc.mono b⟩ q N
theorem cQ{ops:Array Oper}{env:Env}{o:Oper}(a:o.guard=none):cu ops n env o:=by unfold cu;rw[a];trivial
theorem ab.defer{ops:Array Oper}{i:Nat}{is:List Nat}{o:Oper}{fo:Operand}{args:Array Operand}{a:Array TypeId}{f:Fn}{first cap:List AV}(b:ro=none)(j:ops[i]?=some o)(c:o.op=.defer ⟨.value fo,args,a⟩)(l:o.guard=none)(d:Oper.ok n o=true)
 (e:ar s.env fo=.fn f first cap) (h:ab P m fid n ro hold (.inRegion ops is::k) {s with env:=bo s.env o.dst .bC,D:=.call f cap (first++args.toList.map (ar s.env))::s.D} K):ab P m fid n ro hold (.inRegion ops (i::is)::k) s K:=
 λg=>Go.defer b j c (cQ l) d e (h (by simpa[lr,mJ]using g))
end
def GB(F a:Nat->Prop)(σ σ':aa):Prop:=∀b x,¬F b->σ b=some x->σ' b=some x/\¬a b
def bX:AV->Option Nat
 |.sl _ _ (.tok b _)=>some b
 |_=>none
def aa.off(σ:aa)(a:AV):aa:=match bX a with|some b=>σ.del b|none=>σ
theorem Tok.here{σ0 σ:aa}{a:AV}{kk:Nat}{es:List AV}(h:Tok σ0 σ a kk es):Tok (σ.off a) σ a kk es/\σ0.Le (σ.off a):=by
 obtain⟨f,g⟩:=h;rcases g with⟨rfl,rfl⟩|rfl|⟨b,e,i,rfl,j⟩
 . exact⟨⟨aa.le_refl _,.inl ⟨rfl,rfl⟩⟩,f⟩
 . exact⟨⟨aa.le_refl _,.inr (.inl rfl)⟩,f⟩
 . refine⟨⟨λc x d=>?_,.inr (.inr ⟨b,e,by simp[aa.off,bX,aa.del],rfl,j⟩)⟩,λc x d=>?_⟩
   . simp only[aa.off,bX,aa.del]at d
     split at d
     . cases d
     . exact d
   . have k:c≠b:=λe=>by subst e;rw[i]at d;cases d
     simp only[aa.off,bX,aa.del,k,if_false];exact f c x d
theorem Tok.base{σ0 c σ:aa}{a:AV}{kk:Nat}{es:List AV}(h:Tok c σ a kk es)(d:σ0.Le c):Tok σ0 σ a kk es:=by
 obtain⟨f,g⟩:=h;refine⟨aa.le_trans d f,?_⟩;rcases g with h|h|⟨b,e,i,j,k⟩
 . exact .inl h
 . exact .inr (.inl h)
 . refine .inr (.inr ⟨b,e,?_,j,k⟩)
   cases hb:σ0 b with
   |none=>rfl
   |some x=>have:=d b x hb;rw[i]at this;cases this
theorem Tok.beside{σ0 σ:aa}{a:AV}{kk:Nat}{es:List AV}(h:Tok σ0 σ a kk es){b:Nat}{x:jB}(hb:σ0 b=none)(ht:bX a≠some b):Tok σ0 (σ.set b x) a kk es:=by
 obtain⟨d,f⟩:=h;refine⟨aa.ia d hb,?_⟩;rcases f with h|h|⟨c,e,g,rfl,i⟩
 . exact .inl h
 . exact .inr (.inl h)
 . refine .inr (.inr ⟨c,e,g,rfl,?_⟩)
   have j:c≠b:=λe=>ht (by simp[bX,e])
   rw[aa.ag _ _ j];exact i
theorem Tok.bc{σ0 σ:aa}{a:AV}{kk:Nat}{es:List AV}(h:Tok σ0 σ a kk es){b:Nat}(hb:bX a=some b):σ0 b=none/\∃e,σ b=some (.tail e):=by
 obtain⟨i,d⟩:=h;rcases d with⟨rfl,rfl⟩|rfl|⟨c,e,f,rfl,g⟩
 . cases hb
 . cases hb
 . simp only[bX,Option.some.injEq]at hb
   subst hb;exact⟨f,e,g⟩
theorem Tok.cells{σ0 σ:aa}{a:AV}{kk:Nat}{es:List AV}(h:Tok σ0 σ a kk es):a.cells=[a]/\a.flat=true:=by
 obtain⟨_,b⟩:=h;rcases b with⟨rfl,rfl⟩|rfl|⟨c,e,d,rfl,f⟩<;>exact⟨rfl,rfl⟩
theorem aa.gh{σ:aa}{a:AV}{b:Nat}(h:bX a≠some b):σ.off a b=σ b:=by
 unfold aa.off;cases d:bX a with
 |none=>rfl
 | some c=>
   have:b≠c:=λe=>h (by rw[d,e])
   simp[aa.del,this]
inductive Wl:List AV->List AV->Prop
 |nil:Wl [] []
 |cons {a a':AV}{l l':List AV}:a.W a'->Wl l l'->Wl (a::l) (a'::l')
theorem Wl.len{l a:List AV}(h:Wl l a):l.length=a.length:=by
 induction h with
 |nil=>rfl
 |cons _ _ b=>simp[b]
theorem Wl.at{l c:List AV}(h:Wl l c):∀{i:Nat}{a':AV},c[i]?=some a'->∃a,l[i]?=some a/\a.W a':=by
 induction h with
 |nil=>intro i a' h;simp at h
 | @cons a b l c d f e=>
   intro i a' h;cases i with
   |zero=>simp at h;subst h;exact⟨a,by simp,d⟩
   |succ i=>simpa using e (by simpa using h)
theorem Vs.GC{k:ah}{c:List Value}{l e:List AV}(h:Vs k c l)(f:Wl l e):Vs k c e:=⟨by rw[h.1,f.len],λi v a g ha=>by obtain⟨b,hb,d⟩:=f.at ha;exact d k v (h.2 i v b g hb)⟩
theorem aB.GC{P:Program}{m:Mo}{f:FuncId}{args args':List AV}{σ:aa}{b:dV->aa->Prop}(h:aB P m f args' σ b)(d:Wl args args'):aB P m f args σ b:=λQ k O a c rest kind e g i j l=>h Q k O a c rest kind e (g.GC d) i j l
theorem aH{P:Program}{m:Mo}{f:FuncId}{fn:Func}{args args':List AV}{σ:aa}{b:dV->aa->Prop}(c:P.funcs[f]?=some fn)(hb:fn.body.isSome=true)(a:(fn.name==  "runtime.NumGoroutine")=false)(d:Wl args args')(h:aB P m f args' σ b):
 cN P m (.fn (.func f) [] []) args σ b:=an c hb a (h.GC d)
def ah.Kz(k:ah)(r:Nat)(c:Array Value)(f:Nat->Option Value):ah:={k with cell:=λb j=>if b=r/\f j=none then c[j]? else k.cell b j}
theorem Fb{k:ah}{O:ai}{r:Nat}{c:Array Value}{e:TypeId}{f:Nat->Option Value}(s:O r=some (.obj (.cells c e (0,0))))(D:k.sh r=some (e,c.size))(E:∀i v,f i=some v->c[i]?=some v):lP k O (k.Kz r c f) (O.set r (.part f)):=λw h=>by
 have z:=h.obj _ _ s
 have t:∀j,k.cell r j=none:=λj=>by
  cases q:k.cell r j with
  |none=>rfl
  |some v=>exact(h.apart _ _ _ q (.inl ⟨_,s⟩)).elim
 have u:k.Le (k.Kz r c f):=⟨λb i v n=>by
  have:¬(b=r/\f i=none):=λx=>by rw[x.1,t]at n;cases n
  simpa[ah.Kz,this]using n,λ_ _ h=>h⟩
 have l:∀b,b≠r->(O.set r (.part f)) b=O b:=λb hb=>by simp[ai.set,hb]
 have a:(O.set r (.part f)) r=some (.part f):=by simp[ai.set]
 refine⟨⟨λb i v n A=>?_,λb i v n=>?_,h.sh,λb o hb=>?_,λb m hb=>?_,λb g hb=>?_⟩,⟨u,Nat.le_refl _,λ_ _ _=>rfl,λ_ _ _ _ c _ h=>⟨c,h,rfl,λ_ _=>rfl⟩,λ_ _ _ _ c _ h=>⟨c,h,rfl,λ_ _=>rfl⟩,λ_ _=>rfl,λb x B=>?_,λb i v n=>?_,λ_ _ h=>.inl h,by simp,rfl,rfl,rfl,by simp,λb g hb=>?_⟩⟩
 . by_cases hb:b=r
   . subst hb
     rcases A with⟨o,p⟩|⟨m,p,C⟩|⟨g,p,C⟩
     . rw[a]at p;cases p
     . rw[a]at p;cases p
     . rw[a]at p;cases p
       simp only[ah.Kz,true_and]at n;rw[if_neg C,t]at n;cases n
   . have y:k.cell b i=some v:=by simpa[ah.Kz,hb]using n
     exact h.apart b i v y (by simpa[aY,ai.set,hb]using A)
 . by_cases hb:b=r/\f i=none
   . obtain⟨rfl,F⟩:=hb
     simp only[ah.Kz,F,and_self,if_true]at n;simp[World.cell?,z,n]
   . exact h.cell b i v (by simpa only[ah.Kz,hb,if_false]using n)
 . by_cases d:b=r
   . subst d;rw[a]at hb;cases hb
   . exact h.obj b o (by rw[l b d]at hb;exact hb)
 . by_cases d:b=r
   . subst d;rw[a]at hb;cases hb
   . exact h.tail b m (by rw[l b d]at hb;exact hb)
 . by_cases d:b=r
   . subst d;rw[a]at hb;cases hb
     exact⟨c,e,z,D,E⟩
   . exact h.part b g (by rw[l b d]at hb;exact hb)
 . by_cases d:b=r
   . subst d;exact .inl ⟨_,s,trivial⟩
   . rw[l b d]at B;exact .inl ⟨x,B,.refl x⟩
 . by_cases hb:b=r/\f i=none
   . obtain⟨rfl,_⟩:=hb;exact .inr (.inl (.inl ⟨_,s⟩))
   . exact .inl (by simpa only[ah.Kz,hb,if_false]using n)
 . have d:b≠r:=λq=>by rw[q,s]at hb;cases hb
   exact⟨g,by rw[l b d];exact hb⟩
section
variable{P:Program}{m:Mo}{Q:ah->ai->Goroutine->Prop}{k:ah}{O:ai}{g:Goroutine}{σ:aa}
theorem T.part{r:Nat}{c:Array Value}{e:TypeId}{f:Nat->Option Value}(d:O r=some (.obj (.cells c e (0,0))))(p:∀i v,f i=some v->c[i]?=some v)(b:g.status=.running)
 (h:∀k' O',k.Le k'->k'.sh r=some (e,c.size)->(∀j v,f j=none->c[j]?=some v->k'.cell r j=some v)->O'=O.set r (.part f)->T P m Q k' O' g):T P m Q k O g:=by
 by_cases a:∃w,Sat k O w
 . obtain⟨w,l⟩:=a
   have q:=(ki (k:=k) d w l).2.le;have o:=Fb (k:=k.eF r (e,c.size)) (f:=f) d (by simp[ah.eF]) p;have n:(k.eF r (e,c.size)).Le ((k.eF r (e,c.size)).Kz r c f):=(o w (ki (k:=k) d w l).1).2.le;exact .ghost (ki d) (.ghost o (h _ _ (q.trans n) (by simp[ah.Kz,ah.eF]) (λj v s t=>by simp[ah.Kz,s,t]) rfl))
 . exact .step (λ_ _ _=>False) b (λ_ _ _ h=>h.elim) λw l=>absurd ⟨w,l⟩ a
theorem T.GD{b:Nat}{l:List AV}{hole:List Nat}{f:Nat->Option Value}(r:Rel k O σ)(hb:σ b=some (.cells l))(A:∀i v,f i=some v->l[i]?=some (.lit v))(B:∀i,f i=none↔i∉hole)(o:g.status=.running)
 (h:∀k' O',k.Le k'->(∀off,V k' (.pointer (some ⟨b,off,none⟩)) (.kp b l hole off))->Rel k' O' (σ.set b (.part f))->T P m Q k' O' g):T P m Q k O g:=by
 obtain⟨y,C,D⟩:=r.1 b _ hb (by simp)
 cases D with
 | cells c e _ s t E=>
   refine T.part (f:=f) C (λi v F=>?_) o λk' O' n p G q=>?_
   . have w:=A i v F
     have d:i<c.size:=by rw[s];exact(List.getElem?_eq_some_iff.1 w).1
     have x:=t i c[i] _ (by simp[d]) w
     have:c[i]=v:=by generalize c[i]=u at x;cases x;rfl
     simp[d,this]
   . refine h k' O' n (λoff=>.kp b off c.size e l hole (λj=>c.getD j undef) p (by omega) (λj H z=>?_) (λj a z ha=>?_)) ?_
     . have d:j<c.size:=by omega
       refine⟨?_,?_⟩
       . rw[G j c[j] ((B j).2 z) (by simp[d])]
         simp[Array.getD,d]
       . simp only[Array.getD,d,dif_pos]
         exact E j _ (by simp[d])
     . have d:j<c.size:=by rw[s];exact(List.getElem?_eq_some_iff.1 ha).1
       simp only[Array.getD,d,dif_pos];exact(t j _ a (by simp[d]) ha).mono n
     . rw[q]
       exact(r.mono n).set (.part f)
theorem aB.share{f:FuncId}{args:List AV}{p KF0:dV->aa->Prop}(h:aB P m f args σ KF0)
 (u:∀r σ',KF0 r σ'->p r σ'\/∃b l hole F,r=.val (.ref b 0)/\σ' b=some (.cells l)/\(∀i v,F i=some v->l[i]?=some (.lit v))/\(∀i,F i=none↔i∉hole)/\p (.val (.kp b l hole 0)) (σ'.set b (.part F))):aB P m f args σ p:=by
 intro Q k O d c rest kind x y z w A;refine h Q k O d c rest kind x y z (λB C D E σ' a n o g=>?_) (λB C D E σ' a n o g=>?_)
 . rcases u _ _ g with g|⟨b,l,hole,F,e,hb,G,H,q⟩
   . exact w _ _ _ _ _ a n o g
   . cases e
     cases n;exact T.GD o hb G H (by cases kind<;>rfl) λI J j s t=>w _ _ _ _ _ (a.trans j) (s 0) t q
 . rcases u _ _ g with g|⟨b,l,hole,F,e,_⟩
   . exact A _ _ _ _ _ a n o g
   . cases e
end
structure HY(P:Program)(mt kt et ft:Nat)(kd:IntKind):Prop where
 hm:P.underlying mt=some (.map kt et)
 hk:∃f,P.underlying kt=some (.struct #[f])/\(f.name≠ "_")/\f.type=ft/\f.offset=0
 hf:P.underlying ft=some (.int kd)
 hs:P.stoodInHeld kt=false
def xr(kd:IntKind)(n:Int):AV:=.agg [.lit (.int kd n)]
def mapA(kd:IntKind)(l:List (Int × AV)):jB:=.map (l.map λp=>(xr kd p.1,p.2))
section
variable{P:Program}(L:iG P){k:ah}{O:ai}{Kp:Value->ah->ai->Prop}{mt kt et ft:Nat}{kd:IntKind}
theorem fZ{K:TypeDesc->ah->ai->Prop}{t:Nat}{d:TypeDesc}(a:P.underlying t=some d)(h:K d k O):eh P (underlying t) k O K Kp:=by unfold underlying;refine af (bN ?_);rw[a];exact h
theorem tX{K:Value->ah->ai->Prop}{i:TI}{v:Value}(ht:L.tt ft=some i)(ha:i.agg=false)(h:K v k O):eh P (part ft #[v] 0) k O K Kp:=by unfold part;refine af (qd L ht ?_);rw[ha];exact aj h
variable(M:HY P mt kt et ft kd){i:TI}(ht:L.tt ft=some i)(ha:i.agg=false)
include M ht ha
theorem qO{K:Unit->ah->ai->Prop}{b:Bool}{n:Int}(h:K () k O):eh P (Instr.checkKey b 10000 kt (.agg #[.int kd n])) k O K Kp:=by obtain⟨f,a,c,d,e⟩:=M.hk;show eh P (Instr.checkKey b (9998+1+1) kt (.agg #[.int kd n])) k O K Kp;rw[Instr.checkKey];refine af (fZ a ?_);simp only[List.forIn_toArray,List.forIn_cons,List.forIn_nil];rw[if_pos c,d,e];refine af (af (af (tX L ht ha ?_)));rw[Instr.checkKey];refine af (af (fZ M.hf ?_));exact aj (aj (aj (aj h)))
theorem Fc{K:Bool->ah->ai->Prop}{a b:Int}(h:K (a==b) k O):eh P (Op.equal kt (.agg #[.int kd a]) (.agg #[.int kd b])) k O K Kp:=by
 obtain⟨f,d,e,g,i⟩:=M.hk;show eh P (Op.equalIn (9998+1+1) kt (.agg #[.int kd a]) (.agg #[.int kd b])) k O K Kp;rw[Op.equalIn];refine af (fZ d ?_);refine af (bN ?_);rw[M.hs];simp only[Bool.false_eq_true,if_false,List.forIn_toArray,List.forIn_cons,List.forIn_nil];rw[if_pos e,g,i];refine af (af (af (tX L ht ha ?_)));refine af (tX L ht ha ?_);refine af ?_;rw[Op.equalIn];refine af (fZ M.hf ?_);simp only[if_true];refine aj ?_;cases c:(a==b)with
 |true=>rw[c]at h;exact aj (aj (aj h))
 |false=>rw[c]at h;exact aj (aj (aj h))
def gY(l:List (Int × AV))(n:Int):Option AV:=(l.find? λp=>n==p.1).map (·.2)
theorem o0{n:Int}{K:Option (Nat × Value)->ah->ai->Prop}:∀(es:List MapEntry) (l:List (Int × AV)) (j:Nat),es.length=l.length->(∀(j:Nat) e p,es[j]?=some e->l[j]?=some p->e.key=.agg #[.int kd p.1]/\V k e.val p.2) ->
 (∀a v j,gY l n=some a->V k v a->K (some (j,v)) k O)->(gY l n=none->K none k O)->eh P (Instr.findAsking kt (.agg #[.int kd n]) es j) k O K Kp
 |[],[],j,_,_,_,h=>by rw[Instr.findAsking];exact aj (h rfl)
 | e ::es,p::l,j,g,d,c,f=>by
   obtain⟨i,m⟩:=d 0 e p rfl rfl;rw[Instr.findAsking,i];refine af (Fc L M ht ha ?_);cases b:(n==p.1)with
   |true=>simp only[if_true];exact aj (c p.2 _ _ (by simp[gY,b]) m)
   | false=>
     simp only[Bool.false_eq_true,if_false];have o:gY (p::l) n=gY l n:=by simp[gY,b]
     rw[o]at c f;exact o0 es l (j+1) (by simpa using g) (λj e p q b=>d (j+1) e p (by simpa using q) (by simpa using b)) c f
 |[],_::_,_,h,_,_,_=>by simp at h
 |_::_,[],_,h,_,_,_=>by simp at h
theorem sO{n:Int}{K:Option (Nat × Value)->ah->ai->Prop}{es:List MapEntry}{l:List (Int × AV)}(b:es.length=l.length)(d:∀(j:Nat) e p,es[j]?=some e->l[j]?=some p->e.key=.agg #[.int kd p.1]/\V k e.val p.2)
 (g:∀a v j,gY l n=some a->V k v a->K (some (j,v)) k O) (c:gY l n=none->K none k O):eh P (Instr.findKey kt (.agg #[.int kd n]) es) k O K Kp:=by
 obtain⟨f,h,i,m,o⟩:=M.hk;unfold Instr.findKey;refine af (fZ h ?_);cases es with
 | nil=>
   cases l with
   |nil=>exact aj (c rfl)
   |cons p l=>simp at b
 | cons e es=>
   have:Instr.findNow (.struct #[f]) (.agg #[.int kd n]) (e::es) 0=none:=by simp[Instr.findNow,Instr.sameNow]
   rw[this];exact o0 L M ht ha _ l 0 b d g c
omit M ht ha
theorem V.xr{k:ah}{v:Value}{kd:IntKind}{n:Int}(h:V k v (xr kd n)):v=.agg #[.int kd n]:=by
 cases h with
 | agg c l b d=>
   have b:c.size=1:=b
   have e:c=#[c[0]]:=by
    apply Array.ext
    . simp[b]
    . intro i f a
      have:i=0:=by simp at a;exact a
      subst this;rfl
   have:=d 0 c[0] (.lit (.int kd n)) (by simp[b]) rfl
   rw[e];generalize c[0]=u at this;cases this;rfl
theorem GF{σ:aa}(c:Rel k O σ){b:Nat}{l:List (Int × AV)}(hb:σ b=some (mapA kd l)):∃es clock,O b=some (.obj (.map es clock))/\es.toList.length=l.length/\∀(j:Nat) e p,es.toList[j]?=some e->l[j]?=some p->e.key=.agg #[.int kd p.1]/\V k e.val p.2:=by
 obtain⟨x,d,a⟩:=c.1 b _ hb (by simp[mapA]);unfold mapA at a;cases a with
 | map es clock m f g=>
   refine⟨es,clock,d,by simpa using f,λj e p h i=>?_⟩;obtain⟨n,o⟩:=g j e (bd.xr kd p.1,p.2) (by simpa using h) (by simp[i]);exact⟨n.xr,o⟩
variable{o:Oper}{env:Env}{σ:aa}{K Kq:AV->aa->Prop}
theorem Fe(M:HY P mt kt et ft kd)(ht:L.tt ft=some i)(ha:i.agg=false){t:TI}{x g:Operand}{b:Nat}{l:List (Int × AV)}{n:Int}(h:o.op=.lookup mt x g true)(m:L.tt et=some t)(z:ar env x=.map b)(A:ar env g=xr kd n)(hb:σ b=some (mapA kd l))
 (w:K (.bG [(gY l n).getD (jZ t.zero),.lit (.bool (gY l n).isSome)]) σ):aK P o env σ K Kq:=
 aK.val (s:=λe=>Instr.lookup mt (e x) (e g) true) (λe=>by simp[execOp,h]) λk O e f p=>by
  have q:=f x (by simp[h,Op.operands]);have y:=f g (by simp[h,Op.operands]);rw[z]at q;rw[A]at y;rw[y.xr];generalize e x=G at q;cases q;obtain⟨es,clock,B,C,D⟩:=GF p hb;unfold Instr.lookup;refine af (fZ M.hm ?_);simp only;refine af (s:=getObj b) ⟨_,B,rfl,aj ?_⟩;refine af (aj ?_);refine af (qO L M ht ha ?_);refine af (sO L M ht ha C D (λa v j r E=>?_) (λr=>?_))
  . simp only
    refine af (aj ?_);simp only[if_true];refine aj (.here ⟨.refl k,_,σ,.bG _ _ rfl (λi u F d c=>?_),p,w⟩);rw[r]at c
    match i with
    |0=>simp at d c;subst d;subst c;exact E
    |1=>simp at d c;subst d;subst c;exact .lit _
    |i+2=>simp at c
  . simp only
    refine af (cU L m ?_);refine af (aj ?_);simp only[if_true];refine aj (.here ⟨.refl k,_,σ,.bG _ _ rfl (λi u F d c=>?_),p,w⟩);rw[r]at c
    match i with
    |0=>simp at d c;subst d;subst c;exact .jZ k _
    |1=>simp at d c;subst d;subst c;exact .lit _
    |i+2=>simp at c
theorem yS(M:HY P mt kt et ft kd)(ht:L.tt ft=some i)(ha:i.agg=false){x m y:Operand}{b:Nat}{l:List (Int × AV)}{n:Int}{a:AV}(r:o.op=.mapUpdate mt x m y)(H:ar env x=.map b)(I:ar env m=xr kd n)(J:ar env y=a)(hb:σ b=some (mapA kd l))(N:gY l n=none)
 (Q:K (.lit undef) (σ.set b (mapA kd (l++[(n,a)])))):aK P o env σ K Kq:=λk O g c B=>by
 have z:=c x (by simp[r,Op.operands])
 have t:=c m (by simp[r,Op.operands])
 have C:=c y (by simp[r,Op.operands])
 rw[H]at z;rw[I]at t;rw[J]at C;have R:execOp g o=(do Instr.mapUpdate mt (g x) (g m) (g y);pure .skip):=by simp[execOp,r]
 rw[R,t.xr];generalize g x=W at z;cases z;obtain⟨es,clock,D,w,E⟩:=GF B hb;unfold Instr.mapUpdate;refine af (af (fZ M.hm ?_));simp only;refine af (s:=getObj b) ⟨_,D,rfl,aj ?_⟩;simp only;refine af (qO L M ht ha ?_);refine af (sO L M ht ha w E (λa v j F X=>by rw[N]at F;cases F) (λ_=>?_))
 simp only;refine⟨⟨_,D,rfl⟩,rfl,aj ?_⟩;refine⟨undef,.inr ⟨rfl,rfl⟩,.here ⟨.refl k,.lit undef,_,.lit _,B.set (.map _ _ _ ?_ (λj e p d f=>?_)),Q⟩⟩
 . simp;simpa using w
 . rw [Array.getElem?_push]at d
   rw[List.map_append]at f
   by_cases h:j=es.size
   . rw[if_pos h]at d
     have A:l.length=es.size:=by rw[<-w];simp
     rw[List.getElem?_append_right (by simp;omega)]at f
     simp only[Option.some.injEq]at d;subst d;have:j-(l.map λp=>(bd.xr kd p.1,p.2)).length=0:=by simp;omega
     rw[this]at f;simp at f;subst f;exact⟨t.xr ▸ t,C⟩
   . rw[if_neg h]at d
     have S:j<es.size:=(Array.getElem?_eq_some_iff.1 d).1;have A:l.length=es.size:=by rw[<-w];simp
     rw[List.getElem?_append_left (by simp;omega),List.getElem?_map]at f
     obtain⟨q,T,rfl⟩:=Option.map_eq_some_iff.1 f;obtain⟨U,V⟩:=E j e q (by simpa using d) T
     refine⟨?_,V⟩;rw[U]
     exact .agg _ _ rfl λi u a G ha=>by
      match i with
      |0=>simp at G ha;subst G;subst ha;exact .lit _
      |i+1=>simp at ha
theorem Ff{mt:Nat}(kd:IntKind)(f:o.op=.makeMap mt none)(g:∀b,σ b=none->K (.map b) (σ.set b (mapA kd []))):aK P o env σ K Kq:=
 aK.val (s:=λc=>Instr.makeMap mt none) (λc=>by simp[execOp,f]) λk O c h d=>by
  unfold Instr.makeMap;simp only;refine af (s:=newObj _) ⟨rfl,λr a=>aj ?_⟩;exact .here ⟨.made a.2.2,_,_,.map r,(d.mono (.made a.2.2)).set (.map _ _ _ rfl λj e p i=>by simp at i),g r (d.isNone a.1 a.2.2)⟩
end
section
variable{P:Program}(L:iG P){o:Oper}{env:Env}{σ:aa}{K:AV->aa->Prop}{Kp:AV->aa->Prop}
theorem Fg{i:TI}{d:TypeDesc}(h:dJ P i d=true)(a:i.kind=.iface):∃ms,d=.interface ms:=by cases d<;>simp_all [dJ]
theorem kA{op:BinOp}{t A:Nat}{x:Operand}{i:TI}{isNil:Bool}(q:o.op=.binOp op t x (.const .nilIface) A)(ht:L.tt t=some i)(B:i.kind=.iface)
 (C:(ar env x=.lit .nilIface/\isNil=true)\/(∃d a,ar env x=.lg d a)/\isNil=false){b:Bool}(l:(op=.eql/\b=isNil)\/(op=.neq/\b=!isNil)) (D:K (.lit (.bool b)) σ):aK P o env σ K Kp:=
 aK.val (s:=λc=>do eqGuard op t x (.const .nilIface) (c x) (c (.const .nilIface));binOp op t (c x) (c (.const .nilIface))) (λc=>by simp[execOp,q]) λk O c m E=>by
  have n:=m x (by simp[q,Op.operands])
  have r:=m (.const .nilIface) (by simp[q,Op.operands])
  have F:c (.const .nilIface)=.nilIface:=by simp only[ar]at r;generalize c (.const .nilIface)=w at r;cases r;rfl
  have f:(c x=.nilIface/\isNil=true)\/∃d v,c x=.iface d v/\isNil=false:=by
   rcases C with⟨e,h⟩|⟨⟨d,a,e⟩,h⟩<;>rw[e]at n
   . generalize c x=w at n;cases n;exact .inl ⟨rfl,h⟩
   . generalize c x=w at n;cases n;exact .inr ⟨_,_,rfl,h⟩
  rw[F]
  have G:eqGuard op t x (.const .nilIface) (c x) .nilIface=pure ():=by rcases f with⟨f,_⟩|⟨d,v,f,_⟩<;>rw[f]<;>rcases l with⟨rfl,_⟩|⟨rfl,_⟩<;>simp[eqGuard]
  rw[G];refine af (aj ?_)
  have fin:∀{s:Sem Value},s=(do pure (.bool b))->eh P s k O (λv p u=>lR p u λy H=>k.Le y/\∃a g,V y v a/\Rel y H g/\K a g) (λv p u=>k.Le p/\∃a g,V p v a/\Rel p u g/\Kp a g):=λe=>by rw[e];exact aj (.here ⟨.refl k,_,σ,.lit _,E,D⟩)
  have j:∀(R:Bool->ah->ai->Prop) (z:Value->ah->ai->Prop),R isNil k O->eh P (Op.equal t (c x) .nilIface) k O R z:=λR z I=>by
   show eh P (Op.equalIn (9999+1) t (c x) .nilIface) k O R z;rw[Op.equalIn];refine af (aD L ht λd _ hd=>?_)
   obtain⟨ms,rfl⟩:=Fg hd B
   rcases f with⟨f,rfl⟩|⟨d,v,f,rfl⟩<;>rw[f]<;>exact aj I
  rcases f with⟨f,J⟩|⟨d,v,f,J⟩<;>rw[f]at j ⊢<;>rcases l with⟨rfl,rfl⟩|⟨rfl,rfl⟩
  . exact af (s:=Op.equal t .nilIface .nilIface) (j _ _ (fin rfl))
  . exact af (s:=Op.equal t .nilIface .nilIface) (j _ _ (fin rfl))
  . exact af (s:=Op.equal t (.iface d v) .nilIface) (j _ _ (fin rfl))
  . exact af (s:=Op.equal t (.iface d v) .nilIface) (j _ _ (fin rfl))
end
end Go.bd
