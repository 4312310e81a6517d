import Derived.KernelRfl
import Derived.Test.YtldmpfccgajobaaGreatDoorC9
set_option linter.all false
namespace Go.aR
open Go.Conc
section
variable{P:Program}(L:jr P){m:Mo}
theorem ar.start{f:FuncId}{fn:Func}{args:List AV}{σ:aa}{c:dF->aa->Prop}{body:Code}(mu:List Nat)(hold:List Entry)(k:Nat)(d:P.funcs[f]?=some fn)(hb:fn.body=some body)(e:args.length=k)(a:ou fn k=true)(b:nH hold body=true)
 (h:bu L m f fn.ntmps none mu hold 1000 [.code body] ⟨dT args,σ,[],.no⟩ (Pi L m fn.results.toList (ov c))):ar P m f args σ c:=by
 simp only[ou,Bool.and_eq_true]at a;refine ar.thaw (ar.intro L d hb (by rw[e];exact Nat.le_of_ble_eq_true a.1) ?_ (Go.bu L mu hold 1000 (by simpa[lX]using b) h));have:=a.2;simpa using this
variable{fid n:Nat}{ro:Option Nat}{hold:List Entry}{s:St}{K:Exit->St->Prop}{k:List Item}
theorem ab.run(mu:List Nat){todo:List Item}(h:bu L m fid n ro mu hold 1000 todo s K):ab P m fid n ro hold todo s K:=λa=>Go.bu L mu hold 1000 a h
theorem ai{f:FuncId}{fn:Func}{args:List AV}{σ:aa}{b:dF->aa->Prop}(c:P.funcs[f]?=some fn)(hb:fn.body.isSome=true)(a:(fn.name==  "runtime.NumGoroutine")=false)(h:ar P m f args σ b):
 dX P m (.fn (.func f) [] []) args σ b:=.func c hb a (by simpa using h)
theorem eY{f:FuncId}{fn:Func}{first cap args args':List AV}{σ:aa}{b:dF->aa->Prop}(c:P.funcs[f]?=some fn)(hb:fn.body.isSome=true)(a:(fn.name==  "runtime.NumGoroutine")=false)(d:first++args++cap=args')(h:ar P m f args' σ b):
 dX P m (.fn (.func f) first cap) args σ b:=.func c hb a (d ▸ h)
theorem ab.loop{c:Code}(N:Nat)(I:Nat->St->Prop)(g:I 0 s)
 (h:∀b i s,i<=N->I i s->(∀s',i<N->I (i+1) s'->ab P m fid n ro hold (.inLoop b::k) s' K)->ab P m fid n ro hold (.code c::.inLoop b::k) s K):ab P m fid n ro hold (.code (.loop c)::k) s K:=λe=>by
 have d:∀b,lX hold (.code c::.inLoop b::k)=true:=λb=>by simpa[lX,nH]using e
 refine Go.loop (λa s=>∃i,a=N-i/\i<=N/\I i s) N ⟨0,by simp,by omega,g⟩ ?_;rintro b a s ⟨i,rfl,j,l⟩ o;exact h b i s j l (λs' p f _=>o (N-(i+1)) s' (by omega) ⟨i+1,rfl,by omega,f⟩) (d b)
theorem ab.weaken{todo:List Item}{σ:aa}(h:ab P m fid n ro hold todo {s with σ} K)(b:σ.Le s.σ):ab P m fid n ro hold todo s K:=λa=>(h a).weaken b
def I9:Option Code->Bool
 |none=>true
 |some .ret=>true
 |some (.exit _)=>true
 |_=>false
theorem ab.rangeFunc{f:Operand}{params:Array Tmp}{assign body:Code}(i:Operand.ok n f=true)
 (h:lX hold [.code assign,.code body]=true->∀r l,s.σ r=none->s.σ l=none->r≠l->dX P m (aq s.env f) [.fn (.yield l) [] []] ((s.σ.set r (.raw (.deferred (some [])))).set l (.loop ⟨.ready,none,fid,n,s.env,params,assign,body,r⟩))
   (fun res σ'=>match res with
     |.val _=>∃a,σ' l=some (.loop a)/\a.state≠.busy/\I9 a.pending=true/\ab P m fid n none hold ((a.pending.map Item.code).toList++k) {s with σ:=σ'.del l,D:=.mark r::s.D} K
     |.panic v=>K (.panic v) {s with σ:=σ',D:=.mark r::s.D})):ab P m fid n none hold (.code (.rangeFunc f params assign body)::k) s K:=λd=>by
 have j:lX hold [.code assign,.code body]=true:=by simp only[lX,List.all_cons,nH,Bool.and_eq_true]at d ⊢;exact⟨d.1.1,d.1.2,rfl⟩
 refine Go.rangeFunc i λr l a b c=>(h j r l a b c).mono λres σ' e=>?_
 cases res with
 |panic v=>exact e
 |val v=>obtain⟨o,p,q,g,t⟩:=e;refine⟨o,p,q,t ?_⟩;simp only[lX,List.all_cons,Bool.and_eq_true,List.all_append]at d ⊢;refine⟨?_,d.2⟩;unfold I9 at g;split at g<;>rename_i u<;>simp_all [nH]
theorem dX.tA{l:Nat}{args:List AV}{σ:aa}{c:dF->aa->Prop}{a:mM}{fn:Func}(b:lX hold [.code a.assign,.code a.body]=true)(d:P.funcs[a.fn]?=some fn)(e:σ l=some (.loop a))(f:args.length=a.params.size)
 (h:ab P m a.fn a.n (some l) hold [.code a.assign,.beginRound,.code a.body] ⟨lU a.env a.params.toList args,σ,[],.no⟩ (IC l c)):dX P m (.fn (.yield l) [] []) args σ c:=
 .yield d e f (h (by simp only[lX,List.all_cons,Bool.and_eq_true]at b ⊢;exact⟨b.1,trivial,b.2⟩))
theorem ab.beginRound{l:Nat}{a:mM}(c:s.σ l=some (.loop a))(ha:a.state=.ready)(h:ab P m fid n (some l) hold k {s with σ:=s.σ.set l (.loop {a with state:=.busy})} K):ab P m fid n (some l) hold (.beginRound::k) s K:=λb=>.beginRound c ha (h (by simpa[lX,nH]using b))
theorem ab.freeze{todo:List Item}{env a:Env}{σ σ':aa}{D:List nj}{rc:Rec}(b:Nat)(l:List AV)(hb:σ b=some (.cells l))(c:∀t,Fz b l (env t) (a t))(e:LS b l σ σ')
 (h:ab P m fid n ro hold todo ⟨a,σ',D,rc⟩ K):ab P m fid n ro hold todo ⟨env,σ,D,rc⟩ K:=λd=>Go.freeze b l hb c e (h d)
end
theorem aa.le_refl(σ:aa):σ.Le σ:=λ_ _ h=>h
theorem aa.le_trans{a b c:aa}(h:a.Le b)(d:b.Le c):a.Le c:=λx y e=>d x y (h x y e)
theorem aa.cX{σ0 σ:aa}{b:Nat}{x:ku}(h:σ0.Le σ)(hb:σ b=none):σ0.Le (σ.set b x):=λc y a=>by
 by_cases e:c=b
 . subst e;have:=h _ _ a;rw[hb]at this;cases this
 . simp only[aa.set,e,if_false];exact h _ _ a
theorem aa.iz{σ0 σ:aa}{b:Nat}{x:ku}(h:σ0.Le σ)(hb:σ0 b=none):σ0.Le (σ.set b x):=λc y a=>by
 by_cases e:c=b
 . subst e;rw[hb]at a;cases a
 . simp only[aa.set,e,if_false];exact h _ _ a
theorem aa.jZ{σ0 σ:aa}{b:Nat}(h:σ0.Le σ)(hb:σ0 b=none):σ0.Le (σ.del b):=λc y a=>by
 by_cases e:c=b
 . subst e;rw[hb]at a;cases a
 . simp only[aa.del,e,if_false];exact h _ _ a
theorem aa.aG{σ:aa}{b c:Nat}{x:ku}(h:(σ.set b x) c=none):c≠b/\b≠c/\σ c=none:=by
 by_cases e:c=b
 . subst e;simp[aa.set]at h
 . simp only[aa.set,e,if_false]at h
   exact⟨e,λa=>e a.symm,h⟩
@[simp] theorem aa.an(σ:aa)(b:Nat)(x:ku):(σ.set b x) b=some x:=by simp[aa.set]
theorem aa.ag(σ:aa){b c:Nat}(x:ku)(h:c≠b):(σ.set b x) c=σ c:=by simp[aa.set,h]
@[simp] theorem aa.set_set(σ:aa)(b:Nat)(x y:ku):(σ.set b x).set b y=σ.set b y:=by funext c;by_cases e:c=b<;>simp[aa.set,e]
section
variable{P:Program}(L:jr P)(m:Mo)(fid n f:Nat)(ro:Option Nat)(mu:List Nat)(hold:List Entry)
def stepW(ops:Array Oper)(is:List Nat)(k:List Item)(dst:Option Tmp)(s:St)(K:Exit->St->Prop)(x:Out):Prop:=ri x (λa b=>bu L m fid n ro mu hold f (.inRegion ops is::k) {s with env:=bp s.env dst a,σ:=b} K) (λa b=>K (.panic a) {s with σ:=b})
def Qf(ops:Array Oper)(is:List Nat)(k:List Item)(dst:Option Tmp)(s:St)(K:Exit->St->Prop)(σ:aa)(x:Option AV):Prop:=stepW L m fid n f ro mu hold ops is k dst s K (.opt x σ)
def bT(ops:Array Oper)(is:List Nat)(k:List Item)(dst:Option Tmp)(s:St)(K:Exit->St->Prop)(σ:aa)(c:List AV):Prop:=stepW L m fid n f ro mu hold ops is k dst s K (.new σ c)
def vp(ops:Array Oper)(i:Nat)(is:List Nat)(k:List Item)(o:Oper)(s:St)(K:Exit->St->Prop)(x:Option Bool):Prop:=
 L4 x (if pF L o=true then ri (Ah L mu o s.env s.σ) (λa b=>bu L m fid n ro mu hold f (.inRegion ops is::k) {s with env:=bp s.env o.dst a,σ:=b} K) (λa b=>K (.panic a) {s with σ:=b})
        else if uA o.op=true then L5 (P:=P) m o s.env s.σ (λa b=>ab P m fid n ro hold (.inRegion ops is::k) {s with env:=bp s.env o.dst a,σ:=b} K) (λa b=>∀env,K (.panic a) {s with env,σ:=b})
        else ab P m fid n ro hold (.inRegion ops (i::is)::k) s K) (bu L m fid n ro mu hold f (.inRegion ops is::k) {s with env:=bp s.env o.dst (.lit (.tuple #[]))} K)
def aE(a b:Code)(k:List Item)(s:St)(K:Exit->St->Prop)(x:Bool):Prop:=uy x (bu L m fid n ro mu hold f (.code a::k) s K) (bu L m fid n ro mu hold f (.code b::k) s K)
def Qg(P:Program)(m:Mo)(fid n:Nat)(ro:Option Nat)(hold:List Entry)(k:List Item)(s:St)(K:Exit->St->Prop):Env->aa->Prop:=λenv σ=>ab P m fid n ro hold k {s with env,σ} K
def Qh(s:St)(K:Exit->St->Prop):AV->aa->Prop:=λv σ=>∀env,K (.panic v) {s with env,σ}
variable{L m fid n f ro mu hold}{s:St}{K:Exit->St->Prop}{k:List Item}{ops:Array Oper}{i:Nat}{is:List Nat}{dst:Option Tmp}{σ:aa}
@[simp] theorem Qi{env:Env}:Qg P m fid n ro hold k s K env σ=ab P m fid n ro hold k {s with env,σ} K:=propext Iff.rfl
@[simp] theorem Qj{v:AV}:Qh s K v σ=∀env,K (.panic v) {s with env,σ}:=propext Iff.rfl
@[simp] theorem Qk{a:AV}:stepW L m fid n f ro mu hold ops is k dst s K (.ok a σ)=bu L m fid n ro mu hold f (.inRegion ops is::k) {s with env:=bp s.env dst a,σ:=σ} K:=propext Iff.rfl
@[simp] theorem Ou{p:Prop}{x:Out}:stepW L m fid n f ro mu hold ops is k dst s K (.im p x)=(p/\stepW L m fid n f ro mu hold ops is k dst s K x):=propext Iff.rfl
@[simp] theorem Pu{c:List AV}:stepW L m fid n f ro mu hold ops is k dst s K (.new σ c)=bT L m fid n f ro mu hold ops is k dst s K σ c:=propext Iff.rfl
@[simp] theorem Pv{x:Option AV}:stepW L m fid n f ro mu hold ops is k dst s K (.opt x σ)=Qf L m fid n f ro mu hold ops is k dst s K σ x:=propext Iff.rfl
@[simp] theorem Pw{a:AV}:Qf L m fid n f ro mu hold ops is k dst s K σ (some a)=bu L m fid n ro mu hold f (.inRegion ops is::k) {s with env:=bp s.env dst a,σ:=σ} K:=propext Iff.rfl
theorem bT.intro{c:List AV}(h:∀b,σ b=none->bu L m fid n ro mu hold f (.inRegion ops is::k) {s with env:=bp s.env dst (.ref b 0),σ:=σ.set b (.cells c)} K):bT L m fid n f ro mu hold ops is k dst s K σ c:=h
@[simp] theorem Ql{o:Oper}:vp L m fid n f ro mu hold ops i is k o s K (some true)=(if pF L o=true then stepW L m fid n f ro mu hold ops is k o.dst s K (Ah L mu o s.env s.σ)
   else if uA o.op=true then L5 (P:=P) m o s.env s.σ (λa σ'=>ab P m fid n ro hold (.inRegion ops is::k) {s with env:=bp s.env o.dst a,σ:=σ'} K) (λa σ'=>∀env,K (.panic a) {s with env,σ:=σ'})
   else ab P m fid n ro hold (.inRegion ops (i::is)::k) s K):=by unfold vp;rw[nP,ow];rfl
@[simp] theorem Px{o:Oper}:vp L m fid n f ro mu hold ops i is k o s K (some false)=bu L m fid n ro mu hold f (.inRegion ops is::k) {s with env:=bp s.env o.dst (.lit (.tuple #[]))} K:=by unfold vp;rw[nP,mP]
theorem vp.intro{o:Oper}{x:Bool}(a:x=true->vp L m fid n f ro mu hold ops i is k o s K (some true))(b:x=false->vp L m fid n f ro mu hold ops i is k o s K (some false)):vp L m fid n f ro mu hold ops i is k o s K (some x):=by cases x with|true=>exact a rfl|false=>exact b rfl
@[simp] theorem Ov{a b:Code}:aE L m fid n f ro mu hold a b k s K true=bu L m fid n ro mu hold f (.code a::k) s K:=by unfold aE;rw[ow]
@[simp] theorem NO{a b:Code}:aE L m fid n f ro mu hold a b k s K false=bu L m fid n ro mu hold f (.code b::k) s K:=by unfold aE;rw[mP]
@[simp] theorem Py{a b:Code}{x:Bool}:aE L m fid n f ro mu hold a b k s K (!x)=aE L m fid n f ro mu hold b a k s K x:=by cases x<;>simp
theorem aE.intro{a b:Code}{x:Bool}(c:x=true->bu L m fid n ro mu hold f (.code a::k) s K)(d:x=false->bu L m fid n ro mu hold f (.code b::k) s K):aE L m fid n f ro mu hold a b k s K x:=⟨c,d⟩
@[simp] theorem Qm :bu L m fid n ro mu hold (f+1) ([]) s K=K (.leave none) s:=propext Iff.rfl
@[simp] theorem Qn :bu L m fid n ro mu hold (f+1) (.code .ret::k) s K=K (.leave (some .ret)) s:=propext Iff.rfl
@[simp] theorem Pz :bu L m fid n ro mu hold (f+1) (.code .skip::k) s K=bu L m fid n ro mu hold f k s K:=propext Iff.rfl
@[simp] theorem Ow{l:Nat}:bu L m fid n ro mu hold (f+1) (.code (.label l)::k) s K=bu L m fid n ro mu hold f k s K:=propext Iff.rfl
@[simp] theorem Ms{id:Nat}:bu L m fid n ro mu hold (f+1) (.inBlock id::k) s K=bu L m fid n ro mu hold f k s K:=propext Iff.rfl
@[simp] theorem Qo{a b:Code}:bu L m fid n ro mu hold (f+1) (.code (.seq a b)::k) s K=bu L m fid n ro mu hold f (.code a::.code b::k) s K:=propext Iff.rfl
@[simp] theorem Ox{id:Nat}{c:Code}:bu L m fid n ro mu hold (f+1) (.code (.block id c)::k) s K=bu L m fid n ro mu hold f (.code c::.inBlock id::k) s K:=propext Iff.rfl
@[simp] theorem Oy{c:Code}:bu L m fid n ro mu hold (f+1) (.code (.scope c)::k) s K=bu L m fid n ro mu hold f (.code c::.inScope c::k) s K:=propext Iff.rfl
@[simp] theorem PA{id:Nat}:bu L m fid n ro mu hold (f+1) (.code (.exit id)::k) s K=(match exitTo id k with
   |some k'=>bu L m fid n ro mu hold f k' s K
   |none=>K (.leave (some (.exit id))) s):=propext Iff.rfl
@[simp] theorem PB{c:Operand}{a b:Code}:bu L m fid n ro mu hold (f+1) (.code (.cond c a b)::k) s K=(Operand.ok n c=true/\(match aq s.env c with
   |.lit (.bool x)=>aE L m fid n f ro mu hold a b k s K x
   |_=>False)):=propext Iff.rfl
@[simp] theorem NP{id:Nat}:bu L m fid n ro mu hold (f+1) (.code (.region id ops false)::k) s K=bu L m fid n ro mu hold f (.inRegion ops (List.range ops.size)::k) s K:=propext Iff.rfl
@[simp] theorem PC{id:Nat}:bu L m fid n ro mu hold (f+1) (.code (.region id ops true)::k) s K=(match hold.find? λe=>e.id==id with
   |some ⟨_,p⟩=>iy L m mu ops n (Qh s K) p s.env s.σ (Qg P m fid n ro hold k s K)
   |none=>ab P m fid n ro hold (.code (.region id ops true)::k) s K):=propext Iff.rfl
@[simp] theorem I' :bu L m fid n ro mu hold (f+1) (.inRegion ops []::k) s K=bu L m fid n ro mu hold f k s K:=propext Iff.rfl
@[simp] theorem LT :bu L m fid n ro mu hold (f+1) (.inRegion ops (i::is)::k) s K=(match ops[i]? with
   |some o=>Oper.ok n o=true/\vp L m fid n f ro mu hold ops i is k o s K (vU ops n s.env o)
   |none=>ab P m fid n ro hold (.inRegion ops (i::is)::k) s K):=propext Iff.rfl
@[simp] theorem PD{c:Code}:bu L m fid n ro mu hold (f+1) (.code (.loop c)::k) s K=ab P m fid n ro hold (.code (.loop c)::k) s K:=propext Iff.rfl
@[simp] theorem NQ{c:Code}:bu L m fid n ro mu hold (f+1) (.inLoop c::k) s K=ab P m fid n ro hold (.inLoop c::k) s K:=propext Iff.rfl
@[simp] theorem Ja{x:Operand}{a:Array Tmp}{c d:Code}:bu L m fid n ro mu hold (f+1) (.code (.rangeFunc x a c d)::k) s K=ab P m fid n ro hold (.code (.rangeFunc x a c d)::k) s K:=propext Iff.rfl
@[simp] theorem Ip :bu L m fid n ro mu hold (f+1) (.beginRound::k) s K=ab P m fid n ro hold (.beginRound::k) s K:=propext Iff.rfl
end
section
variable{P:Program}(L:jr P)(m:Mo)(n:Nat)(mu:List Nat)(ops:Array Oper)(Kp:AV->aa->Prop)(R:Env->aa->Prop)
def wk(lt:Bool)(σ:aa)(p:kW)(S:List Nat)(env:Env):Prop:=Dt L mu ops n lt σ (λa=>iy L m mu ops n Kp p a σ R) .mk S env
def B4(lt:Bool)(σ:aa)(p:kW)(S:List Nat)(dst:Option Tmp)(env:Env)(x:Option AV):Prop:=xU x λa=>wk L m n mu ops Kp R lt σ p S (bp env dst a)
def Jb(lt:Bool)(σ:aa)(p:kW)(S:List Nat)(o:Oper)(env:Env)(x:Option Bool):Prop:=L4 x (B4 L m n mu ops Kp R lt σ p S o.dst env (Ds L mu lt o env σ)) (wk L m n mu ops Kp R lt σ p S (bp env o.dst (.lit (.tuple #[]))))
def uL(p:kW)(dst:Option Tmp)(env:Env)(x:Out):Prop:=ri x (λa b=>iy L m mu ops n Kp p (bp env dst a) b R) Kp
def Qp(p:kW)(dst:Option Tmp)(env:Env)(σ:aa)(x:Option AV):Prop:=uL L m n mu ops Kp R p dst env (.opt x σ)
def ns(p:kW)(dst:Option Tmp)(env:Env)(σ:aa)(c:List AV):Prop:=uL L m n mu ops Kp R p dst env (.new σ c)
def PE(i:Nat)(p:kW)(o:Oper)(env:Env)(σ:aa)(x:Option Bool):Prop:=
 L4 x (if pF L o=true then ri (Ah L mu o env σ) (λa b=>iy L m mu ops n Kp p (bp env o.dst a) b R) Kp else
    if uA o.op=true then L5 (P:=P) m o env σ (λa b=>aI P m ops n Kp p (bp env o.dst a) b R) Kp else jw P m ops n Kp i env σ (λenv σ=>aI P m ops n Kp p env σ R)) (iy L m mu ops n Kp p (bp env o.dst (.lit (.tuple #[]))) σ R)
variable{L m n mu ops Kp R}{i:Nat}{lt:Bool}{env:Env}{σ:aa}{p q:kW}{S:List Nat}{dst:Option Tmp}
@[simp] theorem PF:iy L m mu ops n Kp .done env σ R=R env σ:=propext Iff.rfl
@[simp] theorem PG:iy L m mu ops n Kp (.take S lt p) env σ R=wk L m n mu ops Kp R lt σ p S env:=propext Iff.rfl
@[simp] theorem Qq:iy L m mu ops n Kp (.one i p) env σ R=(match ops[i]? with|some o=>Oper.ok n o=true/\PE L m n mu ops Kp R i p o env σ (vU ops n env o)|none=>False):=propext Iff.rfl
@[simp] theorem PH:iy L m mu ops n Kp (.both i p q) env σ R=((match ops[i]? with|some o=>Oper.ok n o=true/\PE L m n mu ops Kp R i p o env σ (vU ops n env o)|none=>False)/\iy L m mu ops n Kp q env σ R):=propext Iff.rfl
@[simp] theorem PI:wk L m n mu ops Kp R lt σ p [] env=iy L m mu ops n Kp p env σ R:=propext Iff.rfl
@[simp] theorem Oz:wk L m n mu ops Kp R lt σ p (i::S) env=(match ops[i]? with|some o=>(Oper.ok n o && o.dst.isSome)=true/\Jb L m n mu ops Kp R lt σ p S o env (vU ops n env o)|none=>False):=propext Iff.rfl
@[simp] theorem PJ{a:AV}:B4 L m n mu ops Kp R lt σ p S dst env (some a)=wk L m n mu ops Kp R lt σ p S (bp env dst a):=by unfold B4;rw[Gf]
@[simp] theorem PL:B4 L m n mu ops Kp R lt σ p S dst env none=False:=by unfold B4;rw[Gg]
@[simp] theorem RW{c:Prop}[Decidable c]{x:Option AV}:B4 L m n mu ops Kp R lt σ p S dst env (if c then x else none)=(c/\B4 L m n mu ops Kp R lt σ p S dst env x):=by by_cases h:c<;>simp[h]
@[simp] theorem Qr{o:Oper}:Jb L m n mu ops Kp R lt σ p S o env (some true)=B4 L m n mu ops Kp R lt σ p S o.dst env (Ds L mu lt o env σ):=by unfold Jb;rw[nP,ow]
@[simp] theorem PM{o:Oper}:Jb L m n mu ops Kp R lt σ p S o env (some false)=wk L m n mu ops Kp R lt σ p S (bp env o.dst (.lit (.tuple #[]))):=by unfold Jb;rw[nP,mP]
theorem Jb.intro{o:Oper}{x:Bool}(a:x=true->Jb L m n mu ops Kp R lt σ p S o env (some true))(b:x=false->Jb L m n mu ops Kp R lt σ p S o env (some false)):Jb L m n mu ops Kp R lt σ p S o env (some x):=by cases x with|true=>exact a rfl|false=>exact b rfl
@[simp] theorem Qs{a:AV}:uL L m n mu ops Kp R p dst env (.ok a σ)=iy L m mu ops n Kp p (bp env dst a) σ R:=propext Iff.rfl
@[simp] theorem OA{c:Prop}{x:Out}:uL L m n mu ops Kp R p dst env (.im c x)=(c/\uL L m n mu ops Kp R p dst env x):=propext Iff.rfl
@[simp] theorem PN{c:List AV}:uL L m n mu ops Kp R p dst env (.new σ c)=ns L m n mu ops Kp R p dst env σ c:=propext Iff.rfl
@[simp] theorem PO{x:Option AV}:uL L m n mu ops Kp R p dst env (.opt x σ)=Qp L m n mu ops Kp R p dst env σ x:=propext Iff.rfl
@[simp] theorem PP{a:AV}:Qp L m n mu ops Kp R p dst env σ (some a)=iy L m mu ops n Kp p (bp env dst a) σ R:=propext Iff.rfl
theorem ns.intro{c:List AV}(h:∀b,σ b=none->iy L m mu ops n Kp p (bp env dst (.ref b 0)) (σ.set b (.cells c)) R):ns L m n mu ops Kp R p dst env σ c:=h
@[simp] theorem Qt{o:Oper}:PE L m n mu ops Kp R i p o env σ (some true)=(if pF L o=true then uL L m n mu ops Kp R p o.dst env (Ah L mu o env σ)else
   if uA o.op=true then L5 (P:=P) m o env σ (λa σ'=>aI P m ops n Kp p (bp env o.dst a) σ' R) Kp else jw P m ops n Kp i env σ (λenv σ=>aI P m ops n Kp p env σ R)):=by unfold PE;rw[nP,ow];rfl
@[simp] theorem PQ{o:Oper}:PE L m n mu ops Kp R i p o env σ (some false)=iy L m mu ops n Kp p (bp env o.dst (.lit (.tuple #[]))) σ R:=by unfold PE;rw[nP,mP]
end
@[simp] theorem OB{l c:List AV}(h:c.length=l.length):aH l 0 c=c:=by unfold aH;simp[h]
@[simp high] theorem wm{l:List AV}{off:Nat}{v:AV}(h:off<l.length):aH l off [v]=l.set off v:=by unfold aH;rw[List.set_eq_take_append_cons_drop,if_pos h];simp
attribute [simp] Ds va nM vQ Ah pF vU uA L5 L3 Dr Function.comp_def
def wn(P:Program)(t:TypeId)(name:String)(f:FuncId)(a a':AV):Prop:=∀k O v (K:FuncId × Value->ah->aj->Prop) Kp,V k v a->(∀r,V k r a'->K (f,r) k O)->fE P (method (P.types.size+Made.depth) t v name) k O K Kp
section
variable{P:Program}{m:Mo}{fid n:Nat}{ro:Option Nat}{hold:List Entry}{s:St}{K:Exit->St->Prop}{k:List Item}
theorem xY{name:String}{recv:Value}{c a:Array Value}:Go.invoke (.fn (.method name) c) (#[recv]++a)=callMethod recv name a:=by
 have b:(#[recv]++a)[0]?=some recv:=by rw[Array.getElem?_append_left (by simp)];rfl
 have d:(#[recv]++a).extract 1 (#[recv]++a).size=a:=by apply Array.ext';rw[Array.toList_extract];simp[List.extract];rw[<-Array.length_toList,List.take_length]
 simp only[Go.invoke,b,d]
theorem ab.invoke{ops:Array Oper}{i:Nat}{is:List Nat}{o:Oper}{recv:Operand}{name:String}{args:Array Operand}{E:Array TypeId}{t f:Nat}{a a':AV}{fn:Func}(R:ops[i]?=some o)(l:o.op=.call ⟨.invoke recv name,args,E⟩)(W:o.guard=none)(z:Oper.ok n o=true)
 (X:aq s.env recv=.px t a) (Y:wn P t name f a a') (Z:P.funcs[f]?=some fn) (hb:fn.body.isSome=true) (F:(fn.name==  "runtime.NumGoroutine")=false)
 (h:ar P m f (a'::args.toList.map (aq s.env)) s.σ (λr σ'=>match r with|.val x=>ab P m fid n ro hold (.inRegion ops is::k) {s with env:=bp s.env o.dst x,σ:=σ'} K|.panic v=>K (.panic v) {s with σ:=σ'})):
 ab P m fid n ro hold (.inRegion ops (i::is)::k) s K:=λH Q kk O tmps defs kind cs h1 g S=>by
 have hw:cC ops n s.env o:=by unfold cC;rw[W];trivial
 refine T.qc (λw=>eS R (i9 g.size g.env hw) (.inr λc e=>by rw[l]at e;cases e) w) (ga ?_)
 have p:∀x∈o.op.operands,V kk (Frame.eval ⟨fid,tmps,.inRegion ops (i::is)::k,defs,.run,kind,ro⟩ x) (aq s.env x):=λx B=>by refine V.eval g.env g.size x ?_;simp only[Oper.ok,Bool.and_eq_true,Array.all_eq_true_iff_forall_mem]at z;exact z.1 x B
 have A:=p recv (by simp[l,Op.operands,Call.operands])
 rw[X]at A;have d:=Vs.ofArray (k:=kk) (ρ:=Frame.eval ⟨fid,tmps,.inRegion ops (i::is)::k,defs,.run,kind,ro⟩) (env:=s.env) (xs:=args) (λx B=>p x (by simp[l,Op.operands,Call.operands,B]))
 generalize hq:Frame.eval _ recv=cf at A;cases A with
 | px _ v _ I=>
   simp only[execOp,l,resolve,hq];refine af (ak ?_);rw[xY];unfold callMethod;simp only;refine af (cu ?_);refine af (Y kk O v _ _ I λr J=>?_)
   simp only[callFunc];refine af (cu ?_);rw[Z];have L:fn.body.isNone=false:=by cases B:fn.body<;>simp_all
   simp only[F,L,Bool.false_eq_true,if_false];refine ak λ_=>⟨by simp,?_⟩
   have e:#[r]++args.map (Frame.eval ⟨fid,tmps,.inRegion ops (i::is)::k,defs,.run,kind,ro⟩)=(r::(args.map (Frame.eval ⟨fid,tmps,.inRegion ops (i::is)::k,defs,.run,kind,ro⟩)).toList).toArray:=by simp
   rw[e];refine h Q kk O _ ⟨fid,tmps,.inRegion ops (i::is)::k,defs,.run,kind,ro⟩ (gX s.rc cs) .normal (by simp) (.cons J ⟨by simpa using d.1,λj v a A ha=>d.2 j v a (by simpa using A) ha⟩) g.rel ?_ ?_
   . intro C D M U σ' b q u N
     obtain⟨y,e1,e2⟩:=g.put (fid:=fid) (ro:=ro) (rest:=is) (kk:=k) b R q u;show T P m Q C D (G (Frame.finish ⟨fid,tmps,.inRegion ops (i::is)::k,defs,.run,kind,ro⟩ M) (gX s.rc cs));rw[e1];exact N (by simpa[lX,nH]using H) Q C D y defs kind cs h1 e2 (S.mono b)
   . intro C D M U σ' b q u N
     exact S.panic C D tmps defs {s with σ:=σ'} _ M U b ⟨g.size,g.env.mono b,u,g.ds.mono b,g.rc.mono b⟩ q N
theorem fV{ops:Array Oper}{env:Env}{o:Oper}(a:o.guard=none):cC ops n env o:=by unfold cC;rw[a];trivial
theorem ab.defer{ops:Array Oper}{i:Nat}{is:List Nat}{o:Oper}{fo:Operand}{args:Array Operand}{a:Array TypeId}{f:Fn}{first cap:List AV}(b:ro=none)(j:ops[i]?=some o)(c:o.op=.defer ⟨.value fo,args,a⟩)(l:o.guard=none)(d:Oper.ok n o=true)
 (e:aq s.env fo=.fn f first cap) (h:ab P m fid n ro hold (.inRegion ops is::k) {s with env:=bp s.env o.dst .bJ,D:=.call f cap (first++args.toList.map (aq s.env))::s.D} K):ab P m fid n ro hold (.inRegion ops (i::is)::k) s K:=
 λg=>Go.defer b j c (fV l) d e (h (by simpa[lX,nH]using g))
end
def Ff(F a:Nat->Prop)(σ σ':aa):Prop:=∀b x,¬F b->σ b=some x->σ' b=some x/\¬a b
def bv:AV->Option Nat
 |.sl _ _ (.tok b _)=>some b
 |_=>none
def aa.off(σ:aa)(a:AV):aa:=match bv a with|some b=>σ.del b|none=>σ
theorem Tok.here{σ0 σ:aa}{a:AV}{kk:Nat}{es:List AV}(h:Tok σ0 σ a kk es):Tok (σ.off a) σ a kk es/\σ0.Le (σ.off a):=by
 obtain⟨f,g⟩:=h;rcases g with⟨rfl,rfl⟩|rfl|⟨b,e,i,rfl,j⟩
 . exact⟨⟨aa.le_refl _,.inl ⟨rfl,rfl⟩⟩,f⟩
 . exact⟨⟨aa.le_refl _,.inr (.inl rfl)⟩,f⟩
 . refine⟨⟨λc x d=>?_,.inr (.inr ⟨b,e,by simp[aa.off,bv,aa.del],rfl,j⟩)⟩,λc x d=>?_⟩
   . simp only[aa.off,bv,aa.del]at d
     split at d
     . cases d
     . exact d
   . have k:c≠b:=λe=>by subst e;rw[i]at d;cases d
     simp only[aa.off,bv,aa.del,k,if_false];exact f c x d
theorem Tok.base{σ0 c σ:aa}{a:AV}{kk:Nat}{es:List AV}(h:Tok c σ a kk es)(d:σ0.Le c):Tok σ0 σ a kk es:=by
 obtain⟨f,g⟩:=h;refine⟨aa.le_trans d f,?_⟩;rcases g with h|h|⟨b,e,i,j,k⟩
 . exact .inl h
 . exact .inr (.inl h)
 . refine .inr (.inr ⟨b,e,?_,j,k⟩)
   cases hb:σ0 b with
   |none=>rfl
   |some x=>have:=d b x hb;rw[i]at this;cases this
theorem Tok.beside{σ0 σ:aa}{a:AV}{kk:Nat}{es:List AV}(h:Tok σ0 σ a kk es){b:Nat}{x:ku}(hb:σ0 b=none)(ht:bv a≠some b):Tok σ0 (σ.set b x) a kk es:=by
 obtain⟨d,f⟩:=h;refine⟨aa.iz d hb,?_⟩;rcases f with h|h|⟨c,e,g,rfl,i⟩
 . exact .inl h
 . exact .inr (.inl h)
 . refine .inr (.inr ⟨c,e,g,rfl,?_⟩)
   have j:c≠b:=λe=>ht (by simp[bv,e])
   rw[aa.ag _ _ j];exact i
theorem Tok.aY{σ0 σ:aa}{a:AV}{kk:Nat}{es:List AV}(h:Tok σ0 σ a kk es){b:Nat}(hb:bv a=some b):σ0 b=none/\∃e,σ b=some (.tail e):=by
 obtain⟨i,d⟩:=h;rcases d with⟨rfl,rfl⟩|rfl|⟨c,e,f,rfl,g⟩
 . cases hb
 . cases hb
 . simp only[bv,Option.some.injEq]at hb
   subst hb;exact⟨f,e,g⟩
theorem Tok.cells{σ0 σ:aa}{a:AV}{kk:Nat}{es:List AV}(h:Tok σ0 σ a kk es):a.cells=[a]/\a.flat=true:=by
 obtain⟨_,b⟩:=h;rcases b with⟨rfl,rfl⟩|rfl|⟨c,e,d,rfl,f⟩<;>exact⟨rfl,rfl⟩
theorem aa.fQ{σ:aa}{a:AV}{b:Nat}(h:bv a≠some b):σ.off a b=σ b:=by
 unfold aa.off;cases d:bv a with
 |none=>rfl
 | some c=>
   have:b≠c:=λe=>h (by rw[d,e])
   simp[aa.del,this]
def fC:AV->Option Nat
 |.gn b _ _ _=>some b
 |_=>none
def aa.Au(σ:aa)(a:AV):aa:=match fC a with|some b=>σ.del b|none=>σ
theorem aa.qu{σ:aa}{a:AV}{b:Nat}(h:fC a≠some b):σ.Au a b=σ b:=by
 unfold aa.Au;cases d:fC a with
 |none=>rfl
 | some c=>
   have:b≠c:=λe=>h (by rw[d,e])
   simp[aa.del,this]
theorem aa.Mt{σ:aa}{a:AV}:(σ.Au a).Le σ:=λb x h=>by
 unfold aa.Au at h;cases d:fC a with
 |none=>rw[d]at h;exact h
 | some c=>
   rw[d]at h;simp only[aa.del]at h;split at h
   . cases h
   . exact h
theorem bF.cells{σ0 σ:aa}{a:AV}{kk:Nat}{es:List AV}(h:bF σ0 σ a kk es):a.cells=[a]/\a.flat=true:=by
 obtain⟨_,b⟩:=h;rcases b with⟨_,rfl|rfl⟩|⟨c,cap,rest,rfl,_⟩<;>exact⟨rfl,rfl⟩
theorem bF.me{σ0 σ:aa}{a:AV}{kk:Nat}{es:List AV}(h:bF σ0 σ a kk es){b:Nat}(hb:fC a=some b):σ0 b=none/\∃l,σ b=some (.cells l):=by
 obtain⟨g,d⟩:=h;rcases d with⟨_,rfl|rfl⟩|⟨c,cap,rest,rfl,e,_,_,f,_⟩
 . cases hb
 . cases hb
 . simp only[fC,Option.some.injEq]at hb
   subst hb;exact⟨e,_,f⟩
theorem bF.here{σ0 σ:aa}{a:AV}{kk:Nat}{es:List AV}(h:bF σ0 σ a kk es):bF (σ.Au a) σ a kk es/\σ0.Le (σ.Au a):=by
 obtain⟨d,e⟩:=h;refine⟨⟨aa.Mt,?_⟩,λc x f=>?_⟩
 . rcases e with h|⟨b,cap,rest,rfl,m,i,j,k,l⟩
   . exact .inl h
   . exact .inr ⟨b,cap,rest,rfl,by simp[aa.Au,fC,aa.del],i,j,k,l⟩
 . by_cases g:fC a=some c
   . have:=(bF.me ⟨d,e⟩ g).1
     rw[f]at this;cases this
   . rw[aa.qu g];exact d c x f
theorem bF.base{σ0 c σ:aa}{a:AV}{kk:Nat}{es:List AV}(h:bF c σ a kk es)(d:σ0.Le c):bF σ0 σ a kk es:=by
 obtain⟨e,f⟩:=h;refine⟨aa.le_trans d e,?_⟩;rcases f with h|⟨b,cap,rest,rfl,g,i,j,k,l⟩
 . exact .inl h
 . refine .inr ⟨b,cap,rest,rfl,?_,i,j,k,l⟩
   cases hb:σ0 b with
   |none=>rfl
   |some x=>have:=d b x hb;rw[g]at this;cases this
theorem bF.keep{σ0 σ d σ':aa}{a:AV}{kk:Nat}{es:List AV}(h:bF σ0 σ a kk es)(e:d.Le σ')(hb:∀b,fC a=some b->σ' b=σ b/\d b=none):bF d σ' a kk es:=by
 obtain⟨l,f⟩:=h;refine⟨e,?_⟩;rcases f with h|⟨c,cap,rest,rfl,m,g,i,j,k⟩
 . exact .inl h
 . exact .inr ⟨c,cap,rest,rfl,(hb c rfl).2,g,i,by rw[(hb c rfl).1];exact j,k⟩
theorem bF.len{σ0 σ:aa}{a:AV}{kk:Nat}{es:List AV}(h:bF σ0 σ a kk es):(a=.nil/\es=[])\/(∃sp,a=.sl kk es sp)\/∃b cap,a=.gn b 0 es.length cap:=by
 rcases h.2 with⟨rfl,rfl|rfl⟩|⟨c,cap,rest,rfl,_⟩
 . exact .inl ⟨rfl,rfl⟩
 . exact .inr (.inl ⟨_,rfl⟩)
 . exact .inr (.inr ⟨c,cap,rfl⟩)
inductive Wl:List AV->List AV->Prop
 |nil:Wl [] []
 |cons {a a':AV}{l l':List AV}:a.W a'->Wl l l'->Wl (a::l) (a'::l')
theorem Wl.len{l a:List AV}(h:Wl l a):l.length=a.length:=by
 induction h with
 |nil=>rfl
 |cons _ _ b=>simp[b]
theorem Wl.at{l c:List AV}(h:Wl l c):∀{i:Nat}{a':AV},c[i]?=some a'->∃a,l[i]?=some a/\a.W a':=by
 induction h with
 |nil=>intro i a' h;simp at h
 | @cons a b l c d f e=>
   intro i a' h;cases i with
   |zero=>simp at h;subst h;exact⟨a,by simp,d⟩
   |succ i=>simpa using e (by simpa using h)
theorem Vs.Fg{k:ah}{c:List Value}{l e:List AV}(h:Vs k c l)(f:Wl l e):Vs k c e:=⟨by rw[h.1,f.len],λi v a g ha=>by obtain⟨b,hb,d⟩:=f.at ha;exact d k v (h.2 i v b g hb)⟩
theorem ar.Fg{P:Program}{m:Mo}{f:FuncId}{args args':List AV}{σ:aa}{b:dF->aa->Prop}(h:ar P m f args' σ b)(d:Wl args args'):ar P m f args σ b:=λQ k O a c rest kind e g i j l=>h Q k O a c rest kind e (g.Fg d) i j l
theorem aT{P:Program}{m:Mo}{f:FuncId}{fn:Func}{args args':List AV}{σ:aa}{b:dF->aa->Prop}(c:P.funcs[f]?=some fn)(hb:fn.body.isSome=true)(a:(fn.name==  "runtime.NumGoroutine")=false)(d:Wl args args')(h:ar P m f args' σ b):
 dX P m (.fn (.func f) [] []) args σ b:=ai c hb a (h.Fg d)
def ah.Jc(k:ah)(r:Nat)(c:Array Value)(f:Nat->Option Value):ah:={k with cell:=λb j=>if b=r/\f j=none then c[j]? else k.cell b j}
theorem DR{k:ah}{O:aj}{r:Nat}{c:Array Value}{e:TypeId}{f:Nat->Option Value}(s:O r=some (.obj (.cells c e (0,0))))(D:k.sh r=some (e,c.size))(E:∀i v,f i=some v->c[i]?=some v):lT k O (k.Jc r c f) (O.set r (.part f)):=λw h=>by
 have z:=h.obj _ _ s
 have t:∀j,k.cell r j=none:=λj=>by
  cases q:k.cell r j with
  |none=>rfl
  |some v=>exact(h.apart _ _ _ q (.inl ⟨_,s⟩)).elim
 have u:k.Le (k.Jc r c f):=⟨λb i v n=>by
  have:¬(b=r/\f i=none):=λx=>by rw[x.1,t]at n;cases n
  simpa[ah.Jc,this]using n,λ_ _ h=>h⟩
 have l:∀b,b≠r->(O.set r (.part f)) b=O b:=λb hb=>by simp[aj.set,hb]
 have a:(O.set r (.part f)) r=some (.part f):=by simp[aj.set]
 refine⟨⟨λb i v n A=>?_,λb i v n=>?_,h.sh,λb o hb=>?_,λb m hb=>?_,λb g hb=>?_⟩,⟨u,Nat.le_refl _,λ_ _ _=>rfl,λ_ _ _ _ c _ h=>⟨c,h,rfl,λ_ _=>rfl⟩,λ_ _ _ _ c _ h=>⟨c,h,rfl,λ_ _=>rfl⟩,λ_ _=>rfl,λb x B=>?_,λb i v n=>?_,λ_ _ h=>.inl h,by simp,rfl,rfl,rfl,by simp,λb g hb=>?_⟩⟩
 . by_cases hb:b=r
   . subst hb
     rcases A with⟨o,p⟩|⟨m,p,C⟩|⟨g,p,C⟩
     . rw[a]at p;cases p
     . rw[a]at p;cases p
     . rw[a]at p;cases p
       simp only[ah.Jc,true_and]at n;rw[if_neg C,t]at n;cases n
   . have y:k.cell b i=some v:=by simpa[ah.Jc,hb]using n
     exact h.apart b i v y (by simpa[aZ,aj.set,hb]using A)
 . by_cases hb:b=r/\f i=none
   . obtain⟨rfl,F⟩:=hb
     simp only[ah.Jc,F,and_self,if_true]at n;simp[World.cell?,z,n]
   . exact h.cell b i v (by simpa only[ah.Jc,hb,if_false]using n)
 . by_cases d:b=r
   . subst d;rw[a]at hb;cases hb
   . exact h.obj b o (by rw[l b d]at hb;exact hb)
 . by_cases d:b=r
   . subst d;rw[a]at hb;cases hb
   . exact h.tail b m (by rw[l b d]at hb;exact hb)
 . by_cases d:b=r
   . subst d;rw[a]at hb;cases hb
     exact⟨c,e,z,D,E⟩
   . exact h.part b g (by rw[l b d]at hb;exact hb)
 . by_cases d:b=r
   . subst d;exact .inl ⟨_,s,trivial⟩
   . rw[l b d]at B;exact .inl ⟨x,B,.refl x⟩
 . by_cases hb:b=r/\f i=none
   . obtain⟨rfl,_⟩:=hb;exact .inr (.inl (.inl ⟨_,s⟩))
   . exact .inl (by simpa only[ah.Jc,hb,if_false]using n)
 . have d:b≠r:=λq=>by rw[q,s]at hb;cases hb
   exact⟨g,by rw[l b d];exact hb⟩
section
variable{P:Program}{m:Mo}{Q:ah->aj->Goroutine->Prop}{k:ah}{O:aj}{g:Goroutine}{σ:aa}
theorem T.part{r:Nat}{c:Array Value}{e:TypeId}{f:Nat->Option Value}(d:O r=some (.obj (.cells c e (0,0))))(p:∀i v,f i=some v->c[i]?=some v)(b:g.status=.running)
 (h:∀k' O',k.Le k'->k'.sh r=some (e,c.size)->(∀j v,f j=none->c[j]?=some v->k'.cell r j=some v)->O'=O.set r (.part f)->T P m Q k' O' g):T P m Q k O g:=by
 by_cases a:∃w,Sat k O w
 . obtain⟨w,l⟩:=a
   have q:=(kw (k:=k) d w l).2.le;have o:=DR (k:=k.eQ r (e,c.size)) (f:=f) d (by simp[ah.eQ]) p;have n:(k.eQ r (e,c.size)).Le ((k.eQ r (e,c.size)).Jc r c f):=(o w (kw (k:=k) d w l).1).2.le;exact .ghost (kw d) (.ghost o (h _ _ (q.trans n) (by simp[ah.Jc,ah.eQ]) (λj v s t=>by simp[ah.Jc,s,t]) rfl))
 . exact .step (λ_ _ _=>False) b (λ_ _ _ h=>h.elim) λw l=>absurd ⟨w,l⟩ a
theorem T.Qu{b:Nat}{l:List AV}{hole:List Nat}{f:Nat->Option Value}(r:Rel k O σ)(hb:σ b=some (.cells l))(A:∀i v,f i=some v->l[i]?=some (.lit v))(B:∀i,f i=none↔i∉hole)(o:g.status=.running)
 (h:∀k' O',k.Le k'->(∀off,V k' (.pointer (some ⟨b,off,none⟩)) (.kp b l hole off))->Rel k' O' (σ.set b (.part f))->T P m Q k' O' g):T P m Q k O g:=by
 obtain⟨y,C,D⟩:=r.1 b _ hb (by simp)
 cases D with
 | cells c e _ s t E=>
   refine T.part (f:=f) C (λi v F=>?_) o λk' O' n p G q=>?_
   . have w:=A i v F
     have d:i<c.size:=by rw[s];exact(List.getElem?_eq_some_iff.1 w).1
     have x:=t i c[i] _ (by simp[d]) w
     have:c[i]=v:=by generalize c[i]=u at x;cases x;rfl
     simp[d,this]
   . refine h k' O' n (λoff=>.kp b off c.size e l hole (λj=>c.getD j undef) p (by omega) (λj H z=>?_) (λj a z ha=>?_)) ?_
     . have d:j<c.size:=by omega
       refine⟨?_,?_⟩
       . rw[G j c[j] ((B j).2 z) (by simp[d])]
         simp[Array.getD,d]
       . simp only[Array.getD,d,dif_pos]
         exact E j _ (by simp[d])
     . have d:j<c.size:=by rw[s];exact(List.getElem?_eq_some_iff.1 ha).1
       simp only[Array.getD,d,dif_pos];exact(t j _ a (by simp[d]) ha).mono n
     . rw[q]
       exact(r.mono n).set (.part f)
theorem ar.share{f:FuncId}{args:List AV}{p KF0:dF->aa->Prop}(h:ar P m f args σ KF0)
 (u:∀r σ',KF0 r σ'->p r σ'\/∃b l hole F,r=.val (.ref b 0)/\σ' b=some (.cells l)/\(∀i v,F i=some v->l[i]?=some (.lit v))/\(∀i,F i=none↔i∉hole)/\p (.val (.kp b l hole 0)) (σ'.set b (.part F))):ar P m f args σ p:=by
 intro Q k O d c rest kind x y z w A;refine h Q k O d c rest kind x y z (λB C D E σ' a n o g=>?_) (λB C D E σ' a n o g=>?_)
 . rcases u _ _ g with g|⟨b,l,hole,F,e,hb,G,H,q⟩
   . exact w _ _ _ _ _ a n o g
   . cases e
     cases n;exact T.Qu o hb G H (by cases kind<;>rfl) λI J j s t=>w _ _ _ _ _ (a.trans j) (s 0) t q
 . rcases u _ _ g with g|⟨b,l,hole,F,e,_⟩
   . exact A _ _ _ _ _ a n o g
   . cases e
end
structure GG(P:Program)(mt kt et ft:Nat)(kd:IntKind):Prop where
 hm:P.underlying mt=some (.map kt et)
 hk:∃f,P.underlying kt=some (.struct #[f])/\(f.name≠ "_")/\f.type=ft/\f.offset=0
 hf:P.underlying ft=some (.int kd)
 hs:P.stoodInHeld kt=false
def wo(kd:IntKind)(n:Int):AV:=.agg [.lit (.int kd n)]
def mapA(kd:IntKind)(l:List (Int × AV)):ku:=.map (l.map λp=>(wo kd p.1,p.2))
section
variable{P:Program}(L:jr P){k:ah}{O:aj}{Kp:Value->ah->aj->Prop}{mt kt et ft:Nat}{kd:IntKind}
theorem gM{K:TypeDesc->ah->aj->Prop}{t:Nat}{d:TypeDesc}(a:P.underlying t=some d)(h:K d k O):fE P (underlying t) k O K Kp:=by unfold underlying;refine af (cu ?_);rw[a];exact h
theorem tK{K:Value->ah->aj->Prop}{i:TI}{v:Value}(ht:L.tt ft=some i)(ha:i.agg=false)(h:K v k O):fE P (part ft #[v] 0) k O K Kp:=by unfold part;refine af (qd L ht ?_);rw[ha];exact ak h
variable(M:GG P mt kt et ft kd){i:TI}(ht:L.tt ft=some i)(ha:i.agg=false)
include M ht ha
theorem qP{K:Unit->ah->aj->Prop}{b:Bool}{n:Int}(h:K () k O):fE P (Instr.checkKey b 10000 kt (.agg #[.int kd n])) k O K Kp:=by obtain⟨f,a,c,d,e⟩:=M.hk;show fE P (Instr.checkKey b (9998+1+1) kt (.agg #[.int kd n])) k O K Kp;rw[Instr.checkKey];refine af (gM a ?_);simp only[List.forIn_toArray,List.forIn_cons,List.forIn_nil];rw[if_pos c,d,e];refine af (af (af (tK L ht ha ?_)));rw[Instr.checkKey];refine af (af (gM M.hf ?_));exact ak (ak (ak (ak h)))
theorem DT{K:Bool->ah->aj->Prop}{a b:Int}(h:K (a==b) k O):fE P (Op.equal kt (.agg #[.int kd a]) (.agg #[.int kd b])) k O K Kp:=by
 obtain⟨f,d,e,g,i⟩:=M.hk;show fE P (Op.equalIn (9998+1+1) kt (.agg #[.int kd a]) (.agg #[.int kd b])) k O K Kp;rw[Op.equalIn];refine af (gM d ?_);refine af (cu ?_);rw[M.hs];simp only[Bool.false_eq_true,if_false,List.forIn_toArray,List.forIn_cons,List.forIn_nil];rw[if_pos e,g,i];refine af (af (af (tK L ht ha ?_)));refine af (tK L ht ha ?_);refine af ?_;rw[Op.equalIn];refine af (gM M.hf ?_);simp only[if_true];refine ak ?_;cases c:(a==b)with
 |true=>rw[c]at h;exact ak (ak (ak h))
 |false=>rw[c]at h;exact ak (ak (ak h))
def gu(l:List (Int × AV))(n:Int):Option AV:=(l.find? λp=>n==p.1).map (·.2)
theorem pj{n:Int}{K:Option (Nat × Value)->ah->aj->Prop}:∀(es:List MapEntry) (l:List (Int × AV)) (j:Nat),es.length=l.length->(∀(j:Nat) e p,es[j]?=some e->l[j]?=some p->e.key=.agg #[.int kd p.1]/\V k e.val p.2) ->
 (∀a v j,gu l n=some a->V k v a->K (some (j,v)) k O)->(gu l n=none->K none k O)->fE P (Instr.findAsking kt (.agg #[.int kd n]) es j) k O K Kp
 |[],[],j,_,_,_,h=>by rw[Instr.findAsking];exact ak (h rfl)
 | e ::es,p::l,j,g,d,c,f=>by
   obtain⟨i,m⟩:=d 0 e p rfl rfl;rw[Instr.findAsking,i];refine af (DT L M ht ha ?_);cases b:(n==p.1)with
   |true=>simp only[if_true];exact ak (c p.2 _ _ (by simp[gu,b]) m)
   | false=>
     simp only[Bool.false_eq_true,if_false];have o:gu (p::l) n=gu l n:=by simp[gu,b]
     rw[o]at c f;exact pj es l (j+1) (by simpa using g) (λj e p q b=>d (j+1) e p (by simpa using q) (by simpa using b)) c f
 |[],_::_,_,h,_,_,_=>by simp at h
 |_::_,[],_,h,_,_,_=>by simp at h
theorem sz{n:Int}{K:Option (Nat × Value)->ah->aj->Prop}{es:List MapEntry}{l:List (Int × AV)}(b:es.length=l.length)(d:∀(j:Nat) e p,es[j]?=some e->l[j]?=some p->e.key=.agg #[.int kd p.1]/\V k e.val p.2)
 (g:∀a v j,gu l n=some a->V k v a->K (some (j,v)) k O) (c:gu l n=none->K none k O):fE P (Instr.findKey kt (.agg #[.int kd n]) es) k O K Kp:=by
 obtain⟨f,h,i,m,o⟩:=M.hk;unfold Instr.findKey;refine af (gM h ?_);cases es with
 | nil=>
   cases l with
   |nil=>exact ak (c rfl)
   |cons p l=>simp at b
 | cons e es=>
   have:Instr.findNow (.struct #[f]) (.agg #[.int kd n]) (e::es) 0=none:=by simp[Instr.findNow,Instr.sameNow]
   rw[this];exact pj L M ht ha _ l 0 b d g c
omit M ht ha
theorem V.wo{k:ah}{v:Value}{kd:IntKind}{n:Int}(h:V k v (wo kd n)):v=.agg #[.int kd n]:=by
 cases h with
 | agg c l b d=>
   have b:c.size=1:=b
   have e:c=#[c[0]]:=by
    apply Array.ext
    . simp[b]
    . intro i f a
      have:i=0:=by simp at a;exact a
      subst this;rfl
   have:=d 0 c[0] (.lit (.int kd n)) (by simp[b]) rfl
   rw[e];generalize c[0]=u at this;cases this;rfl
theorem Fh{σ:aa}(c:Rel k O σ){b:Nat}{l:List (Int × AV)}(hb:σ b=some (mapA kd l)):∃es clock,O b=some (.obj (.map es clock))/\es.toList.length=l.length/\∀(j:Nat) e p,es.toList[j]?=some e->l[j]?=some p->e.key=.agg #[.int kd p.1]/\V k e.val p.2:=by
 obtain⟨x,d,a⟩:=c.1 b _ hb (by simp[mapA]);unfold mapA at a;cases a with
 | map es clock m f g=>
   refine⟨es,clock,d,by simpa using f,λj e p h i=>?_⟩;obtain⟨n,o⟩:=g j e (aR.wo kd p.1,p.2) (by simpa using h) (by simp[i]);exact⟨n.wo,o⟩
variable{o:Oper}{env:Env}{σ:aa}{K Kq:AV->aa->Prop}
theorem DU(M:GG P mt kt et ft kd)(ht:L.tt ft=some i)(ha:i.agg=false){t:TI}{x g:Operand}{b:Nat}{l:List (Int × AV)}{n:Int}(h:o.op=.lookup mt x g true)(m:L.tt et=some t)(z:aq env x=.map b)(A:aq env g=wo kd n)(hb:σ b=some (mapA kd l))
 (w:K (.bk [(gu l n).getD (np t.zero),.lit (.bool (gu l n).isSome)]) σ):aM P o env σ K Kq:=
 aM.val (s:=λe=>Instr.lookup mt (e x) (e g) true) (λe=>by simp[execOp,h]) λk O e f p=>by
  have q:=f x (by simp[h,Op.operands]);have y:=f g (by simp[h,Op.operands]);rw[z]at q;rw[A]at y;rw[y.wo];generalize e x=G at q;cases q;obtain⟨es,clock,B,C,D⟩:=Fh p hb;unfold Instr.lookup;refine af (gM M.hm ?_);simp only;refine af (s:=getObj b) ⟨_,B,rfl,ak ?_⟩;refine af (ak ?_);refine af (qP L M ht ha ?_);refine af (sz L M ht ha C D (λa v j r E=>?_) (λr=>?_))
  . simp only
    refine af (ak ?_);simp only[if_true];refine ak (.here ⟨.refl k,_,σ,.bk _ _ rfl (λi u F d c=>?_),p,w⟩);rw[r]at c
    match i with
    |0=>simp at d c;subst d;subst c;exact E
    |1=>simp at d c;subst d;subst c;exact .lit _
    |i+2=>simp at c
  . simp only
    refine af (dz L m ?_);refine af (ak ?_);simp only[if_true];refine ak (.here ⟨.refl k,_,σ,.bk _ _ rfl (λi u F d c=>?_),p,w⟩);rw[r]at c
    match i with
    |0=>simp at d c;subst d;subst c;exact .np k _
    |1=>simp at d c;subst d;subst c;exact .lit _
    |i+2=>simp at c
theorem xZ(M:GG P mt kt et ft kd)(ht:L.tt ft=some i)(ha:i.agg=false){x m y:Operand}{b:Nat}{l:List (Int × AV)}{n:Int}{a:AV}(r:o.op=.mapUpdate mt x m y)(H:aq env x=.map b)(I:aq env m=wo kd n)(J:aq env y=a)(hb:σ b=some (mapA kd l))(N:gu l n=none)
 (Q:K (.lit undef) (σ.set b (mapA kd (l++[(n,a)])))):aM P o env σ K Kq:=λk O g c B=>by
 have z:=c x (by simp[r,Op.operands])
 have t:=c m (by simp[r,Op.operands])
 have C:=c y (by simp[r,Op.operands])
 rw[H]at z;rw[I]at t;rw[J]at C;have R:execOp g o=(do Instr.mapUpdate mt (g x) (g m) (g y);pure .skip):=by simp[execOp,r]
 rw[R,t.wo];generalize g x=W at z;cases z;obtain⟨es,clock,D,w,E⟩:=Fh B hb;unfold Instr.mapUpdate;refine af (af (gM M.hm ?_));simp only;refine af (s:=getObj b) ⟨_,D,rfl,ak ?_⟩;simp only;refine af (qP L M ht ha ?_);refine af (sz L M ht ha w E (λa v j F X=>by rw[N]at F;cases F) (λ_=>?_))
 simp only;refine⟨⟨_,D,rfl⟩,rfl,ak ?_⟩;refine⟨undef,.inr ⟨rfl,rfl⟩,.here ⟨.refl k,.lit undef,_,.lit _,B.set (.map _ _ _ ?_ (λj e p d f=>?_)),Q⟩⟩
 . simp;simpa using w
 . rw [Array.getElem?_push]at d
   rw[List.map_append]at f
   by_cases h:j=es.size
   . rw[if_pos h]at d
     have A:l.length=es.size:=by rw[<-w];simp
     rw[List.getElem?_append_right (by simp;omega)]at f
     simp only[Option.some.injEq]at d;subst d;have:j-(l.map λp=>(aR.wo kd p.1,p.2)).length=0:=by simp;omega
     rw[this]at f;simp at f;subst f;exact⟨t.wo ▸ t,C⟩
   . rw[if_neg h]at d
     have S:j<es.size:=(Array.getElem?_eq_some_iff.1 d).1;have A:l.length=es.size:=by rw[<-w];simp
     rw[List.getElem?_append_left (by simp;omega),List.getElem?_map]at f
     obtain⟨q,T,rfl⟩:=Option.map_eq_some_iff.1 f;obtain⟨U,V⟩:=E j e q (by simpa using d) T
     refine⟨?_,V⟩;rw[U]
     exact .agg _ _ rfl λi u a G ha=>by
      match i with
      |0=>simp at G ha;subst G;subst ha;exact .lit _
      |i+1=>simp at ha
theorem DV{mt:Nat}(kd:IntKind)(f:o.op=.makeMap mt none)(g:∀b,σ b=none->K (.map b) (σ.set b (mapA kd []))):aM P o env σ K Kq:=
 aM.val (s:=λc=>Instr.makeMap mt none) (λc=>by simp[execOp,f]) λk O c h d=>by
  unfold Instr.makeMap;simp only;refine af (s:=newObj _) ⟨rfl,λr a=>ak ?_⟩;exact .here ⟨.made a.2.2,_,_,.map r,(d.mono (.made a.2.2)).set (.map _ _ _ rfl λj e p i=>by simp at i),g r (d.isNone a.1 a.2.2)⟩
end
section
variable{P:Program}(L:jr P){o:Oper}{env:Env}{σ:aa}{K:AV->aa->Prop}{Kp:AV->aa->Prop}
theorem DW{i:TI}{d:TypeDesc}(h:dN P i d=true)(a:i.kind=.iface):∃ms,d=.interface ms:=by cases d<;>simp_all [dN]
theorem pM{op:BinOp}{t A:Nat}{x:Operand}{i:TI}{isNil:Bool}(q:o.op=.binOp op t x (.const .nilIface) A)(ht:L.tt t=some i)(B:i.kind=.iface)
 (C:(aq env x=.lit .nilIface/\isNil=true)\/(∃d a,aq env x=.px d a)/\isNil=false){b:Bool}(l:(op=.eql/\b=isNil)\/(op=.neq/\b=!isNil)) (D:K (.lit (.bool b)) σ):aM P o env σ K Kp:=
 aM.val (s:=λc=>do eqGuard op t x (.const .nilIface) (c x) (c (.const .nilIface));binOp op t (c x) (c (.const .nilIface))) (λc=>by simp[execOp,q]) λk O c m E=>by
  have n:=m x (by simp[q,Op.operands])
  have r:=m (.const .nilIface) (by simp[q,Op.operands])
  have F:c (.const .nilIface)=.nilIface:=by simp only[aq]at r;generalize c (.const .nilIface)=w at r;cases r;rfl
  have f:(c x=.nilIface/\isNil=true)\/∃d v,c x=.iface d v/\isNil=false:=by
   rcases C with⟨e,h⟩|⟨⟨d,a,e⟩,h⟩<;>rw[e]at n
   . generalize c x=w at n;cases n;exact .inl ⟨rfl,h⟩
   . generalize c x=w at n;cases n;exact .inr ⟨_,_,rfl,h⟩
  rw[F]
  have G:eqGuard op t x (.const .nilIface) (c x) .nilIface=pure ():=by rcases f with⟨f,_⟩|⟨d,v,f,_⟩<;>rw[f]<;>rcases l with⟨rfl,_⟩|⟨rfl,_⟩<;>simp[eqGuard]
  rw[G];refine af (ak ?_)
  have fin:∀{s:Sem Value},s=(do pure (.bool b))->fE P s k O (λv p u=>mN p u λy H=>k.Le y/\∃a g,V y v a/\Rel y H g/\K a g) (λv p u=>k.Le p/\∃a g,V p v a/\Rel p u g/\Kp a g):=λe=>by rw[e];exact ak (.here ⟨.refl k,_,σ,.lit _,E,D⟩)
  have j:∀(R:Bool->ah->aj->Prop) (z:Value->ah->aj->Prop),R isNil k O->fE P (Op.equal t (c x) .nilIface) k O R z:=λR z I=>by
   show fE P (Op.equalIn (9999+1) t (c x) .nilIface) k O R z;rw[Op.equalIn];refine af (aC L ht λd _ hd=>?_)
   obtain⟨ms,rfl⟩:=DW hd B
   rcases f with⟨f,rfl⟩|⟨d,v,f,rfl⟩<;>rw[f]<;>exact ak I
  rcases f with⟨f,J⟩|⟨d,v,f,J⟩<;>rw[f]at j ⊢<;>rcases l with⟨rfl,rfl⟩|⟨rfl,rfl⟩
  . exact af (s:=Op.equal t .nilIface .nilIface) (j _ _ (fin rfl))
  . exact af (s:=Op.equal t .nilIface .nilIface) (j _ _ (fin rfl))
  . exact af (s:=Op.equal t (.iface d v) .nilIface) (j _ _ (fin rfl))
  . exact af (s:=Op.equal t (.iface d v) .nilIface) (j _ _ (fin rfl))
end
end Go.aR
