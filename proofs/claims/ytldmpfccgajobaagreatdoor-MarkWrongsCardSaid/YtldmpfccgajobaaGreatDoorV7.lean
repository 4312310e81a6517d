import Derived.KernelRfl
import Derived.Test.YtldmpfccgajobaaGreatDoorV6
set_option linter.all false
namespace Go.bG
open Go.Conc
section
variable{P:Program}(L:jg P){m:Mo}
theorem ar.start{f:FuncId}{fn:Func}{args:List AV}{σ:aa}{c:eI->aa->Prop}{body:Code}(mu:List Nat)(hold:List Entry)(k:Nat)(d:P.funcs[f]?=some fn)(hb:fn.body=some body)(e:args.length=k)(a:lY fn k=true)(b:lf hold body=true)
 (h:aZ L m f fn.ntmps none mu hold 1000 [.code body] ⟨cX args,σ,[],.no⟩ (Mr L m fn.results.toList (lZ c))):ar P m f args σ c:=by
 simp only[lY,Bool.and_eq_true]at a;refine ar.thaw (ar.intro L d hb (by rw[e];exact Nat.le_of_ble_eq_true a.1) ?_ (Go.aZ L mu hold 1000 (by simpa[jP]using b) h));have:=a.2;simpa using this
variable{fid n:Nat}{ro:Option Nat}{hold:List Entry}{s:St}{K:Exit->St->Prop}{k:List Item}
theorem ab.run(mu:List Nat){todo:List Item}(h:aZ L m fid n ro mu hold 1000 todo s K):ab P m fid n ro hold todo s K:=λa=>Go.aZ L mu hold 1000 a h
theorem ao{f:FuncId}{fn:Func}{args:List AV}{σ:aa}{b:eI->aa->Prop}(c:P.funcs[f]?=some fn)(hb:fn.body.isSome=true)(a:(fn.name==  "runtime.NumGoroutine")=false)(h:ar P m f args σ b):
 dl P m (.fn (.func f) [] []) args σ b:=.func c hb a (by simpa using h)
theorem eP{f:FuncId}{fn:Func}{first cap args args':List AV}{σ:aa}{b:eI->aa->Prop}(c:P.funcs[f]?=some fn)(hb:fn.body.isSome=true)(a:(fn.name==  "runtime.NumGoroutine")=false)(d:first++args++cap=args')(h:ar P m f args' σ b):
 dl P m (.fn (.func f) first cap) args σ b:=.func c hb a (d ▸ h)
theorem ab.loop{c:Code}(N:Nat)(I:Nat->St->Prop)(g:I 0 s)
 (h:∀b i s,i<=N->I i s->(∀s',i<N->I (i+1) s'->ab P m fid n ro hold (.inLoop b::k) s' K)->ab P m fid n ro hold (.code c::.inLoop b::k) s K):ab P m fid n ro hold (.code (.loop c)::k) s K:=λe=>by
 have d:∀b,jP hold (.code c::.inLoop b::k)=true:=λb=>by simpa[jP,lf]using e
 refine Go.loop (λa s=>∃i,a=N-i/\i<=N/\I i s) N ⟨0,by simp,by omega,g⟩ ?_;rintro b a s ⟨i,rfl,j,l⟩ o;exact h b i s j l (λs' p f _=>o (N-(i+1)) s' (by omega) ⟨i+1,rfl,by omega,f⟩) (d b)
theorem ab.weaken{todo:List Item}{σ:aa}(h:ab P m fid n ro hold todo {s with σ} K)(b:σ.Le s.σ):ab P m fid n ro hold todo s K:=λa=>(h a).weaken b
def F6:Option Code->Bool
 |none=>true
 |some .ret=>true
 |some (.exit _)=>true
 |_=>false
theorem ab.rangeFunc{f:Operand}{params:Array Tmp}{assign body:Code}(i:Operand.ok n f=true)
 (h:jP hold [.code assign,.code body]=true->∀r l,s.σ r=none->s.σ l=none->r≠l->dl P m (am s.env f) [.fn (.yield l) [] []] ((s.σ.set r (.raw (.deferred (some [])))).set l (.loop ⟨.ready,none,fid,n,s.env,params,assign,body,r⟩))
   (fun res σ'=>match res with
     |.val _=>∃a,σ' l=some (.loop a)/\a.state≠.busy/\F6 a.pending=true/\ab P m fid n none hold ((a.pending.map Item.code).toList++k) {s with σ:=σ'.del l,D:=.mark r::s.D} K
     |.panic v=>K (.panic v) {s with σ:=σ',D:=.mark r::s.D})):ab P m fid n none hold (.code (.rangeFunc f params assign body)::k) s K:=λd=>by
 have j:jP hold [.code assign,.code body]=true:=by simp only[jP,List.all_cons,lf,Bool.and_eq_true]at d ⊢;exact⟨d.1.1,d.1.2,rfl⟩
 refine Go.rangeFunc i λr l a b c=>(h j r l a b c).mono λres σ' e=>?_
 cases res with
 |panic v=>exact e
 |val v=>obtain⟨o,p,q,g,t⟩:=e;refine⟨o,p,q,t ?_⟩;simp only[jP,List.all_cons,Bool.and_eq_true,List.all_append]at d ⊢;refine⟨?_,d.2⟩;unfold F6 at g;split at g<;>rename_i u<;>simp_all [lf]
theorem dl.xK{l:Nat}{args:List AV}{σ:aa}{c:eI->aa->Prop}{a:mT}{fn:Func}(b:jP hold [.code a.assign,.code a.body]=true)(d:P.funcs[a.fn]?=some fn)(e:σ l=some (.loop a))(f:args.length=a.params.size)
 (h:ab P m a.fn a.n (some l) hold [.code a.assign,.beginRound,.code a.body] ⟨lX a.env a.params.toList args,σ,[],.no⟩ (FY l c)):dl P m (.fn (.yield l) [] []) args σ c:=
 .yield d e f (h (by simp only[jP,List.all_cons,Bool.and_eq_true]at b ⊢;exact⟨b.1,trivial,b.2⟩))
theorem ab.beginRound{l:Nat}{a:mT}(c:s.σ l=some (.loop a))(ha:a.state=.ready)(h:ab P m fid n (some l) hold k {s with σ:=s.σ.set l (.loop {a with state:=.busy})} K):ab P m fid n (some l) hold (.beginRound::k) s K:=λb=>.beginRound c ha (h (by simpa[jP,lf]using b))
theorem ab.freeze{todo:List Item}{env a:Env}{σ σ':aa}{D:List kL}{rc:Rec}(b:Nat)(l:List AV)(hb:σ b=some (.cells l))(c:∀t,Fz b l (env t) (a t))(e:I' b l σ σ')
 (h:ab P m fid n ro hold todo ⟨a,σ',D,rc⟩ K):ab P m fid n ro hold todo ⟨env,σ,D,rc⟩ K:=λd=>Go.freeze b l hb c e (h d)
end
theorem aa.le_refl(σ:aa):σ.Le σ:=λ_ _ h=>h
theorem aa.le_trans{a b c:aa}(h:a.Le b)(d:b.Le c):a.Le c:=λx y e=>d x y (h x y e)
theorem aa.fa{σ0 σ:aa}{b:Nat}{x:ji}(h:σ0.Le σ)(hb:σ b=none):σ0.Le (σ.set b x):=λc y a=>by
 by_cases e:c=b
 . subst e;have:=h _ _ a;rw[hb]at this;cases this
 . simp only[aa.set,e,if_false];exact h _ _ a
theorem aa.iz{σ0 σ:aa}{b:Nat}{x:ji}(h:σ0.Le σ)(hb:σ0 b=none):σ0.Le (σ.set b x):=λc y a=>by
 by_cases e:c=b
 . subst e;rw[hb]at a;cases a
 . simp only[aa.set,e,if_false];exact h _ _ a
theorem aa.jQ{σ0 σ:aa}{b:Nat}(h:σ0.Le σ)(hb:σ0 b=none):σ0.Le (σ.del b):=λc y a=>by
 by_cases e:c=b
 . subst e;rw[hb]at a;cases a
 . simp only[aa.del,e,if_false];exact h _ _ a
theorem aa.aL{σ:aa}{b c:Nat}{x:ji}(h:(σ.set b x) c=none):c≠b/\b≠c/\σ c=none:=by
 by_cases e:c=b
 . subst e;simp[aa.set]at h
 . simp only[aa.set,e,if_false]at h
   exact⟨e,λa=>e a.symm,h⟩
@[simp] theorem aa.an(σ:aa)(b:Nat)(x:ji):(σ.set b x) b=some x:=by simp[aa.set]
theorem aa.aj(σ:aa){b c:Nat}(x:ji)(h:c≠b):(σ.set b x) c=σ c:=by simp[aa.set,h]
@[simp] theorem aa.set_set(σ:aa)(b:Nat)(x y:ji):(σ.set b x).set b y=σ.set b y:=by funext c;by_cases e:c=b<;>simp[aa.set,e]
section
variable{P:Program}(L:jg P)(m:Mo)(fid n f:Nat)(ro:Option Nat)(mu:List Nat)(hold:List Entry)
def stepW(ops:Array Oper)(is:List Nat)(k:List Item)(dst:Option Tmp)(s:St)(K:Exit->St->Prop)(x:Out):Prop:=oI x (λa b=>aZ L m fid n ro mu hold f (.inRegion ops is::k) {s with env:=aV s.env dst a,σ:=b} K) (λa b=>K (.panic a) {s with σ:=b})
def Ns(ops:Array Oper)(is:List Nat)(k:List Item)(dst:Option Tmp)(s:St)(K:Exit->St->Prop)(σ:aa)(x:Option AV):Prop:=stepW L m fid n f ro mu hold ops is k dst s K (.opt x σ)
def cZ(ops:Array Oper)(is:List Nat)(k:List Item)(dst:Option Tmp)(s:St)(K:Exit->St->Prop)(σ:aa)(c:List AV):Prop:=stepW L m fid n f ro mu hold ops is k dst s K (.new σ c)
def sK(ops:Array Oper)(i:Nat)(is:List Nat)(k:List Item)(o:Oper)(s:St)(K:Exit->St->Prop)(x:Option Bool):Prop:=
 Jm x (if mY L o=true then oI (xJ L mu o s.env s.σ) (λa b=>aZ L m fid n ro mu hold f (.inRegion ops is::k) {s with env:=aV s.env o.dst a,σ:=b} K) (λa b=>K (.panic a) {s with σ:=b})
        else if rC o.op=true then Jn (P:=P) m o s.env s.σ (λa b=>ab P m fid n ro hold (.inRegion ops is::k) {s with env:=aV s.env o.dst a,σ:=b} K) (λa b=>∀env,K (.panic a) {s with env,σ:=b})
        else ab P m fid n ro hold (.inRegion ops (i::is)::k) s K) (aZ L m fid n ro mu hold f (.inRegion ops is::k) {s with env:=aV s.env o.dst (.lit (.tuple #[]))} K)
def aB(a b:Code)(k:List Item)(s:St)(K:Exit->St->Prop)(x:Bool):Prop:=rA x (aZ L m fid n ro mu hold f (.code a::k) s K) (aZ L m fid n ro mu hold f (.code b::k) s K)
def Nt(P:Program)(m:Mo)(fid n:Nat)(ro:Option Nat)(hold:List Entry)(k:List Item)(s:St)(K:Exit->St->Prop):Env->aa->Prop:=λenv σ=>ab P m fid n ro hold k {s with env,σ} K
def Nu(s:St)(K:Exit->St->Prop):AV->aa->Prop:=λv σ=>∀env,K (.panic v) {s with env,σ}
variable{L m fid n f ro mu hold}{s:St}{K:Exit->St->Prop}{k:List Item}{ops:Array Oper}{i:Nat}{is:List Nat}{dst:Option Tmp}{σ:aa}
@[simp] theorem Nv{env:Env}:Nt P m fid n ro hold k s K env σ=ab P m fid n ro hold k {s with env,σ} K:=propext Iff.rfl
@[simp] theorem Nw{v:AV}:Nu s K v σ=∀env,K (.panic v) {s with env,σ}:=propext Iff.rfl
@[simp] theorem Nx{a:AV}:stepW L m fid n f ro mu hold ops is k dst s K (.ok a σ)=aZ L m fid n ro mu hold f (.inRegion ops is::k) {s with env:=aV s.env dst a,σ:=σ} K:=propext Iff.rfl
@[simp] theorem Lv{p:Prop}{x:Out}:stepW L m fid n f ro mu hold ops is k dst s K (.fq p x)=(p/\stepW L m fid n f ro mu hold ops is k dst s K x):=propext Iff.rfl
@[simp] theorem ME{c:List AV}:stepW L m fid n f ro mu hold ops is k dst s K (.new σ c)=cZ L m fid n f ro mu hold ops is k dst s K σ c:=propext Iff.rfl
@[simp] theorem MF{x:Option AV}:stepW L m fid n f ro mu hold ops is k dst s K (.opt x σ)=Ns L m fid n f ro mu hold ops is k dst s K σ x:=propext Iff.rfl
@[simp] theorem MG{a:AV}:Ns L m fid n f ro mu hold ops is k dst s K σ (some a)=aZ L m fid n ro mu hold f (.inRegion ops is::k) {s with env:=aV s.env dst a,σ:=σ} K:=propext Iff.rfl
theorem cZ.intro{c:List AV}(h:∀b,σ b=none->aZ L m fid n ro mu hold f (.inRegion ops is::k) {s with env:=aV s.env dst (.ref b 0),σ:=σ.set b (.cells c)} K):cZ L m fid n f ro mu hold ops is k dst s K σ c:=h
@[simp] theorem Ny{o:Oper}:sK L m fid n f ro mu hold ops i is k o s K (some true)=(if mY L o=true then stepW L m fid n f ro mu hold ops is k o.dst s K (xJ L mu o s.env s.σ)
   else if rC o.op=true then Jn (P:=P) m o s.env s.σ (λa σ'=>ab P m fid n ro hold (.inRegion ops is::k) {s with env:=aV s.env o.dst a,σ:=σ'} K) (λa σ'=>∀env,K (.panic a) {s with env,σ:=σ'})
   else ab P m fid n ro hold (.inRegion ops (i::is)::k) s K):=by unfold sK;rw[lw,l8];rfl
@[simp] theorem MH{o:Oper}:sK L m fid n f ro mu hold ops i is k o s K (some false)=aZ L m fid n ro mu hold f (.inRegion ops is::k) {s with env:=aV s.env o.dst (.lit (.tuple #[]))} K:=by unfold sK;rw[lw,ku]
theorem sK.intro{o:Oper}{x:Bool}(a:x=true->sK L m fid n f ro mu hold ops i is k o s K (some true))(b:x=false->sK L m fid n f ro mu hold ops i is k o s K (some false)):sK L m fid n f ro mu hold ops i is k o s K (some x):=by cases x with|true=>exact a rfl|false=>exact b rfl
@[simp] theorem Lw{a b:Code}:aB L m fid n f ro mu hold a b k s K true=aZ L m fid n ro mu hold f (.code a::k) s K:=by unfold aB;rw[l8]
@[simp] theorem KU{a b:Code}:aB L m fid n f ro mu hold a b k s K false=aZ L m fid n ro mu hold f (.code b::k) s K:=by unfold aB;rw[ku]
@[simp] theorem MI{a b:Code}{x:Bool}:aB L m fid n f ro mu hold a b k s K (!x)=aB L m fid n f ro mu hold b a k s K x:=by cases x<;>simp
theorem aB.intro{a b:Code}{x:Bool}(c:x=true->aZ L m fid n ro mu hold f (.code a::k) s K)(d:x=false->aZ L m fid n ro mu hold f (.code b::k) s K):aB L m fid n f ro mu hold a b k s K x:=⟨c,d⟩
@[simp] theorem Nz :aZ L m fid n ro mu hold (f+1) ([]) s K=K (.leave none) s:=propext Iff.rfl
@[simp] theorem NA :aZ L m fid n ro mu hold (f+1) (.code .ret::k) s K=K (.leave (some .ret)) s:=propext Iff.rfl
@[simp] theorem MJ :aZ L m fid n ro mu hold (f+1) (.code .skip::k) s K=aZ L m fid n ro mu hold f k s K:=propext Iff.rfl
@[simp] theorem Lx{l:Nat}:aZ L m fid n ro mu hold (f+1) (.code (.label l)::k) s K=aZ L m fid n ro mu hold f k s K:=propext Iff.rfl
@[simp] theorem Jp{id:Nat}:aZ L m fid n ro mu hold (f+1) (.inBlock id::k) s K=aZ L m fid n ro mu hold f k s K:=propext Iff.rfl
@[simp] theorem NB{a b:Code}:aZ L m fid n ro mu hold (f+1) (.code (.seq a b)::k) s K=aZ L m fid n ro mu hold f (.code a::.code b::k) s K:=propext Iff.rfl
@[simp] theorem Ly{id:Nat}{c:Code}:aZ L m fid n ro mu hold (f+1) (.code (.block id c)::k) s K=aZ L m fid n ro mu hold f (.code c::.inBlock id::k) s K:=propext Iff.rfl
@[simp] theorem Lz{c:Code}:aZ L m fid n ro mu hold (f+1) (.code (.scope c)::k) s K=aZ L m fid n ro mu hold f (.code c::.inScope c::k) s K:=propext Iff.rfl
@[simp] theorem MK{id:Nat}:aZ L m fid n ro mu hold (f+1) (.code (.exit id)::k) s K=(match exitTo id k with
   |some k'=>aZ L m fid n ro mu hold f k' s K
   |none=>K (.leave (some (.exit id))) s):=propext Iff.rfl
@[simp] theorem ML{c:Operand}{a b:Code}:aZ L m fid n ro mu hold (f+1) (.code (.cond c a b)::k) s K=(Operand.ok n c=true/\(match am s.env c with
   |.lit (.bool x)=>aB L m fid n f ro mu hold a b k s K x
   |_=>False)):=propext Iff.rfl
@[simp] theorem KV{id:Nat}:aZ L m fid n ro mu hold (f+1) (.code (.region id ops false)::k) s K=aZ L m fid n ro mu hold f (.inRegion ops (List.range ops.size)::k) s K:=propext Iff.rfl
@[simp] theorem MM{id:Nat}:aZ L m fid n ro mu hold (f+1) (.code (.region id ops true)::k) s K=(match hold.find? λe=>e.id==id with
   |some ⟨_,p⟩=>fE L m mu ops n (Nu s K) p s.env s.σ (Nt P m fid n ro hold k s K)
   |none=>ab P m fid n ro hold (.code (.region id ops true)::k) s K):=propext Iff.rfl
@[simp] theorem F7 :aZ L m fid n ro mu hold (f+1) (.inRegion ops []::k) s K=aZ L m fid n ro mu hold f k s K:=propext Iff.rfl
@[simp] theorem Ja :aZ L m fid n ro mu hold (f+1) (.inRegion ops (i::is)::k) s K=(match ops[i]? with
   |some o=>Oper.ok n o=true/\sK L m fid n f ro mu hold ops i is k o s K (tH ops n s.env o)
   |none=>ab P m fid n ro hold (.inRegion ops (i::is)::k) s K):=propext Iff.rfl
@[simp] theorem MN{c:Code}:aZ L m fid n ro mu hold (f+1) (.code (.loop c)::k) s K=ab P m fid n ro hold (.code (.loop c)::k) s K:=propext Iff.rfl
@[simp] theorem KW{c:Code}:aZ L m fid n ro mu hold (f+1) (.inLoop c::k) s K=ab P m fid n ro hold (.inLoop c::k) s K:=propext Iff.rfl
@[simp] theorem F8{x:Operand}{a:Array Tmp}{c d:Code}:aZ L m fid n ro mu hold (f+1) (.code (.rangeFunc x a c d)::k) s K=ab P m fid n ro hold (.code (.rangeFunc x a c d)::k) s K:=propext Iff.rfl
@[simp] theorem FI :aZ L m fid n ro mu hold (f+1) (.beginRound::k) s K=ab P m fid n ro hold (.beginRound::k) s K:=propext Iff.rfl
end
section
variable{P:Program}(L:jg P)(m:Mo)(n:Nat)(mu:List Nat)(ops:Array Oper)(Kp:AV->aa->Prop)(R:Env->aa->Prop)
def tK(lt:Bool)(σ:aa)(p:jl)(S:List Nat)(env:Env):Prop:=Bc L mu ops n lt σ (λa=>fE L m mu ops n Kp p a σ R) .mk S env
def yW(lt:Bool)(σ:aa)(p:jl)(S:List Nat)(dst:Option Tmp)(env:Env)(x:Option AV):Prop:=vz x λa=>tK L m n mu ops Kp R lt σ p S (aV env dst a)
def F9(lt:Bool)(σ:aa)(p:jl)(S:List Nat)(o:Oper)(env:Env)(x:Option Bool):Prop:=Jm x (yW L m n mu ops Kp R lt σ p S o.dst env (Bb L mu lt o env σ)) (tK L m n mu ops Kp R lt σ p S (aV env o.dst (.lit (.tuple #[]))))
def rD(p:jl)(dst:Option Tmp)(env:Env)(x:Out):Prop:=oI x (λa b=>fE L m mu ops n Kp p (aV env dst a) b R) Kp
def NC(p:jl)(dst:Option Tmp)(env:Env)(σ:aa)(x:Option AV):Prop:=rD L m n mu ops Kp R p dst env (.opt x σ)
def pD(p:jl)(dst:Option Tmp)(env:Env)(σ:aa)(c:List AV):Prop:=rD L m n mu ops Kp R p dst env (.new σ c)
def MO(i:Nat)(p:jl)(o:Oper)(env:Env)(σ:aa)(x:Option Bool):Prop:=
 Jm x (if mY L o=true then oI (xJ L mu o env σ) (λa b=>fE L m mu ops n Kp p (aV env o.dst a) b R) Kp else
    if rC o.op=true then Jn (P:=P) m o env σ (λa b=>aN P m ops n Kp p (aV env o.dst a) b R) Kp else gX P m ops n Kp i env σ (λenv σ=>aN P m ops n Kp p env σ R)) (fE L m mu ops n Kp p (aV env o.dst (.lit (.tuple #[]))) σ R)
variable{L m n mu ops Kp R}{i:Nat}{lt:Bool}{env:Env}{σ:aa}{p q:jl}{S:List Nat}{dst:Option Tmp}
@[simp] theorem MP:fE L m mu ops n Kp .done env σ R=R env σ:=propext Iff.rfl
@[simp] theorem MQ:fE L m mu ops n Kp (.take S lt p) env σ R=tK L m n mu ops Kp R lt σ p S env:=propext Iff.rfl
@[simp] theorem ND:fE L m mu ops n Kp (.one i p) env σ R=(match ops[i]? with|some o=>Oper.ok n o=true/\MO L m n mu ops Kp R i p o env σ (tH ops n env o)|none=>False):=propext Iff.rfl
@[simp] theorem MR:fE L m mu ops n Kp (.both i p q) env σ R=((match ops[i]? with|some o=>Oper.ok n o=true/\MO L m n mu ops Kp R i p o env σ (tH ops n env o)|none=>False)/\fE L m mu ops n Kp q env σ R):=propext Iff.rfl
@[simp] theorem MT:tK L m n mu ops Kp R lt σ p [] env=fE L m mu ops n Kp p env σ R:=propext Iff.rfl
@[simp] theorem LA:tK L m n mu ops Kp R lt σ p (i::S) env=(match ops[i]? with|some o=>(Oper.ok n o && o.dst.isSome)=true/\F9 L m n mu ops Kp R lt σ p S o env (tH ops n env o)|none=>False):=propext Iff.rfl
@[simp] theorem MU{a:AV}:yW L m n mu ops Kp R lt σ p S dst env (some a)=tK L m n mu ops Kp R lt σ p S (aV env dst a):=by unfold yW;rw[DA]
@[simp] theorem MV:yW L m n mu ops Kp R lt σ p S dst env none=False:=by unfold yW;rw[DB]
@[simp] theorem Pg{c:Prop}[Decidable c]{x:Option AV}:yW L m n mu ops Kp R lt σ p S dst env (if c then x else none)=(c/\yW L m n mu ops Kp R lt σ p S dst env x):=by by_cases h:c<;>simp[h]
@[simp] theorem NE{o:Oper}:F9 L m n mu ops Kp R lt σ p S o env (some true)=yW L m n mu ops Kp R lt σ p S o.dst env (Bb L mu lt o env σ):=by unfold F9;rw[lw,l8]
@[simp] theorem MX{o:Oper}:F9 L m n mu ops Kp R lt σ p S o env (some false)=tK L m n mu ops Kp R lt σ p S (aV env o.dst (.lit (.tuple #[]))):=by unfold F9;rw[lw,ku]
theorem F9.intro{o:Oper}{x:Bool}(a:x=true->F9 L m n mu ops Kp R lt σ p S o env (some true))(b:x=false->F9 L m n mu ops Kp R lt σ p S o env (some false)):F9 L m n mu ops Kp R lt σ p S o env (some x):=by cases x with|true=>exact a rfl|false=>exact b rfl
@[simp] theorem NF{a:AV}:rD L m n mu ops Kp R p dst env (.ok a σ)=fE L m mu ops n Kp p (aV env dst a) σ R:=propext Iff.rfl
@[simp] theorem LB{c:Prop}{x:Out}:rD L m n mu ops Kp R p dst env (.fq c x)=(c/\rD L m n mu ops Kp R p dst env x):=propext Iff.rfl
@[simp] theorem MY{c:List AV}:rD L m n mu ops Kp R p dst env (.new σ c)=pD L m n mu ops Kp R p dst env σ c:=propext Iff.rfl
@[simp] theorem MZ{x:Option AV}:rD L m n mu ops Kp R p dst env (.opt x σ)=NC L m n mu ops Kp R p dst env σ x:=propext Iff.rfl
@[simp] theorem M0{a:AV}:NC L m n mu ops Kp R p dst env σ (some a)=fE L m mu ops n Kp p (aV env dst a) σ R:=propext Iff.rfl
theorem pD.intro{c:List AV}(h:∀b,σ b=none->fE L m mu ops n Kp p (aV env dst (.ref b 0)) (σ.set b (.cells c)) R):pD L m n mu ops Kp R p dst env σ c:=h
@[simp] theorem NG{o:Oper}:MO L m n mu ops Kp R i p o env σ (some true)=(if mY L o=true then rD L m n mu ops Kp R p o.dst env (xJ L mu o env σ)else
   if rC o.op=true then Jn (P:=P) m o env σ (λa σ'=>aN P m ops n Kp p (aV env o.dst a) σ' R) Kp else gX P m ops n Kp i env σ (λenv σ=>aN P m ops n Kp p env σ R)):=by unfold MO;rw[lw,l8];rfl
@[simp] theorem M3{o:Oper}:MO L m n mu ops Kp R i p o env σ (some false)=fE L m mu ops n Kp p (aV env o.dst (.lit (.tuple #[]))) σ R:=by unfold MO;rw[lw,ku]
end
@[simp] theorem LC{l c:List AV}(h:c.length=l.length):aJ l 0 c=c:=by unfold aJ;simp[h]
@[simp high] theorem tL{l:List AV}{off:Nat}{v:AV}(h:off<l.length):aJ l off [v]=l.set off v:=by unfold aJ;rw[List.set_eq_take_append_cons_drop,if_pos h];simp
attribute [simp] Bb sA lq tB xJ mY tH rC Jn Jl Ba Function.comp_def
def tN(P:Program)(t:TypeId)(name:String)(f:FuncId)(a a':AV):Prop:=∀k O v (K:FuncId × Value->ag->ah->Prop) Kp,V k v a->(∀r,V k r a'->K (f,r) k O)->dM P (method (P.types.size+Made.depth) t v name) k O K Kp
section
variable{P:Program}{m:Mo}{fid n:Nat}{ro:Option Nat}{hold:List Entry}{s:St}{K:Exit->St->Prop}{k:List Item}
theorem vA{name:String}{recv:Value}{c a:Array Value}:Go.invoke (.fn (.method name) c) (#[recv]++a)=callMethod recv name a:=by
 have b:(#[recv]++a)[0]?=some recv:=by rw[Array.getElem?_append_left (by simp)];rfl
 have d:(#[recv]++a).extract 1 (#[recv]++a).size=a:=by apply Array.ext';rw[Array.toList_extract];simp[List.extract];rw[<-Array.length_toList,List.take_length]
 simp only[Go.invoke,b,d]
theorem ab.invoke{ops:Array Oper}{i:Nat}{is:List Nat}{o:Oper}{recv:Operand}{name:String}{args:Array Operand}{E:Array TypeId}{t f:Nat}{a a':AV}{fn:Func}(R:ops[i]?=some o)(l:o.op=.call ⟨.invoke recv name,args,E⟩)(W:o.guard=none)(z:Oper.ok n o=true)
 (X:am s.env recv=.mS t a) (Y:tN P t name f a a') (Z:P.funcs[f]?=some fn) (hb:fn.body.isSome=true) (F:(fn.name==  "runtime.NumGoroutine")=false)
 (h:ar P m f (a'::args.toList.map (am s.env)) s.σ (λr σ'=>match r with|.val x=>ab P m fid n ro hold (.inRegion ops is::k) {s with env:=aV s.env o.dst x,σ:=σ'} K|.panic v=>K (.panic v) {s with σ:=σ'})):
 ab P m fid n ro hold (.inRegion ops (i::is)::k) s K:=λH Q kk O tmps defs kind cs h1 g S=>by
 have hw:bK ops n s.env o:=by unfold bK;rw[W];trivial
 refine T.nC (λw=>dw R (gk g.size g.env hw) (.inr λc e=>by rw[l]at e;cases e) w) (dZ ?_)
 have p:∀x∈o.op.operands,V kk (Frame.eval ⟨fid,tmps,.inRegion ops (i::is)::k,defs,.run,kind,ro⟩ x) (am s.env x):=λx B=>by refine V.eval g.env g.size x ?_;simp only[Oper.ok,Bool.and_eq_true,Array.all_eq_true_iff_forall_mem]at z;exact z.1 x B
 have A:=p recv (by simp[l,Op.operands,Call.operands])
 rw[X]at A;have d:=Vs.ofArray (k:=kk) (ρ:=Frame.eval ⟨fid,tmps,.inRegion ops (i::is)::k,defs,.run,kind,ro⟩) (env:=s.env) (xs:=args) (λx B=>p x (by simp[l,Op.operands,Call.operands,B]))
 generalize hq:Frame.eval _ recv=cf at A;cases A with
 | mS _ v _ I=>
   simp only[execOp,l,resolve,hq];refine af (ai ?_);rw[vA];unfold callMethod;simp only;refine af (bI ?_);refine af (Y kk O v _ _ I λr J=>?_)
   simp only[callFunc];refine af (bI ?_);rw[Z];have L:fn.body.isNone=false:=by cases B:fn.body<;>simp_all
   simp only[F,L,Bool.false_eq_true,if_false];refine ai λ_=>⟨by simp,?_⟩
   have e:#[r]++args.map (Frame.eval ⟨fid,tmps,.inRegion ops (i::is)::k,defs,.run,kind,ro⟩)=(r::(args.map (Frame.eval ⟨fid,tmps,.inRegion ops (i::is)::k,defs,.run,kind,ro⟩)).toList).toArray:=by simp
   rw[e];refine h Q kk O _ ⟨fid,tmps,.inRegion ops (i::is)::k,defs,.run,kind,ro⟩ (eX s.rc cs) .normal (by simp) (.cons J ⟨by simpa using d.1,λj v a A ha=>d.2 j v a (by simpa using A) ha⟩) g.rel ?_ ?_
   . intro C D M U σ' b q u N
     obtain⟨y,e1,e2⟩:=g.put (fid:=fid) (ro:=ro) (rest:=is) (kk:=k) b R q u;show T P m Q C D (G (Frame.finish ⟨fid,tmps,.inRegion ops (i::is)::k,defs,.run,kind,ro⟩ M) (eX s.rc cs));rw[e1];exact N (by simpa[jP,lf]using H) Q C D y defs kind cs h1 e2 (S.mono b)
   . intro C D M U σ' b q u N
     exact S.panic C D tmps defs {s with σ:=σ'} _ M U b ⟨g.size,g.env.mono b,u,g.ds.mono b,g.rc.mono b⟩ q N
theorem dT{ops:Array Oper}{env:Env}{o:Oper}(a:o.guard=none):bK ops n env o:=by unfold bK;rw[a];trivial
theorem ab.defer{ops:Array Oper}{i:Nat}{is:List Nat}{o:Oper}{fo:Operand}{args:Array Operand}{a:Array TypeId}{f:Fn}{first cap:List AV}(b:ro=none)(j:ops[i]?=some o)(c:o.op=.defer ⟨.value fo,args,a⟩)(l:o.guard=none)(d:Oper.ok n o=true)
 (e:am s.env fo=.fn f first cap) (h:ab P m fid n ro hold (.inRegion ops is::k) {s with env:=aV s.env o.dst .bz,D:=.call f cap (first++args.toList.map (am s.env))::s.D} K):ab P m fid n ro hold (.inRegion ops (i::is)::k) s K:=
 λg=>Go.defer b j c (dT l) d e (h (by simpa[jP,lf]using g))
end
def CB(F a:Nat->Prop)(σ σ':aa):Prop:=∀b x,¬F b->σ b=some x->σ' b=some x/\¬a b
def cH:AV->Option Nat
 |.sl _ _ (.tok b _)=>some b
 |_=>none
def aa.off(σ:aa)(a:AV):aa:=match cH a with|some b=>σ.del b|none=>σ
theorem Tok.here{σ0 σ:aa}{a:AV}{kk:Nat}{es:List AV}(h:Tok σ0 σ a kk es):Tok (σ.off a) σ a kk es/\σ0.Le (σ.off a):=by
 obtain⟨f,g⟩:=h;rcases g with⟨rfl,rfl⟩|rfl|⟨b,e,i,rfl,j⟩
 . exact⟨⟨aa.le_refl _,.inl ⟨rfl,rfl⟩⟩,f⟩
 . exact⟨⟨aa.le_refl _,.inr (.inl rfl)⟩,f⟩
 . refine⟨⟨λc x d=>?_,.inr (.inr ⟨b,e,by simp[aa.off,cH,aa.del],rfl,j⟩)⟩,λc x d=>?_⟩
   . simp only[aa.off,cH,aa.del]at d
     split at d
     . cases d
     . exact d
   . have k:c≠b:=λe=>by subst e;rw[i]at d;cases d
     simp only[aa.off,cH,aa.del,k,if_false];exact f c x d
theorem Tok.base{σ0 c σ:aa}{a:AV}{kk:Nat}{es:List AV}(h:Tok c σ a kk es)(d:σ0.Le c):Tok σ0 σ a kk es:=by
 obtain⟨f,g⟩:=h;refine⟨aa.le_trans d f,?_⟩;rcases g with h|h|⟨b,e,i,j,k⟩
 . exact .inl h
 . exact .inr (.inl h)
 . refine .inr (.inr ⟨b,e,?_,j,k⟩)
   cases hb:σ0 b with
   |none=>rfl
   |some x=>have:=d b x hb;rw[i]at this;cases this
theorem Tok.beside{σ0 σ:aa}{a:AV}{kk:Nat}{es:List AV}(h:Tok σ0 σ a kk es){b:Nat}{x:ji}(hb:σ0 b=none)(ht:cH a≠some b):Tok σ0 (σ.set b x) a kk es:=by
 obtain⟨d,f⟩:=h;refine⟨aa.iz d hb,?_⟩;rcases f with h|h|⟨c,e,g,rfl,i⟩
 . exact .inl h
 . exact .inr (.inl h)
 . refine .inr (.inr ⟨c,e,g,rfl,?_⟩)
   have j:c≠b:=λe=>ht (by simp[cH,e])
   rw[aa.aj _ _ j];exact i
theorem Tok.be{σ0 σ:aa}{a:AV}{kk:Nat}{es:List AV}(h:Tok σ0 σ a kk es){b:Nat}(hb:cH a=some b):σ0 b=none/\∃e,σ b=some (.tail e):=by
 obtain⟨i,d⟩:=h;rcases d with⟨rfl,rfl⟩|rfl|⟨c,e,f,rfl,g⟩
 . cases hb
 . cases hb
 . simp only[cH,Option.some.injEq]at hb
   subst hb;exact⟨f,e,g⟩
theorem Tok.cells{σ0 σ:aa}{a:AV}{kk:Nat}{es:List AV}(h:Tok σ0 σ a kk es):a.cells=[a]/\a.flat=true:=by
 obtain⟨_,b⟩:=h;rcases b with⟨rfl,rfl⟩|rfl|⟨c,e,d,rfl,f⟩<;>exact⟨rfl,rfl⟩
theorem aa.iA{σ:aa}{a:AV}{b:Nat}(h:cH a≠some b):σ.off a b=σ b:=by
 unfold aa.off;cases d:cH a with
 |none=>rfl
 | some c=>
   have:b≠c:=λe=>h (by rw[d,e])
   simp[aa.del,this]
def dF:AV->Option Nat
 |.eu b _ _ _=>some b
 |_=>none
def aa.xL(σ:aa)(a:AV):aa:=match dF a with|some b=>σ.del b|none=>σ
theorem aa.nJ{σ:aa}{a:AV}{b:Nat}(h:dF a≠some b):σ.xL a b=σ b:=by
 unfold aa.xL;cases d:dF a with
 |none=>rfl
 | some c=>
   have:b≠c:=λe=>h (by rw[d,e])
   simp[aa.del,this]
theorem aa.Jq{σ:aa}{a:AV}:(σ.xL a).Le σ:=λb x h=>by
 unfold aa.xL at h;cases d:dF a with
 |none=>rw[d]at h;exact h
 | some c=>
   rw[d]at h;simp only[aa.del]at h;split at h
   . cases h
   . exact h
theorem bn.cells{σ0 σ:aa}{a:AV}{kk:Nat}{es:List AV}(h:bn σ0 σ a kk es):a.cells=[a]/\a.flat=true:=by
 obtain⟨_,b⟩:=h;rcases b with⟨_,rfl|rfl⟩|⟨c,cap,rest,rfl,_⟩<;>exact⟨rfl,rfl⟩
theorem bn.jR{σ0 σ:aa}{a:AV}{kk:Nat}{es:List AV}(h:bn σ0 σ a kk es){b:Nat}(hb:dF a=some b):σ0 b=none/\∃l,σ b=some (.cells l):=by
 obtain⟨g,d⟩:=h;rcases d with⟨_,rfl|rfl⟩|⟨c,cap,rest,rfl,e,_,_,f,_⟩
 . cases hb
 . cases hb
 . simp only[dF,Option.some.injEq]at hb
   subst hb;exact⟨e,_,f⟩
theorem bn.here{σ0 σ:aa}{a:AV}{kk:Nat}{es:List AV}(h:bn σ0 σ a kk es):bn (σ.xL a) σ a kk es/\σ0.Le (σ.xL a):=by
 obtain⟨d,e⟩:=h;refine⟨⟨aa.Jq,?_⟩,λc x f=>?_⟩
 . rcases e with h|⟨b,cap,rest,rfl,m,i,j,k,l⟩
   . exact .inl h
   . exact .inr ⟨b,cap,rest,rfl,by simp[aa.xL,dF,aa.del],i,j,k,l⟩
 . by_cases g:dF a=some c
   . have:=(bn.jR ⟨d,e⟩ g).1
     rw[f]at this;cases this
   . rw[aa.nJ g];exact d c x f
theorem bn.base{σ0 c σ:aa}{a:AV}{kk:Nat}{es:List AV}(h:bn c σ a kk es)(d:σ0.Le c):bn σ0 σ a kk es:=by
 obtain⟨e,f⟩:=h;refine⟨aa.le_trans d e,?_⟩;rcases f with h|⟨b,cap,rest,rfl,g,i,j,k,l⟩
 . exact .inl h
 . refine .inr ⟨b,cap,rest,rfl,?_,i,j,k,l⟩
   cases hb:σ0 b with
   |none=>rfl
   |some x=>have:=d b x hb;rw[g]at this;cases this
theorem bn.keep{σ0 σ d σ':aa}{a:AV}{kk:Nat}{es:List AV}(h:bn σ0 σ a kk es)(e:d.Le σ')(hb:∀b,dF a=some b->σ' b=σ b/\d b=none):bn d σ' a kk es:=by
 obtain⟨l,f⟩:=h;refine⟨e,?_⟩;rcases f with h|⟨c,cap,rest,rfl,m,g,i,j,k⟩
 . exact .inl h
 . exact .inr ⟨c,cap,rest,rfl,(hb c rfl).2,g,i,by rw[(hb c rfl).1];exact j,k⟩
theorem bn.len{σ0 σ:aa}{a:AV}{kk:Nat}{es:List AV}(h:bn σ0 σ a kk es):(a=.nil/\es=[])\/(∃sp,a=.sl kk es sp)\/∃b cap,a=.eu b 0 es.length cap:=by
 rcases h.2 with⟨rfl,rfl|rfl⟩|⟨c,cap,rest,rfl,_⟩
 . exact .inl ⟨rfl,rfl⟩
 . exact .inr (.inl ⟨_,rfl⟩)
 . exact .inr (.inr ⟨c,cap,rfl⟩)
inductive Wl:List AV->List AV->Prop
 |nil:Wl [] []
 |cons {a a':AV}{l l':List AV}:a.W a'->Wl l l'->Wl (a::l) (a'::l')
theorem Wl.len{l a:List AV}(h:Wl l a):l.length=a.length:=by
 induction h with
 |nil=>rfl
 |cons _ _ b=>simp[b]
theorem Wl.at{l c:List AV}(h:Wl l c):∀{i:Nat}{a':AV},c[i]?=some a'->∃a,l[i]?=some a/\a.W a':=by
 induction h with
 |nil=>intro i a' h;simp at h
 | @cons a b l c d f e=>
   intro i a' h;cases i with
   |zero=>simp at h;subst h;exact⟨a,by simp,d⟩
   |succ i=>simpa using e (by simpa using h)
theorem Vs.CC{k:ag}{c:List Value}{l e:List AV}(h:Vs k c l)(f:Wl l e):Vs k c e:=⟨by rw[h.1,f.len],λi v a g ha=>by obtain⟨b,hb,d⟩:=f.at ha;exact d k v (h.2 i v b g hb)⟩
theorem ar.CC{P:Program}{m:Mo}{f:FuncId}{args args':List AV}{σ:aa}{b:eI->aa->Prop}(h:ar P m f args' σ b)(d:Wl args args'):ar P m f args σ b:=λQ k O a c rest kind e g i j l=>h Q k O a c rest kind e (g.CC d) i j l
theorem bi{P:Program}{m:Mo}{f:FuncId}{fn:Func}{args args':List AV}{σ:aa}{b:eI->aa->Prop}(c:P.funcs[f]?=some fn)(hb:fn.body.isSome=true)(a:(fn.name==  "runtime.NumGoroutine")=false)(d:Wl args args')(h:ar P m f args' σ b):
 dl P m (.fn (.func f) [] []) args σ b:=ao c hb a (h.CC d)
def ag.Ga(k:ag)(r:Nat)(c:Array Value)(f:Nat->Option Value):ag:={k with cell:=λb j=>if b=r/\f j=none then c[j]? else k.cell b j}
theorem Be{k:ag}{O:ah}{r:Nat}{c:Array Value}{e:TypeId}{f:Nat->Option Value}(s:O r=some (.obj (.cells c e (0,0))))(D:k.sh r=some (e,c.size))(E:∀i v,f i=some v->c[i]?=some v):jM k O (k.Ga r c f) (O.set r (.part f)):=λw h=>by
 have z:=h.obj _ _ s
 have t:∀j,k.cell r j=none:=λj=>by
  cases q:k.cell r j with
  |none=>rfl
  |some v=>exact(h.apart _ _ _ q (.inl ⟨_,s⟩)).elim
 have u:k.Le (k.Ga r c f):=⟨λb i v n=>by
  have:¬(b=r/\f i=none):=λx=>by rw[x.1,t]at n;cases n
  simpa[ag.Ga,this]using n,λ_ _ h=>h⟩
 have l:∀b,b≠r->(O.set r (.part f)) b=O b:=λb hb=>by simp[ah.set,hb]
 have a:(O.set r (.part f)) r=some (.part f):=by simp[ah.set]
 refine⟨⟨λb i v n A=>?_,λb i v n=>?_,h.sh,λb o hb=>?_,λb m hb=>?_,λb g hb=>?_⟩,⟨u,Nat.le_refl _,λ_ _ _=>rfl,λ_ _ _ _ c _ h=>⟨c,h,rfl,λ_ _=>rfl⟩,λ_ _ _ _ c _ h=>⟨c,h,rfl,λ_ _=>rfl⟩,λ_ _=>rfl,λb x B=>?_,λb i v n=>?_,λ_ _ h=>.inl h,by simp,rfl,rfl,rfl,by simp,λb g hb=>?_⟩⟩
 . by_cases hb:b=r
   . subst hb
     rcases A with⟨o,p⟩|⟨m,p,C⟩|⟨g,p,C⟩
     . rw[a]at p;cases p
     . rw[a]at p;cases p
     . rw[a]at p;cases p
       simp only[ag.Ga,true_and]at n;rw[if_neg C,t]at n;cases n
   . have y:k.cell b i=some v:=by simpa[ag.Ga,hb]using n
     exact h.apart b i v y (by simpa[aK,ah.set,hb]using A)
 . by_cases hb:b=r/\f i=none
   . obtain⟨rfl,F⟩:=hb
     simp only[ag.Ga,F,and_self,if_true]at n;simp[World.cell?,z,n]
   . exact h.cell b i v (by simpa only[ag.Ga,hb,if_false]using n)
 . by_cases d:b=r
   . subst d;rw[a]at hb;cases hb
   . exact h.obj b o (by rw[l b d]at hb;exact hb)
 . by_cases d:b=r
   . subst d;rw[a]at hb;cases hb
   . exact h.tail b m (by rw[l b d]at hb;exact hb)
 . by_cases d:b=r
   . subst d;rw[a]at hb;cases hb
     exact⟨c,e,z,D,E⟩
   . exact h.part b g (by rw[l b d]at hb;exact hb)
 . by_cases d:b=r
   . subst d;exact .inl ⟨_,s,trivial⟩
   . rw[l b d]at B;exact .inl ⟨x,B,.refl x⟩
 . by_cases hb:b=r/\f i=none
   . obtain⟨rfl,_⟩:=hb;exact .inr (.inl (.inl ⟨_,s⟩))
   . exact .inl (by simpa only[ag.Ga,hb,if_false]using n)
 . have d:b≠r:=λq=>by rw[q,s]at hb;cases hb
   exact⟨g,by rw[l b d];exact hb⟩
section
variable{P:Program}{m:Mo}{Q:ag->ah->Goroutine->Prop}{k:ag}{O:ah}{g:Goroutine}{σ:aa}
theorem T.part{r:Nat}{c:Array Value}{e:TypeId}{f:Nat->Option Value}(d:O r=some (.obj (.cells c e (0,0))))(p:∀i v,f i=some v->c[i]?=some v)(b:g.status=.running)
 (h:∀k' O',k.Le k'->k'.sh r=some (e,c.size)->(∀j v,f j=none->c[j]?=some v->k'.cell r j=some v)->O'=O.set r (.part f)->T P m Q k' O' g):T P m Q k O g:=by
 by_cases a:∃w,Sat k O w
 . obtain⟨w,l⟩:=a
   have q:=(iR (k:=k) d w l).2.le;have o:=Be (k:=k.dv r (e,c.size)) (f:=f) d (by simp[ag.dv]) p;have n:(k.dv r (e,c.size)).Le ((k.dv r (e,c.size)).Ga r c f):=(o w (iR (k:=k) d w l).1).2.le;exact .ghost (iR d) (.ghost o (h _ _ (q.trans n) (by simp[ag.Ga,ag.dv]) (λj v s t=>by simp[ag.Ga,s,t]) rfl))
 . exact .step (λ_ _ _=>False) b (λ_ _ _ h=>h.elim) λw l=>absurd ⟨w,l⟩ a
theorem T.NH{b:Nat}{l:List AV}{hole:List Nat}{f:Nat->Option Value}(r:Rel k O σ)(hb:σ b=some (.cells l))(A:∀i v,f i=some v->l[i]?=some (.lit v))(B:∀i,f i=none↔i∉hole)(o:g.status=.running)
 (h:∀k' O',k.Le k'->(∀off,V k' (.pointer (some ⟨b,off,none⟩)) (.kp b l hole off))->Rel k' O' (σ.set b (.part f))->T P m Q k' O' g):T P m Q k O g:=by
 obtain⟨y,C,D⟩:=r.1 b _ hb (by simp)
 cases D with
 | cells c e _ s t E=>
   refine T.part (f:=f) C (λi v F=>?_) o λk' O' n p G q=>?_
   . have w:=A i v F
     have d:i<c.size:=by rw[s];exact(List.getElem?_eq_some_iff.1 w).1
     have x:=t i c[i] _ (by simp[d]) w
     have:c[i]=v:=by generalize c[i]=u at x;cases x;rfl
     simp[d,this]
   . refine h k' O' n (λoff=>.kp b off c.size e l hole (λj=>c.getD j undef) p (by omega) (λj H z=>?_) (λj a z ha=>?_)) ?_
     . have d:j<c.size:=by omega
       refine⟨?_,?_⟩
       . rw[G j c[j] ((B j).2 z) (by simp[d])]
         simp[Array.getD,d]
       . simp only[Array.getD,d,dif_pos]
         exact E j _ (by simp[d])
     . have d:j<c.size:=by rw[s];exact(List.getElem?_eq_some_iff.1 ha).1
       simp only[Array.getD,d,dif_pos];exact(t j _ a (by simp[d]) ha).mono n
     . rw[q]
       exact(r.mono n).set (.part f)
theorem ar.share{f:FuncId}{args:List AV}{p KF0:eI->aa->Prop}(h:ar P m f args σ KF0)
 (u:∀r σ',KF0 r σ'->p r σ'\/∃b l hole F,r=.val (.ref b 0)/\σ' b=some (.cells l)/\(∀i v,F i=some v->l[i]?=some (.lit v))/\(∀i,F i=none↔i∉hole)/\p (.val (.kp b l hole 0)) (σ'.set b (.part F))):ar P m f args σ p:=by
 intro Q k O d c rest kind x y z w A;refine h Q k O d c rest kind x y z (λB C D E σ' a n o g=>?_) (λB C D E σ' a n o g=>?_)
 . rcases u _ _ g with g|⟨b,l,hole,F,e,hb,G,H,q⟩
   . exact w _ _ _ _ _ a n o g
   . cases e
     cases n;exact T.NH o hb G H (by cases kind<;>rfl) λI J j s t=>w _ _ _ _ _ (a.trans j) (s 0) t q
 . rcases u _ _ g with g|⟨b,l,hole,F,e,_⟩
   . exact A _ _ _ _ _ a n o g
   . cases e
end
structure DC(P:Program)(mt kt et ft:Nat)(kd:IntKind):Prop where
 hm:P.underlying mt=some (.map kt et)
 hk:∃f,P.underlying kt=some (.struct #[f])/\(f.name≠ "_")/\f.type=ft/\f.offset=0
 hf:P.underlying ft=some (.int kd)
 hs:P.stoodInHeld kt=false
def tO(kd:IntKind)(n:Int):AV:=.agg [.lit (.int kd n)]
def mapA(kd:IntKind)(l:List (Int × AV)):ji:=.map (l.map λp=>(tO kd p.1,p.2))
section
variable{P:Program}(L:jg P){k:ag}{O:ah}{Kp:Value->ag->ah->Prop}{mt kt et ft:Nat}{kd:IntKind}
theorem eL{K:TypeDesc->ag->ah->Prop}{t:Nat}{d:TypeDesc}(a:P.underlying t=some d)(h:K d k O):dM P (underlying t) k O K Kp:=by unfold underlying;refine af (bI ?_);rw[a];exact h
theorem qE{K:Value->ag->ah->Prop}{i:TI}{v:Value}(ht:L.tt ft=some i)(ha:i.agg=false)(h:K v k O):dM P (part ft #[v] 0) k O K Kp:=by unfold part;refine af (nD L ht ?_);rw[ha];exact ai h
variable(M:DC P mt kt et ft kd){i:TI}(ht:L.tt ft=some i)(ha:i.agg=false)
include M ht ha
theorem oi{K:Unit->ag->ah->Prop}{b:Bool}{n:Int}(h:K () k O):dM P (Instr.checkKey b 10000 kt (.agg #[.int kd n])) k O K Kp:=by obtain⟨f,a,c,d,e⟩:=M.hk;show dM P (Instr.checkKey b (9998+1+1) kt (.agg #[.int kd n])) k O K Kp;rw[Instr.checkKey];refine af (eL a ?_);simp only[List.forIn_toArray,List.forIn_cons,List.forIn_nil];rw[if_pos c,d,e];refine af (af (af (qE L ht ha ?_)));rw[Instr.checkKey];refine af (af (eL M.hf ?_));exact ai (ai (ai (ai h)))
theorem Bf{K:Bool->ag->ah->Prop}{a b:Int}(h:K (a==b) k O):dM P (Op.equal kt (.agg #[.int kd a]) (.agg #[.int kd b])) k O K Kp:=by
 obtain⟨f,d,e,g,i⟩:=M.hk;show dM P (Op.equalIn (9998+1+1) kt (.agg #[.int kd a]) (.agg #[.int kd b])) k O K Kp;rw[Op.equalIn];refine af (eL d ?_);refine af (bI ?_);rw[M.hs];simp only[Bool.false_eq_true,if_false,List.forIn_toArray,List.forIn_cons,List.forIn_nil];rw[if_pos e,g,i];refine af (af (af (qE L ht ha ?_)));refine af (qE L ht ha ?_);refine af ?_;rw[Op.equalIn];refine af (eL M.hf ?_);simp only[if_true];refine ai ?_;cases c:(a==b)with
 |true=>rw[c]at h;exact ai (ai (ai h))
 |false=>rw[c]at h;exact ai (ai (ai h))
def gn(l:List (Int × AV))(n:Int):Option AV:=(l.find? λp=>n==p.1).map (·.2)
theorem mI{n:Int}{K:Option (Nat × Value)->ag->ah->Prop}:∀(es:List MapEntry) (l:List (Int × AV)) (j:Nat),es.length=l.length->(∀(j:Nat) e p,es[j]?=some e->l[j]?=some p->e.key=.agg #[.int kd p.1]/\V k e.val p.2) ->
 (∀a v j,gn l n=some a->V k v a->K (some (j,v)) k O)->(gn l n=none->K none k O)->dM P (Instr.findAsking kt (.agg #[.int kd n]) es j) k O K Kp
 |[],[],j,_,_,_,h=>by rw[Instr.findAsking];exact ai (h rfl)
 | e ::es,p::l,j,g,d,c,f=>by
   obtain⟨i,m⟩:=d 0 e p rfl rfl;rw[Instr.findAsking,i];refine af (Bf L M ht ha ?_);cases b:(n==p.1)with
   |true=>simp only[if_true];exact ai (c p.2 _ _ (by simp[gn,b]) m)
   | false=>
     simp only[Bool.false_eq_true,if_false];have o:gn (p::l) n=gn l n:=by simp[gn,b]
     rw[o]at c f;exact mI es l (j+1) (by simpa using g) (λj e p q b=>d (j+1) e p (by simpa using q) (by simpa using b)) c f
 |[],_::_,_,h,_,_,_=>by simp at h
 |_::_,[],_,h,_,_,_=>by simp at h
theorem pE{n:Int}{K:Option (Nat × Value)->ag->ah->Prop}{es:List MapEntry}{l:List (Int × AV)}(b:es.length=l.length)(d:∀(j:Nat) e p,es[j]?=some e->l[j]?=some p->e.key=.agg #[.int kd p.1]/\V k e.val p.2)
 (g:∀a v j,gn l n=some a->V k v a->K (some (j,v)) k O) (c:gn l n=none->K none k O):dM P (Instr.findKey kt (.agg #[.int kd n]) es) k O K Kp:=by
 obtain⟨f,h,i,m,o⟩:=M.hk;unfold Instr.findKey;refine af (eL h ?_);cases es with
 | nil=>
   cases l with
   |nil=>exact ai (c rfl)
   |cons p l=>simp at b
 | cons e es=>
   have:Instr.findNow (.struct #[f]) (.agg #[.int kd n]) (e::es) 0=none:=by simp[Instr.findNow,Instr.sameNow]
   rw[this];exact mI L M ht ha _ l 0 b d g c
omit M ht ha
theorem V.tO{k:ag}{v:Value}{kd:IntKind}{n:Int}(h:V k v (tO kd n)):v=.agg #[.int kd n]:=by
 cases h with
 | agg c l b d=>
   have b:c.size=1:=b
   have e:c=#[c[0]]:=by
    apply Array.ext
    . simp[b]
    . intro i f a
      have:i=0:=by simp at a;exact a
      subst this;rfl
   have:=d 0 c[0] (.lit (.int kd n)) (by simp[b]) rfl
   rw[e];generalize c[0]=u at this;cases this;rfl
theorem CD{σ:aa}(c:Rel k O σ){b:Nat}{l:List (Int × AV)}(hb:σ b=some (mapA kd l)):∃es clock,O b=some (.obj (.map es clock))/\es.toList.length=l.length/\∀(j:Nat) e p,es.toList[j]?=some e->l[j]?=some p->e.key=.agg #[.int kd p.1]/\V k e.val p.2:=by
 obtain⟨x,d,a⟩:=c.1 b _ hb (by simp[mapA]);unfold mapA at a;cases a with
 | map es clock m f g=>
   refine⟨es,clock,d,by simpa using f,λj e p h i=>?_⟩;obtain⟨n,o⟩:=g j e (bG.tO kd p.1,p.2) (by simpa using h) (by simp[i]);exact⟨n.tO,o⟩
variable{o:Oper}{env:Env}{σ:aa}{K Kq:AV->aa->Prop}
theorem Bg(M:DC P mt kt et ft kd)(ht:L.tt ft=some i)(ha:i.agg=false){t:TI}{x g:Operand}{b:Nat}{l:List (Int × AV)}{n:Int}(h:o.op=.lookup mt x g true)(m:L.tt et=some t)(z:am env x=.map b)(A:am env g=tO kd n)(hb:σ b=some (mapA kd l))
 (w:K (.cq [(gn l n).getD (kN t.zero),.lit (.bool (gn l n).isSome)]) σ):aE P o env σ K Kq:=
 aE.val (s:=λe=>Instr.lookup mt (e x) (e g) true) (λe=>by simp[execOp,h]) λk O e f p=>by
  have q:=f x (by simp[h,Op.operands]);have y:=f g (by simp[h,Op.operands]);rw[z]at q;rw[A]at y;rw[y.tO];generalize e x=G at q;cases q;obtain⟨es,clock,B,C,D⟩:=CD p hb;unfold Instr.lookup;refine af (eL M.hm ?_);simp only;refine af (s:=getObj b) ⟨_,B,rfl,ai ?_⟩;refine af (ai ?_);refine af (oi L M ht ha ?_);refine af (pE L M ht ha C D (λa v j r E=>?_) (λr=>?_))
  . simp only
    refine af (ai ?_);simp only[if_true];refine ai (.here ⟨.refl k,_,σ,.cq _ _ rfl (λi u F d c=>?_),p,w⟩);rw[r]at c
    match i with
    |0=>simp at d c;subst d;subst c;exact E
    |1=>simp at d c;subst d;subst c;exact .lit _
    |i+2=>simp at c
  . simp only
    refine af (cB L m ?_);refine af (ai ?_);simp only[if_true];refine ai (.here ⟨.refl k,_,σ,.cq _ _ rfl (λi u F d c=>?_),p,w⟩);rw[r]at c
    match i with
    |0=>simp at d c;subst d;subst c;exact .kN k _
    |1=>simp at d c;subst d;subst c;exact .lit _
    |i+2=>simp at c
theorem vB(M:DC P mt kt et ft kd)(ht:L.tt ft=some i)(ha:i.agg=false){x m y:Operand}{b:Nat}{l:List (Int × AV)}{n:Int}{a:AV}(r:o.op=.mapUpdate mt x m y)(H:am env x=.map b)(I:am env m=tO kd n)(J:am env y=a)(hb:σ b=some (mapA kd l))(N:gn l n=none)
 (Q:K (.lit undef) (σ.set b (mapA kd (l++[(n,a)])))):aE P o env σ K Kq:=λk O g c B=>by
 have z:=c x (by simp[r,Op.operands])
 have t:=c m (by simp[r,Op.operands])
 have C:=c y (by simp[r,Op.operands])
 rw[H]at z;rw[I]at t;rw[J]at C;have R:execOp g o=(do Instr.mapUpdate mt (g x) (g m) (g y);pure .skip):=by simp[execOp,r]
 rw[R,t.tO];generalize g x=W at z;cases z;obtain⟨es,clock,D,w,E⟩:=CD B hb;unfold Instr.mapUpdate;refine af (af (eL M.hm ?_));simp only;refine af (s:=getObj b) ⟨_,D,rfl,ai ?_⟩;simp only;refine af (oi L M ht ha ?_);refine af (pE L M ht ha w E (λa v j F X=>by rw[N]at F;cases F) (λ_=>?_))
 simp only;refine⟨⟨_,D,rfl⟩,rfl,ai ?_⟩;refine⟨undef,.inr ⟨rfl,rfl⟩,.here ⟨.refl k,.lit undef,_,.lit _,B.set (.map _ _ _ ?_ (λj e p d f=>?_)),Q⟩⟩
 . simp;simpa using w
 . rw [Array.getElem?_push]at d
   rw[List.map_append]at f
   by_cases h:j=es.size
   . rw[if_pos h]at d
     have A:l.length=es.size:=by rw[<-w];simp
     rw[List.getElem?_append_right (by simp;omega)]at f
     simp only[Option.some.injEq]at d;subst d;have:j-(l.map λp=>(bG.tO kd p.1,p.2)).length=0:=by simp;omega
     rw[this]at f;simp at f;subst f;exact⟨t.tO ▸ t,C⟩
   . rw[if_neg h]at d
     have S:j<es.size:=(Array.getElem?_eq_some_iff.1 d).1;have A:l.length=es.size:=by rw[<-w];simp
     rw[List.getElem?_append_left (by simp;omega),List.getElem?_map]at f
     obtain⟨q,T,rfl⟩:=Option.map_eq_some_iff.1 f;obtain⟨U,V⟩:=E j e q (by simpa using d) T
     refine⟨?_,V⟩;rw[U]
     exact .agg _ _ rfl λi u a G ha=>by
      match i with
      |0=>simp at G ha;subst G;subst ha;exact .lit _
      |i+1=>simp at ha
theorem Bh{mt:Nat}(kd:IntKind)(f:o.op=.makeMap mt none)(g:∀b,σ b=none->K (.map b) (σ.set b (mapA kd []))):aE P o env σ K Kq:=
 aE.val (s:=λc=>Instr.makeMap mt none) (λc=>by simp[execOp,f]) λk O c h d=>by
  unfold Instr.makeMap;simp only;refine af (s:=newObj _) ⟨rfl,λr a=>ai ?_⟩;exact .here ⟨.made a.2.2,_,_,.map r,(d.mono (.made a.2.2)).set (.map _ _ _ rfl λj e p i=>by simp at i),g r (d.isNone a.1 a.2.2)⟩
end
section
variable{P:Program}(L:jg P){o:Oper}{env:Env}{σ:aa}{K:AV->aa->Prop}{Kp:AV->aa->Prop}
theorem Bi{i:TI}{d:TypeDesc}(h:cO P i d=true)(a:i.kind=.iface):∃ms,d=.interface ms:=by cases d<;>simp_all [cO]
theorem mZ{op:BinOp}{t A:Nat}{x:Operand}{i:TI}{isNil:Bool}(q:o.op=.binOp op t x (.const .nilIface) A)(ht:L.tt t=some i)(B:i.kind=.iface)
 (C:(am env x=.lit .nilIface/\isNil=true)\/(∃d a,am env x=.mS d a)/\isNil=false){b:Bool}(l:(op=.eql/\b=isNil)\/(op=.neq/\b=!isNil)) (D:K (.lit (.bool b)) σ):aE P o env σ K Kp:=
 aE.val (s:=λc=>do eqGuard op t x (.const .nilIface) (c x) (c (.const .nilIface));binOp op t (c x) (c (.const .nilIface))) (λc=>by simp[execOp,q]) λk O c m E=>by
  have n:=m x (by simp[q,Op.operands])
  have r:=m (.const .nilIface) (by simp[q,Op.operands])
  have F:c (.const .nilIface)=.nilIface:=by simp only[am]at r;generalize c (.const .nilIface)=w at r;cases r;rfl
  have f:(c x=.nilIface/\isNil=true)\/∃d v,c x=.iface d v/\isNil=false:=by
   rcases C with⟨e,h⟩|⟨⟨d,a,e⟩,h⟩<;>rw[e]at n
   . generalize c x=w at n;cases n;exact .inl ⟨rfl,h⟩
   . generalize c x=w at n;cases n;exact .inr ⟨_,_,rfl,h⟩
  rw[F]
  have G:eqGuard op t x (.const .nilIface) (c x) .nilIface=pure ():=by rcases f with⟨f,_⟩|⟨d,v,f,_⟩<;>rw[f]<;>rcases l with⟨rfl,_⟩|⟨rfl,_⟩<;>simp[eqGuard]
  rw[G];refine af (ai ?_)
  have fin:∀{s:Sem Value},s=(do pure (.bool b))->dM P s k O (λv p u=>lh p u λy H=>k.Le y/\∃a g,V y v a/\Rel y H g/\K a g) (λv p u=>k.Le p/\∃a g,V p v a/\Rel p u g/\Kp a g):=λe=>by rw[e];exact ai (.here ⟨.refl k,_,σ,.lit _,E,D⟩)
  have j:∀(R:Bool->ag->ah->Prop) (z:Value->ag->ah->Prop),R isNil k O->dM P (Op.equal t (c x) .nilIface) k O R z:=λR z I=>by
   show dM P (Op.equalIn (9999+1) t (c x) .nilIface) k O R z;rw[Op.equalIn];refine af (az L ht λd _ hd=>?_)
   obtain⟨ms,rfl⟩:=Bi hd B
   rcases f with⟨f,rfl⟩|⟨d,v,f,rfl⟩<;>rw[f]<;>exact ai I
  rcases f with⟨f,J⟩|⟨d,v,f,J⟩<;>rw[f]at j ⊢<;>rcases l with⟨rfl,rfl⟩|⟨rfl,rfl⟩
  . exact af (s:=Op.equal t .nilIface .nilIface) (j _ _ (fin rfl))
  . exact af (s:=Op.equal t .nilIface .nilIface) (j _ _ (fin rfl))
  . exact af (s:=Op.equal t (.iface d v) .nilIface) (j _ _ (fin rfl))
  . exact af (s:=Op.equal t (.iface d v) .nilIface) (j _ _ (fin rfl))
end
def mN(k:ag)(O:ah)(B:Nat)(a:Touch):Prop:=
 match a.loc with
 |.cell b=>b.block<B/\¬aK O b.block b.off/\(k.cell b.block b.off=none\/a.write=false)
 |.obj r=>r<B/\∀o,O r≠some (.obj o)
 |_=>True
def ag.bot:ag:=⟨λ_ _=>none,λ_=>none⟩
def ah.bot:ah:=λ_=>none
def ag.join(k k':ag):ag:=⟨λb i=>match k.cell b i with|some v=>some v|none=>k'.cell b i,λb=>match k.sh b with|some s=>some s|none=>k'.sh b⟩
theorem ag.kv(k k':ag):k.Le (k.join k'):=⟨λb i v h=>by simp[ag.join,h],λb s h=>by simp[ag.join,h]⟩
theorem ag.m5{k k':ag}{O O':ah}{w:World}(h:Sat k O w)(a:Sat k' O' w):k'.Le (k.join k'):=⟨λb i v c=>by
 simp only[ag.join];cases q:k.cell b i with
 |none=>exact c
 |some u=>have:=h.cell b i u q;rw[a.cell b i v c]at this;simpa using this.symm,λb s d=>by
 simp only[ag.join];cases q:k.sh b with
 |none=>exact d
 |some u=>have:=h.sh b u q;rw[a.sh b s d]at this;simpa using this.symm⟩
theorem ag.jG{k k':ag}{b i:Nat}{v:Value}(h:(k.join k').cell b i=some v):k.cell b i=some v\/k'.cell b i=some v:=by
 simp only[ag.join]at h;cases q:k.cell b i with
 |none=>rw[q]at h;exact .inr h
 |some u=>rw[q]at h;exact .inl h
theorem ag.xN{k k':ag}{b:Nat}{s:TypeId × Nat}(h:(k.join k').sh b=some s):k.sh b=some s\/k'.sh b=some s:=by
 simp only[ag.join]at h;cases q:k.sh b with
 |none=>rw[q]at h;exact .inr h
 |some u=>rw[q]at h;exact .inl h
theorem aK.own{O:ah}{b i:Nat}(h:aK O b i):∃x,O b=some x:=by rcases h with⟨o,h⟩|⟨n,h,_⟩|⟨f,h,_⟩<;>exact⟨_,h⟩
theorem de{O:ah}{b i:Nat}(h:O b=none):¬aK O b i:=λc=>by obtain⟨x,a⟩:=c.own;rw[h]at a;cases a
structure Base where
 Shun:Loc->Prop
 N0:Nat
 lk:Nat
 la:Addr
 W0:World
def DD(Z:Base)(t:Trace)(i n:Nat):Prop:=if i=Z.lk then n<Z.N0\/∃p,Z.N0<=p/\t.act? p=some (.mark (.releaseMerge Z.la))/\t.heard p/\Before t n p else Knows t i n
theorem DD.app{Z:Base}{t:Trace}{i n:Nat}(h:DD Z t i n)(u:Trace):DD Z (t++u) i n:=by
 unfold DD at *;split at h
 . next e=>
   rw[if_pos e];rcases h with h|⟨p,c,a,d,f⟩
   . exact .inl h
   have b:=lt_of_act? a;exact .inr ⟨p,c,by rw[act?_old b];exact a,(heard_old b).2 d,f.app u⟩
 . next e=>rw[if_neg e];exact h.app u
theorem l9{Z:Base}{t:Trace}{i n:Nat}(a:i≠Z.lk):DD Z t i n↔Knows t i n:=by unfold DD;rw[if_neg a]
def Pp(Z:Base)(t:Trace)(i:Nat)(k:ag)(O:ah)(B:Nat):Prop:=∀n a,touchAt t n=some a->a.loc.isMemory=true->DD Z t i n\/mN k O B a
structure bL(Z:Base)(kk:Nat->ag)(OO:Nat->ah)(J M:Nat->Prop)(w:World)(t:Trace):Prop where
 sat:∀i,Sat (kk i) (OO i) w
 gY:∀i j b x,i≠j->OO i b=some x->OO j b=none
 lx:∀i j b n v,i≠j->(kk j).cell b n=some v -> ¬aK (OO i) b n
 xO:∀i,Pp Z t i (kk i) (OO i) w.heap.size
 clean:∀said,¬Race said t
 seen:∀op∈t,op.act.low w.heap.size
 acc:∀n a,touchAt t n=some a->a.loc.isMemory=true->Knows t 0 n\/(∃j,J j/\Knows t j n)\/(∃p,M p/\Before t n p)\/(Z.Shun a.loc/\a.kind=.atomic/\(t.counts n->n<Z.N0))
 n0:Z.N0<=t.size
 tP:∀n g,n<Z.N0->t.g? n=some g->g≠0->t.counts n->∃j,t.g? j=some 0/\HappensBefore t n j
 iT:∀a,Z.Shun (.cell a)->a.block<w.heap.size/\∀i,¬aK (OO i) a.block a.off/\(kk i).cell a.block a.off=none
 ly:∀r,Z.Shun (.obj r)->r<w.heap.size/\∀i o,OO i r≠some (.obj o)
 vC:vt Z.W0 w
 mine:∀i b x,OO i b=some x->Z.W0.heap.size<=b
def bo{α:Type}(f:Nat->α)(i:Nat)(x:α):Nat->α:=λj=>if j=i then x else f j
theorem ak{α:Type}(f:Nat->α)(i:Nat)(x:α):bo f i x i=x:=by simp[bo]
theorem ap{α:Type}(f:Nat->α){i j:Nat}(x:α)(h:j≠i):bo f i x j=f j:=by simp[bo,h]
theorem kO{k:ag}{O:ah}{B:Nat}{e:Event}{b:Touch}(a:gO k O B e)(hb:(MemAct.ofEvent e).touch?=some b):
 (∃ad,b.loc=.cell ad/\(aK O ad.block ad.off\/B<=ad.block\/(b.write=false/\∃v,k.cell ad.block ad.off=some v)))\/∃r,b.loc=.obj r/\((∃o,O r=some (.obj o))\/B<=r):=by
 obtain⟨loc,wr,c⟩:=e;cases loc with
 |cell ad=>simp only[gO]at a;simp only[MemAct.ofEvent,MemAct.touch?,Option.some.injEq]at hb;subst hb;exact .inl ⟨ad,rfl,a⟩
 |obj r=>simp only[gO]at a;cases wr<;>cases c<;>simp only[MemAct.ofEvent,MemAct.touch?,Option.some.injEq,reduceCtorEq]at hb<;>subst hb<;>exact .inr ⟨r,rfl,a⟩
 |mark m=>simp only[gO]at a;cases m<;>simp_all [iI,kK,MemAct.ofEvent,MemAct.touch?]
 |_=>simp[gO]at a
theorem rE{k:ag}{O:ah}{B b:Nat}{e:Event}(c:gO k O B e)(a:ip b e):(MemAct.ofEvent e).low b:=by
 obtain⟨loc,wr,d⟩:=e;cases loc with
 |cell f=>simpa[MemAct.ofEvent,MemAct.low,Loc.low,ip]using a
 |obj r=>simp only[ip]at a;cases wr<;>cases d<;>simpa[MemAct.ofEvent,MemAct.low,Loc.low]using a
 |mark m=>simp only[gO]at c;cases m<;>simp_all [iI,kK,MemAct.ofEvent,MemAct.low,ip]
 |_=>simp[gO]at c
theorem oJ{t u:Trace}{n:Nat}(a:n<t.size):(t++u).counts n↔t.counts n:=by unfold Trace.counts;rw[act?_old a,heard_old a]
section
variable{Z:Base}{kk:Nat->ag}{OO:Nat->ah}{J M:Nat->Prop}{w:World}{t:Trace}
theorem bL.yX(h:bL Z kk OO J M w t)(u:Trace):∀n g,n<Z.N0->(t++u).g? n=some g->g≠0->(t++u).counts n->∃j,(t++u).g? j=some 0/\HappensBefore (t++u) n j:=λn g d e i f=>by
 have a:n<t.size:=Nat.lt_of_lt_of_le d h.n0;rw[g?_old a]at e;rw[oJ a]at f;obtain⟨j,b,hb⟩:=h.tP n g d e i f
 have c:j<t.size:=by unfold Trace.g? at b;obtain⟨z,k,_⟩:=Option.map_eq_some_iff.1 b;exact lt_size_of_getElem? k
 exact⟨j,by rw[g?_old c];exact b,hb_app u hb⟩
theorem bL.own(h:bL Z kk OO J M w t){i:Nat}(ax:i≠Z.lk)(hJ:i=0\/J i){k':ag}{O':ah}{w':World}{es:Array Event}{fn:FuncId}{pos:String}(d:Eff (kk i) (OO i) w k' O' w' es.toList)(hs:Sat k' O' w'):
 bL Z (bo kk i k') (bo OO i O') J M w' (t++MemOp.ofEvents i fn pos es):=by
 have H:∀op∈MemOp.ofEvents i fn pos es,op.g=i/\∃e∈es.toList,op.act=.ofEvent e:=λop C=>by obtain⟨e,d,rfl⟩:=Go.Conc.mem_ofEvents C;exact⟨rfl,e,by simpa using d,rfl⟩
 have T:∀b n,aK O' b n->aK (OO i) b n\/w.heap.size<=b:=d.AT
 have ay:∀j,j≠i->Sat (kk j) (OO j) w':=λj k=>by
  have hold:∀b,b<w.heap.size->OO j b≠none->w'.heap[b]?=w.heap[b]?:=λb hb W=>by
   cases q:OO j b with
   |none=>exact absurd q W
   |some x=>exact d.keep b hb (h.gY j i b x k q)
  refine⟨(h.sat j).apart,λb n v R=>?_,λb s hs=>?_,λb o S=>?_,λb n W=>?_,λb f W=>?_⟩
  . have hb:=(h.sat j).nB R
    have hc:=(h.sat j).cell b n v R;have Y:=h.lx i j b n v (Ne.symm k) R;cases q:OO i b with
    |none=>have:=d.keep b hb q;simpa only[World.cell?,this]using hc
    | some x=>
      cases x with
      |obj o=>exact absurd (.inl ⟨o,q⟩) Y
      | tail m=>
        have a7:n<m:=Nat.lt_of_not_le λhh=>Y (.inr (.inl ⟨m,q,hh⟩))
        obtain⟨c,e,u,_⟩:=(h.sat i).tail b m q;obtain⟨c',O,F,X⟩:=d.tail b m hb q c e u;simp only[World.cell?,u,O]at hc ⊢;rw[X n a7];exact hc
      | part f=>
        have a7:f n=none:=Classical.byContradiction λhh=>Y (.inr (.inr ⟨f,q,hh⟩))
        obtain⟨c,e,u,_⟩:=(h.sat i).part b f q;obtain⟨c',O,F,X⟩:=d.part b f hb q c e u;simp only[World.cell?,u,O]at hc ⊢;rw[X n a7];exact hc
  . have hb:=(h.sat j).FM hs
    rw[d.shape b hb];exact(h.sat j).sh b s hs
  . rw[hold b ((h.sat j).mR S) (by rw[S];simp)];exact(h.sat j).obj b o S
  . rw[hold b ((h.sat j).mR W) (by rw[W];simp)];exact(h.sat j).tail b n W
  . rw[hold b ((h.sat j).mR W) (by rw[W];simp)];exact(h.sat j).part b f W
 have l:∀j b x,OO j b=some x->b<w.heap.size:=λj b x A=>(h.sat j).mR A
 have I:∀j b n v,(kk j).cell b n=some v->b<w.heap.size:=λj b n v R=>(h.sat j).nB R
 refine⟨λj=>?_,λa b c x E A=>?_,λa b c n v E R=>?_,λj=>?_,λsaid=>?_,λop C=>?_,λn a ha hm=>?_,by simp;exact Nat.le_trans h.n0 (Nat.le_add_right _ _),h.yX _,λa ha=>?_,λr hr=>?_,h.vC.step (by rw[d.os];exact .refl _) d.output d.size (λb hb=>d.keep b (Nat.lt_of_lt_of_le hb h.vC.size) (Option.eq_none_iff_forall_ne_some.2 λx A=>by have:=h.mine i b x A;omega)),λj b x A=>?_⟩
 . by_cases k:j=i
   . subst k;rw[ak,ak];exact hs
   . rw[ap _ _ k,ap _ _ k];exact ay j k
 . by_cases ha:a=i
   . subst ha
     rw[ak]at A;rw[ap _ _ (Ne.symm E)]
     rcases d.own c x A with⟨y,K,_⟩|K
     . exact h.gY a b c y E K
     . cases q:OO b c with
       |none=>rfl
       |some z=>have:=l b c z q;omega
   . rw [ap _ _ ha]at A
     by_cases hb:b=i
     . subst hb
       rw[ak];cases q:O' c with
       |none=>rfl
       | some z=>
         rcases d.own c z q with⟨y,K,_⟩|K
         . have:=h.gY a b c x E A;rw[K]at this;cases this
         . have:=l a c x A;omega
     . rw[ap _ _ hb];exact h.gY a b c x E A
 . by_cases ha:a=i
   . subst ha
     rw[ak];rw[ap _ _ (Ne.symm E)]at R;intro hc
     rcases T c n hc with hc|hc
     . exact h.lx a b c n v E R hc
     . have:=I b c n v R;omega
   . rw [ap _ _ ha]
     by_cases hb:b=i
     . subst hb
       rw[ak]at R;intro hc
       rcases d.cell c n v R with u|u|u
       . exact h.lx a b c n v E u hc
       . obtain⟨x,A⟩:=u.own
         have:=h.gY b a c x (Ne.symm E) A;exact de this hc
       . obtain⟨x,A⟩:=hc.own
         have:=l a c _ A;omega
     . rw[ap _ _ hb]at R;exact h.lx a b c n v E R
 ·
  intro n a ha hm;obtain⟨x,A,B⟩:=touch_of ha
  rcases getElem?_append_cases A with⟨_,a8⟩|⟨_,a9⟩
  . rcases h.xO j n a (by rw[touchAt_of a8];exact B) hm with hk|hk
    . exact .inl (hk.app _)
    . refine .inr ?_
      by_cases k:j=i
      . subst k
        rw[ak,ak];unfold mN at hk ⊢;split
        . next V G=>
          rw[G]at hk;obtain⟨u,O,F⟩:=hk;refine⟨Nat.lt_of_lt_of_le u d.size,λhc=>?_,?_⟩
          . rcases T _ _ hc with hc|hc
            . exact O hc
            . omega
          . rcases F with F|F
            . cases q:k'.cell V.block V.off with
              |none=>exact .inl rfl
              | some v=>
                rcases d.cell _ _ v q with X|X|X
                . rw[F]at X;cases X
                . exact absurd X O
                . omega
            . exact .inr F
        . next r G=>
          rw[G]at hk;refine⟨Nat.lt_of_lt_of_le hk.1 d.size,λo S=>?_⟩
          rcases d.own r _ S with⟨y,K,U⟩|K
          . cases y with
            |obj o'=>exact hk.2 o' K
            |tail m=>exact U.elim
            |part f=>exact U.elim
          . have:=hk.1;omega
        . trivial
      . rw[ap _ _ k,ap _ _ k]
        unfold mN at hk ⊢;split
        . next V G=>rw[G]at hk;exact⟨Nat.lt_of_lt_of_le hk.1 d.size,hk.2⟩
        . next r G=>rw[G]at hk;exact⟨Nat.lt_of_lt_of_le hk.1 d.size,hk.2⟩
        . trivial
  . obtain ⟨hg,e,P,L⟩:=H x a9
    by_cases k:j=i
    . subst k
      have:=knows_own A;rw[hg]at this;exact .inl ((l9 ax).2 this)
    . refine .inr ?_
      rw[ap _ _ k,ap _ _ k];rw[L]at B;have N:=d.evs e P;have Q:=d.low e P
      rcases kO N B with⟨V,G,hc⟩|⟨r,G,hc⟩
      . unfold mN;rw[G]
        have al:V.block<w'.heap.size:=by
         have:=rE N Q;obtain⟨loc,wr,sy⟩:=e;cases loc with
         |cell b0=>simp only[MemAct.ofEvent,MemAct.touch?,Option.some.injEq]at B;subst B;simp only[Loc.cell.injEq]at G;subst G;simpa[ip]using Q
         |obj r=>cases wr<;>cases sy<;>simp only[MemAct.ofEvent,MemAct.touch?,Option.some.injEq,reduceCtorEq]at B<;>subst B<;>cases G
         |mark m=>simp only[gO]at N;cases m<;>simp_all [iI,kK,MemAct.ofEvent,MemAct.touch?]
         |_=>simp[gO]at N
        refine⟨al,λav=>?_,?_⟩
        . rcases hc with hc|hc|⟨_,v,hc⟩
          . obtain⟨y,K⟩:=hc.own
            have:=h.gY i j _ y (Ne.symm k) K;exact de this av
          . obtain⟨x,A⟩:=av.own
            have:=l j _ _ A;omega
          . exact h.lx j i _ _ v k hc av
        . rcases hc with hc|hc|⟨hc,_⟩
          . cases q:(kk j).cell V.block V.off with
            |none=>exact .inl rfl
            |some v=>exact absurd hc (h.lx i j _ _ v (Ne.symm k) q)
          . cases q:(kk j).cell V.block V.off with
            |none=>exact .inl rfl
            |some v=>have:=I j _ _ v q;omega
          . exact .inr hc
      . unfold mN;rw[G]
        have al:r<w'.heap.size:=by
         obtain⟨loc,wr,sy⟩:=e;cases loc with
         |cell b0=>simp only[MemAct.ofEvent,MemAct.touch?,Option.some.injEq]at B;subst B;cases G
         |obj r'=>simp only[ip]at Q;cases wr<;>cases sy<;>simp only[MemAct.ofEvent,MemAct.touch?,Option.some.injEq,reduceCtorEq]at B<;>subst B<;>cases G<;>exact Q
         |mark m=>simp only[gO]at N;cases m<;>simp_all [iI,kK,MemAct.ofEvent,MemAct.touch?]
         |_=>simp[gO]at N
        refine⟨al,λo S=>?_⟩
        rcases hc with⟨o',hc⟩|hc
        . have:=h.gY j i r _ k S
          rw[hc]at this;cases this
        . have:=l j r _ S;omega
 ·
  refine noRace_append (h.clean said) (λop C=>(H op C).1) λn a ha op C b hb hc=>?_
  obtain⟨hg,e,P,L⟩:=H op C;rw[L]at hb;have N:=d.evs e P;obtain⟨c1,c2,c3,c4⟩:=hc
  rcases h.xO i n a ha c2 with hk|hk
  . exact(l9 ax).1 hk
  . exfalso
    unfold mN at hk
    rcases kO N hb with⟨V,G,D⟩|⟨r,G,D⟩
    . rw [c1,G]at hk
      obtain⟨u,O,F⟩:=hk
      rcases D with D|D|⟨hw,v,D⟩
      . exact O D
      . omega
      . rcases F with F|F
        . rw[D]at F;cases F
        . rcases c3 with c3|c3
          . rw[F]at c3;cases c3
          . rw[hw]at c3;cases c3
    . rw[c1,G]at hk
      rcases D with⟨o,D⟩|D
      . exact hk.2 o D
      . have:=hk.1;omega
 . rcases Array.mem_append.1 C with C|C
   . exact MemAct.low_mono d.size (h.seen op C)
   . obtain⟨hg,e,P,L⟩:=H op C
     rw[L];exact rE (d.evs e P) (d.low e P)
 . obtain⟨x,A,B⟩:=touch_of ha
   rcases getElem?_append_cases A with⟨b1,a8⟩|⟨_,a9⟩
   . rcases h.acc n a (by rw[touchAt_of a8];exact B) hm with u|⟨j,k,u⟩|⟨p,hp,u⟩|u
     . exact .inl (u.app _)
     . exact .inr (.inl ⟨j,k,u.app _⟩)
     . exact .inr (.inr (.inl ⟨p,hp,u.app _⟩))
     . exact .inr (.inr (.inr ⟨u.1,u.2.1,λhc=>u.2.2 ((oJ b1).1 hc)⟩))
   . obtain⟨hg,_⟩:=H x a9
     have:=knows_own A;rw[hg]at this
     rcases hJ with rfl|hJ
     . exact .inl this
     . exact .inr (.inl ⟨i,hJ,this⟩)
 . obtain⟨u,O⟩:=h.iT a ha
   refine⟨Nat.lt_of_lt_of_le u d.size,λj=>?_⟩
   by_cases k:j=i
   . subst k
     rw[ak,ak];refine⟨λhc=>?_,?_⟩
     . rcases T _ _ hc with hc|hc
       . exact(O j).1 hc
       . omega
     . cases q:k'.cell a.block a.off with
       |none=>rfl
       | some v=>
         rcases d.cell _ _ v q with F|F|F
         . rw[(O j).2]at F;cases F
         . exact absurd F (O j).1
         . omega
   . rw[ap _ _ k,ap _ _ k];exact O j
 . obtain⟨u,O⟩:=h.ly r hr
   refine⟨Nat.lt_of_lt_of_le u d.size,λj o S=>?_⟩
   by_cases k:j=i
   . subst k
     rw[ak]at S
     rcases d.own r _ S with⟨y,K,U⟩|K
     . cases y with
       |obj o'=>exact O j o' K
       |tail m=>exact U.elim
       |part f=>exact U.elim
     . omega
   . rw[ap _ _ k]at S;exact O j o S
 . by_cases k:j=i
   . subst k
     rw[ak]at A
     rcases d.own b x A with⟨y,K,_⟩|K
     . exact h.mine j b y K
     . exact Nat.le_trans h.vC.size K
   . rw[ap _ _ k]at A;exact h.mine j b x A
end
end Go.bG
