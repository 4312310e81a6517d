import Derived.KernelRfl
import Derived.Test.YtebcbkhnlnkolaaGreatDoorC4
set_option linter.all false
namespace Go.ck
def za:=@Go.Conc.mem_ofEvents
open Go.Conc
abbrev adB:=List Entry
section
variable{P:adT}(L:jJ P){m:Mo}
def aB.start{f:FuncId}{fn args σ b body}  mu   ω   k  (c:P.funcs[f]?=some fn) (hb:fn.body=some body) (e:args.length=k) (d:oC fn k=true) (a:lE ω body=true)
 (h:bF L m f fn.ntmps none mu ω 1000 [.code body] ⟨dG args,σ,[],.no⟩ (TS L m fn.results.toList (nP b))):aB P m f args σ b:=by
 simp only[oC,wL]at d;refine aB.thaw (aB.intro L c hb (by simp_all) ?_ (Go.bF L mu ω 1000 (by simpa[kh]using a) h))
 simp_all
variable{ξ n:Nat}{ro:adD}{ω:adB}{s:St}{K:adt}{k:adH}
def aa.run  mu  {todo}(h:bF L m ξ n ro mu ω 1000 todo s K):aa P m ξ n ro ω todo s K:=λa=>Go.bF L mu ω 1000 a h
def an{f fn args σ b}(c:P.funcs[f]?=some fn)(hb:fn.body.isSome=true)(a:(fn.name==  "runtime.NumGoroutine")=false)(h:aB P m f args σ b):
 cq P m (.fn (.func f) [] []) args σ b:=.func c hb a (by simpa using h)
def eS{f fn first cap args args' σ b}(c:P.funcs[f]?=some fn)(hb:fn.body.isSome=true)(a:(fn.name==  "runtime.NumGoroutine")=false)(d:first++args++cap=args')(h:aB P m f args' σ b):
 cq P m (.fn (.func f) first cap) args σ b:=.func c hb a (d ▸ h)
def aa.loop{c}  N  (I:Nat->St->Prop) (g:I 0 s)
 (h:∀b i s,i<=N->I i s->(∀s',i<N->I (i+1) s'->aa P m ξ n ro ω (.inLoop b::k) s' K)->aa P m ξ n ro ω (.code c::.inLoop b::k) s K):aa P m ξ n ro ω (.code (.loop c)::k) s K:=λe=>by
 have d:∀b,kh ω (.code c::.inLoop b::k)=true:=λb=>by simpa[kh,lE]using e
 refine Go.loop (λa s=>∃i,a=N-i/\i<=N/\I i s) N ⟨0,by simp,by omega,g⟩ ?_;rintro b a s ⟨i,rfl,j,l⟩ o;exact h b i s j l (λs' p f _=>o (N-(i+1)) s' (by omega) ⟨i+1,rfl,by omega,f⟩) (d b)
def LZ:Option Code->Bool
 |none=>true
 |some .ret=>true
 |some (.exit _)=>true
 |_=>false
def aa.rangeFunc{f params assign body}(i:Operand.ok n f=true)
 (h:kh ω [.code assign,.code body]=true->∀r l,s.σ r=none->s.σ l=none->r≠l->cq P m (ak s.env f) [.fn (.yield l) [] []] ((s.σ.set r (.raw (.deferred (some [])))).set l (.loop ⟨.ready,none,ξ,n,s.env,params,assign,body,r⟩))
   (fun res σ'=>match res with
     |.val _=>∃a,σ' l=some (.loop a)/\a.state≠.busy/\LZ a.pending=true/\aa P m ξ n none ω ((a.pending.map Item.code).toList++k) {s with σ:=σ'.del l,D:=.mark r::s.D} K
     |.panic v=>K (.panic v) {s with σ:=σ',D:=.mark r::s.D})):aa P m ξ n none ω (.code (.rangeFunc f params assign body)::k) s K:=λd=>by
 have j:kh ω [.code assign,.code body]=true:=by
  simp only[kh,abL,lE,wL]at d ⊢
  simp_all
 refine Go.rangeFunc i λr l a b c=>(h j r l a b c).mono λres σ' e=>?_
 cases res with
 |panic v=>exact e
 |val v=>obtain⟨o,p,q,g,t⟩:=e;refine⟨o,p,q,t ?_⟩;simp only[kh,abL,wL,List.all_append]at d ⊢;refine⟨?_,d.2⟩;unfold LZ at g;split at g<;>rename_i u<;>simp_all [lE]
def cq.xZ{l args σ c a fn}(b:kh ω [.code a.assign,.code a.body]=true)(d:P.funcs[a.fn]?=some fn)(e:σ l=some (.loop a))(f:args.length=a.params.size)
 (h:aa P m a.fn a.n (some l) ω [.code a.assign,.beginRound,.code a.body] ⟨nB a.env a.params.toList args,σ,[],.no⟩ (LQ l c)):cq P m (.fn (.yield l) [] []) args σ c:=
 .yield d e f (h (by simp only[kh,abL,wL]at b ⊢;simp_all))
def aa.beginRound{l a}(c:s.σ l=some (.loop a))(ha:a.state=.ready)(h:aa P m ξ n (some l) ω k {s with σ:=s.σ.set l (.loop {a with state:=.busy})} K):aa P m ξ n (some l) ω (.beginRound::k) s K:=λb=>.beginRound c ha (h (by simpa[kh,lE]using b))
def aa.freeze{todo env a σ σ' D rc}  b   l  (hb:σ b=some (.cells l)) (c:∀t,Fz b l (env t) (a t)) (e:PJ b l σ σ')
 (h:aa P m ξ n ro ω todo ⟨a,σ',D,rc⟩ K):aa P m ξ n ro ω todo ⟨env,σ,D,rc⟩ K:=λd=>Go.freeze b l hb c e (h d)
end
def ab.le_refl(σ:ab):σ.Le σ:=λ_ _ h=>h
def ab.le_trans{a b c:ab}(h:a.Le b)(d:b.Le c):a.Le c:=λx y e=>d x y (h x y e)
def ab.l9{σ0 σ:ab}{b x}(h:σ0.Le σ)(hb:σ b=none):σ0.Le (σ.set b x):=λc y a=>by
 by_cases e:c=b
 . subst e;have:=h _ _ a;simp_all
 . simp only[ab.set,e,zD];exact h _ _ a
def ab.dQ{σ0 σ:ab}{b x}(h:σ0.Le σ)(hb:σ0 b=none):σ0.Le (σ.set b x):=λc y a=>by
 by_cases e:c=b
 . simp_all
 . simp only[ab.set,e,zD];exact h _ _ a
def ab.ma{σ0 σ:ab}{b}(h:σ0.Le σ)(hb:σ0 b=none):σ0.Le (σ.del b):=λc y a=>by
 by_cases e:c=b
 . simp_all
 . simp only[ab.del,e,zD];exact h _ _ a
def ab.aN{σ:ab}{b c x}(h:(σ.set b x) c=none):c≠b/\b≠c/\σ c=none:=by
 by_cases e:c=b
 . subst e;simp[ab.set]at h
 . simp only[ab.set,e,zD]at h
   grind
@[simp] theorem ab.ai(σ:ab)  b   x :(σ.set b x) b=some x:=by simp[ab.set]
def ab.ah(σ:ab){b c}  x  (h:c≠b):(σ.set b x) c=σ c:=by simp[ab.set,h]
@[simp] theorem ab.set_set(σ:ab)  b   x y :(σ.set b x).set b y=σ.set b y:=by funext c;by_cases e:c=b<;>simp[ab.set,e]
section
variable{P:adT}(L:jJ P)(m:Mo)(ξ n f:Nat)(ro:adD)(mu:adL)(ω:adB)
def stepW(ζ:adC)(is:adL)(k:adH)(dst:adF)(s:St)(K:adt)(x:Out):Prop:=sm x (λa b=>bF L m ξ n ro mu ω f (.inRegion ζ is::k) {s with env:=bp s.env dst a,σ:=b} K) (λa b=>K (.panic a) {s with σ:=b})
def L0(ζ:adC)(is:adL)(k:adH)(dst:adF)(s:St)(K:adt)(σ:ab)(x:adI):Prop:=stepW L m ξ n f ro mu ω ζ is k dst s K (.opt x σ)
def bP(ζ:adC)(is:adL)(k:adH)(dst:adF)(s:St)(K:adt)(σ:ab)(c:adQ):Prop:=stepW L m ξ n f ro mu ω ζ is k dst s K (.new σ c)
def vM(ζ:adC)(i:Nat)(is:adL)(k:adH)(o:Oper)(s:St)(K:adt)(x:Option Bool):Prop:=
 Jg x (if qd L o=true then sm (B7 L mu o s.env s.σ) (λa b=>bF L m ξ n ro mu ω f (.inRegion ζ is::k) {s with env:=bp s.env o.dst a,σ:=b} K) (λa b=>K (.panic a) {s with σ:=b})
        else if vL o.op=true then P7 (P:=P) m o s.env s.σ (λa b=>aa P m ξ n ro ω (.inRegion ζ is::k) {s with env:=bp s.env o.dst a,σ:=b} K) (λa b=>∀env,K (.panic a) {s with env,σ:=b})
        else aa P m ξ n ro ω (.inRegion ζ (i::is)::k) s K) (bF L m ξ n ro mu ω f (.inRegion ζ is::k) {s with env:=bp s.env o.dst (.lit (.tuple #[]))} K)
def aI(a b:Code)(k:adH)(s:St)(K:adt)(x:Bool):Prop:=vJ x (bF L m ξ n ro mu ω f (.code a::k) s K) (bF L m ξ n ro mu ω f (.code b::k) s K)
def Sw(P:adT)(m:Mo)(ξ n:Nat)(ro:adD)(ω:adB)(k:adH)(s:St)(K:adt):adu:=λenv σ=>aa P m ξ n ro ω k {s with env,σ} K
def Sx(s:St)(K:adt):adv:=λv σ=>∀env,K (.panic v) {s with env,σ}
variable{L m ξ n f ro mu ω}{s:St}{K:adt}{k:adH}{ζ:adC}{i:Nat}{is:adL}{dst:adF}{σ:ab}
@[simp] theorem U7{env}:Sw P m ξ n ro ω k s K env σ=aa P m ξ n ro ω k {s with env,σ} K:=propext abr
@[simp] theorem U8{v}:Sx s K v σ=∀env,K (.panic v) {s with env,σ}:=propext abr
@[simp] theorem U9{a}:stepW L m ξ n f ro mu ω ζ is k dst s K (.ok a σ)=bF L m ξ n ro mu ω f (.inRegion ζ is::k) {s with env:=bp s.env dst a,σ:=σ} K:=propext abr
@[simp] theorem Sz{p x}:stepW L m ξ n f ro mu ω ζ is k dst s K (.iT p x)=(p/\stepW L m ξ n f ro mu ω ζ is k dst s K x):=propext abr
@[simp] theorem T5{c}:stepW L m ξ n f ro mu ω ζ is k dst s K (.new σ c)=bP L m ξ n f ro mu ω ζ is k dst s K σ c:=propext abr
@[simp] theorem T6{x}:stepW L m ξ n f ro mu ω ζ is k dst s K (.opt x σ)=L0 L m ξ n f ro mu ω ζ is k dst s K σ x:=propext abr
@[simp] theorem T7{a}:L0 L m ξ n f ro mu ω ζ is k dst s K σ (some a)=bF L m ξ n ro mu ω f (.inRegion ζ is::k) {s with env:=bp s.env dst a,σ:=σ} K:=propext abr
@[simp] theorem T8:L0 L m ξ n f ro mu ω ζ is k dst s K σ none=False:=propext abr
@[simp] theorem Xp{c}[Decidable c]{x}:L0 L m ξ n f ro mu ω ζ is k dst s K σ (if c then x else none)=(c/\L0 L m ξ n f ro mu ω ζ is k dst s K σ x):=by by_cases h:c<;>simp[h]
def bP.intro{c}(h:∀b,σ b=none->bF L m ξ n ro mu ω f (.inRegion ζ is::k) {s with env:=bp s.env dst (.ref b 0),σ:=σ.set b (.cells c)} K):bP L m ξ n f ro mu ω ζ is k dst s K σ c:=h
@[simp] theorem Va{o}:vM L m ξ n f ro mu ω ζ i is k o s K (some true)=(if qd L o=true then stepW L m ξ n f ro mu ω ζ is k o.dst s K (B7 L mu o s.env s.σ)
   else if vL o.op=true then P7 (P:=P) m o s.env s.σ (λa σ'=>aa P m ξ n ro ω (.inRegion ζ is::k) {s with env:=bp s.env o.dst a,σ:=σ'} K) (λa σ'=>∀env,K (.panic a) {s with env,σ:=σ'})
   else aa P m ξ n ro ω (.inRegion ζ (i::is)::k) s K):=by unfold vM;rw[nT,oD];rfl
@[simp] theorem T9{o}:vM L m ξ n f ro mu ω ζ i is k o s K (some false)=bF L m ξ n ro mu ω f (.inRegion ζ is::k) {s with env:=bp s.env o.dst (.lit (.tuple #[]))} K:=by unfold vM;rw[nT,mV]
def vM.intro{o x}(a:x=true->vM L m ξ n f ro mu ω ζ i is k o s K (some true))(b:x=false->vM L m ξ n f ro mu ω ζ i is k o s K (some false)):vM L m ξ n f ro mu ω ζ i is k o s K (some x):=by cases x with|true=>exact a rfl|false=>exact b rfl
@[simp] theorem SA{a b}:aI L m ξ n f ro mu ω a b k s K true=bF L m ξ n ro mu ω f (.code a::k) s K:=by unfold aI;rw[oD]
@[simp] theorem RA{a b}:aI L m ξ n f ro mu ω a b k s K false=bF L m ξ n ro mu ω f (.code b::k) s K:=by unfold aI;rw[mV]
@[simp] theorem Ua{a b x}:aI L m ξ n f ro mu ω a b k s K (!x)=aI L m ξ n f ro mu ω b a k s K x:=by cases x<;>simp
def aI.intro{a b x}(c:x=true->bF L m ξ n ro mu ω f (.code a::k) s K)(d:x=false->bF L m ξ n ro mu ω f (.code b::k) s K):aI L m ξ n f ro mu ω a b k s K x:=⟨c,d⟩
@[simp] theorem Vb :bF L m ξ n ro mu ω (f+1) ([]) s K=K (.leave none) s:=propext abr
@[simp] theorem Vd :bF L m ξ n ro mu ω (f+1) (.code .ret::k) s K=K (.leave (some .ret)) s:=propext abr
@[simp] theorem Ub :bF L m ξ n ro mu ω (f+1) (.code .skip::k) s K=bF L m ξ n ro mu ω f k s K:=propext abr
@[simp] theorem SB{l}:bF L m ξ n ro mu ω (f+1) (.code (.label l)::k) s K=bF L m ξ n ro mu ω f k s K:=propext abr
@[simp] theorem P9{id}:bF L m ξ n ro mu ω (f+1) (.inBlock id::k) s K=bF L m ξ n ro mu ω f k s K:=propext abr
@[simp] theorem Ve{a b}:bF L m ξ n ro mu ω (f+1) (.code (.seq a b)::k) s K=bF L m ξ n ro mu ω f (.code a::.code b::k) s K:=propext abr
@[simp] theorem SC{id c}:bF L m ξ n ro mu ω (f+1) (.code (.block id c)::k) s K=bF L m ξ n ro mu ω f (.code c::.inBlock id::k) s K:=propext abr
@[simp] theorem SD{c}:bF L m ξ n ro mu ω (f+1) (.code (.scope c)::k) s K=bF L m ξ n ro mu ω f (.code c::.inScope c::k) s K:=propext abr
@[simp] theorem Uc{id}:bF L m ξ n ro mu ω (f+1) (.code (.exit id)::k) s K=(match exitTo id k with
   |some k'=>bF L m ξ n ro mu ω f k' s K
   |none=>K (.leave (some (.exit id))) s):=propext abr
@[simp] theorem Ud{c a b}:bF L m ξ n ro mu ω (f+1) (.code (.cond c a b)::k) s K=(Operand.ok n c=true/\(match ak s.env c with
   |.lit (.bool x)=>aI L m ξ n f ro mu ω a b k s K x
   |_=>False)):=propext abr
@[simp] theorem RB{id}:bF L m ξ n ro mu ω (f+1) (.code (.region id ζ false)::k) s K=bF L m ξ n ro mu ω f (.inRegion ζ (List.range ζ.size)::k) s K:=propext abr
@[simp] theorem Ue{id}:bF L m ξ n ro mu ω (f+1) (.code (.region id ζ true)::k) s K=(match ω.find? λe=>e.id==id with
   |some ⟨_,p⟩=>iL L m mu ζ n (Sx s K) p s.env s.σ (Sw P m ξ n ro ω k s K)
   |none=>aa P m ξ n ro ω (.code (.region id ζ true)::k) s K):=propext abr
@[simp] theorem L1 :bF L m ξ n ro mu ω (f+1) (.inRegion ζ []::k) s K=bF L m ξ n ro mu ω f k s K:=propext abr
@[simp] theorem PL :bF L m ξ n ro mu ω (f+1) (.inRegion ζ (i::is)::k) s K=(match ζ[i]? with
   |some o=>Oper.ok n o=true/\vM L m ξ n f ro mu ω ζ i is k o s K (xX ζ n s.env o)
   |none=>aa P m ξ n ro ω (.inRegion ζ (i::is)::k) s K):=propext abr
@[simp] theorem Uf{c}:bF L m ξ n ro mu ω (f+1) (.code (.loop c)::k) s K=aa P m ξ n ro ω (.code (.loop c)::k) s K:=propext abr
@[simp] theorem RD{c}:bF L m ξ n ro mu ω (f+1) (.inLoop c::k) s K=aa P m ξ n ro ω (.inLoop c::k) s K:=propext abr
@[simp] theorem L2{x a c d}:bF L m ξ n ro mu ω (f+1) (.code (.rangeFunc x a c d)::k) s K=aa P m ξ n ro ω (.code (.rangeFunc x a c d)::k) s K:=propext abr
@[simp] theorem Lz :bF L m ξ n ro mu ω (f+1) (.beginRound::k) s K=aa P m ξ n ro ω (.beginRound::k) s K:=propext abr
end
section
variable{P:adT}(L:jJ P)(m:Mo)(n:Nat)(mu:adL)(ζ:adC)(Kp:adv)(R:adu)
def ya(lt:Bool)(σ:ab)(p:oB)(S:adL)(env:Env):Prop:=B8 L mu ζ n lt σ (λa=>iL L m mu ζ n Kp p a σ R) .mk S env
def DJ(lt:Bool)(σ:ab)(p:oB)(S:adL)(dst:adF)(env:Env)(x:adI):Prop:=Ab x λa=>ya L m n mu ζ Kp R lt σ p S (bp env dst a)
def PM(lt:Bool)(σ:ab)(p:oB)(S:adL)(o:Oper)(env:Env)(x:Option Bool):Prop:=Jg x (DJ L m n mu ζ Kp R lt σ p S o.dst env (F4 L mu lt o env σ)) (ya L m n mu ζ Kp R lt σ p S (bp env o.dst (.lit (.tuple #[]))))
def vN(p:oB)(dst:adF)(env:Env)(x:Out):Prop:=sm x (λa b=>iL L m mu ζ n Kp p (bp env dst a) b R) Kp
def Vf(p:oB)(dst:adF)(env:Env)(σ:ab)(x:adI):Prop:=vN L m n mu ζ Kp R p dst env (.opt x σ)
def rA(p:oB)(dst:adF)(env:Env)(σ:ab)(c:adQ):Prop:=vN L m n mu ζ Kp R p dst env (.new σ c)
def RE(i:Nat)(p:oB)(o:Oper)(env:Env)(σ:ab)(x:Option Bool):Prop:=
 Jg x (if qd L o=true then sm (B7 L mu o env σ) (λa b=>iL L m mu ζ n Kp p (bp env o.dst a) b R) Kp else
    if vL o.op=true then P7 (P:=P) m o env σ (λa b=>aM P m ζ n Kp p (bp env o.dst a) b R) Kp else jQ P m ζ n Kp i env σ (λenv σ=>aM P m ζ n Kp p env σ R)) (iL L m mu ζ n Kp p (bp env o.dst (.lit (.tuple #[]))) σ R)
variable{L m n mu ζ Kp R}{i:Nat}{lt:Bool}{env:Env}{σ:ab}{p q:oB}{S:adL}{dst:adF}
@[simp] theorem Ug:iL L m mu ζ n Kp .done env σ R=R env σ:=propext abr
@[simp] theorem Uh:iL L m mu ζ n Kp (.take S lt p) env σ R=ya L m n mu ζ Kp R lt σ p S env:=propext abr
@[simp] theorem Vg:iL L m mu ζ n Kp (.one i p) env σ R=(match ζ[i]? with|some o=>Oper.ok n o=true/\RE L m n mu ζ Kp R i p o env σ (xX ζ n env o)|none=>False):=propext abr
@[simp] theorem Ui:iL L m mu ζ n Kp (.both i p q) env σ R=((match ζ[i]? with|some o=>Oper.ok n o=true/\RE L m n mu ζ Kp R i p o env σ (xX ζ n env o)|none=>False)/\iL L m mu ζ n Kp q env σ R):=propext abr
@[simp] theorem Uj:ya L m n mu ζ Kp R lt σ p [] env=iL L m mu ζ n Kp p env σ R:=propext abr
@[simp] theorem SE:ya L m n mu ζ Kp R lt σ p (i::S) env=(match ζ[i]? with|some o=>(Oper.ok n o && o.dst.isSome)=true/\PM L m n mu ζ Kp R lt σ p S o env (xX ζ n env o)|none=>False):=propext abr
@[simp] theorem Uk{a}:DJ L m n mu ζ Kp R lt σ p S dst env (some a)=ya L m n mu ζ Kp R lt σ p S (bp env dst a):=by unfold DJ;rw[Je]
@[simp] theorem Ul:DJ L m n mu ζ Kp R lt σ p S dst env none=False:=by unfold DJ;rw[Jf]
@[simp] theorem Xq{c}[Decidable c]{x}:DJ L m n mu ζ Kp R lt σ p S dst env (if c then x else none)=(c/\DJ L m n mu ζ Kp R lt σ p S dst env x):=by by_cases h:c<;>simp[h]
@[simp] theorem Vh{o}:PM L m n mu ζ Kp R lt σ p S o env (some true)=DJ L m n mu ζ Kp R lt σ p S o.dst env (F4 L mu lt o env σ):=by unfold PM;rw[nT,oD]
@[simp] theorem Um{o}:PM L m n mu ζ Kp R lt σ p S o env (some false)=ya L m n mu ζ Kp R lt σ p S (bp env o.dst (.lit (.tuple #[]))):=by unfold PM;rw[nT,mV]
def PM.intro{o x}(a:x=true->PM L m n mu ζ Kp R lt σ p S o env (some true))(b:x=false->PM L m n mu ζ Kp R lt σ p S o env (some false)):PM L m n mu ζ Kp R lt σ p S o env (some x):=by cases x with|true=>exact a rfl|false=>exact b rfl
@[simp] theorem Vi{a}:vN L m n mu ζ Kp R p dst env (.ok a σ)=iL L m mu ζ n Kp p (bp env dst a) σ R:=propext abr
@[simp] theorem SF{c x}:vN L m n mu ζ Kp R p dst env (.iT c x)=(c/\vN L m n mu ζ Kp R p dst env x):=propext abr
@[simp] theorem Uo{c}:vN L m n mu ζ Kp R p dst env (.new σ c)=rA L m n mu ζ Kp R p dst env σ c:=propext abr
@[simp] theorem Up{x}:vN L m n mu ζ Kp R p dst env (.opt x σ)=Vf L m n mu ζ Kp R p dst env σ x:=propext abr
@[simp] theorem Uq{a}:Vf L m n mu ζ Kp R p dst env σ (some a)=iL L m mu ζ n Kp p (bp env dst a) σ R:=propext abr
def rA.intro{c}(h:∀b,σ b=none->iL L m mu ζ n Kp p (bp env dst (.ref b 0)) (σ.set b (.cells c)) R):rA L m n mu ζ Kp R p dst env σ c:=h
@[simp] theorem Vj{o}:RE L m n mu ζ Kp R i p o env σ (some true)=(if qd L o=true then vN L m n mu ζ Kp R p o.dst env (B7 L mu o env σ)else
   if vL o.op=true then P7 (P:=P) m o env σ (λa σ'=>aM P m ζ n Kp p (bp env o.dst a) σ' R) Kp else jQ P m ζ n Kp i env σ (λenv σ=>aM P m ζ n Kp p env σ R)):=by unfold RE;rw[nT,oD];rfl
@[simp] theorem Ur{o}:RE L m n mu ζ Kp R i p o env σ (some false)=iL L m mu ζ n Kp p (bp env o.dst (.lit (.tuple #[]))) σ R:=by unfold RE;rw[nT,mV]
end
@[simp] theorem SG{l c}(h:c.length=l.length):aG l 0 c=c:=by unfold aG;simp[h]
@[simp high] theorem F6{l off v}(h:off<l.length):aG l off [v]=l.set off v:=by unfold aG;rw[acn,zR h];simp
attribute [simp] F4 wD lx xQ B7 qd xX vL P7 P1 F3 Function.comp_def
def oE(P:adT)(t:TypeId)(name:String)(f:FuncId)(a a':AV):Prop:=∀k O v (K:FuncId × Value->ar->aj->Prop) Kp,V k v a->(∀r,V k r a'->K (f,r) k O)->dT P (method (P.types.size+Made.depth) t v name) k O K Kp
section
variable{P:adT}{m:Mo}{ξ n:Nat}{ro:adD}{ω:adB}{s:St}{K:adt}{k:adH}
def rL{name recv c a}:Go.invoke (.fn (.method name) c) (#[recv]++a)=callMethod recv name a:=by
 have b:(#[recv]++a)[0]?=some recv:=by grind
 have d:(#[recv]++a).extract 1 (#[recv]++a).size=a:=by simp_all
 simp only[Go.invoke,b,d]
def aa.invoke{ζ i is o recv name args B}{t f:Nat}{a a' fn}(N:ζ[i]?=some o)(C:o.op=.call ⟨.invoke recv name,args,B⟩)(hg:o.guard=none)(D:Oper.ok n o=true)
 (W:ak s.env recv=.mL t a) (X:oE P t name f a a') (Y:P.funcs[f]?=some fn) (hb:fn.body.isSome=true) (E:(fn.name==  "runtime.NumGoroutine")=false)
 (h:aB P m f (a'::args.toList.map (ak s.env)) s.σ (λr σ'=>match r with|.val x=>aa P m ξ n ro ω (.inRegion ζ is::k) {s with env:=bp s.env o.dst x,σ:=σ'} K|.panic v=>K (.panic v) {s with σ:=σ'})):
 aa P m ξ n ro ω (.inRegion ζ (i::is)::k) s K:=λF Q kk O η θ τ cs Z d R=>by
 have hw:bZ ζ n s.env o:=by unfold bZ;simp_all
 refine T.oy (λw=>ew N (iC d.size d.env hw) (.inr λc e=>by simp_all) w) (dZ ?_)
 have g:∀x∈o.op.operands,V kk (Frame.eval ⟨ξ,η,.inRegion ζ (i::is)::k,θ,.run,τ,ro⟩ x) (ak s.env x):=λx S=>by
  refine V.eval d.env d.size x ?_;simp only[Oper.ok,wL,abn]at D
  grind
 have y:=g recv (by simp_all)
 rw[W]at y;have l:=Vs.ofArray (k:=kk) (ρ:=Frame.eval ⟨ξ,η,.inRegion ζ (i::is)::k,θ,.run,τ,ro⟩) (env:=s.env) (xs:=args) (λx S=>g x (by simp_all))
 generalize hq:Frame.eval _ recv=cf at y;cases y with
 | mL _ v _ H=>
   simp only[execOp,C,resolve,hq];refine af (ag ?_);rw[rL];unfold callMethod;simp only;refine af (bz ?_);refine af (X kk O v _ _ H λr I=>?_)
   simp only[callFunc];refine af (bz ?_);rw[Y];have J:fn.body.isNone=false:=by cases S:fn.body<;>simp_all
   simp only[E,J,zs,zD];refine ag λ_=>⟨by simp,?_⟩
   have e:#[r]++args.map (Frame.eval ⟨ξ,η,.inRegion ζ (i::is)::k,θ,.run,τ,ro⟩)=(r::(args.map (Frame.eval ⟨ξ,η,.inRegion ζ (i::is)::k,θ,.run,τ,ro⟩)).toList).toArray:=by simp
   rw[e];refine h Q kk O _ ⟨ξ,η,.inRegion ζ (i::is)::k,θ,.run,τ,ro⟩ (gJ s.rc cs) .normal (by simp) (.cons I ⟨by grind,λj v a y ha=>l.2 j v a (by grind) ha⟩) d.rel ?_ ?_
   . intro z A L U σ' b p q M
     obtain⟨u,e1,e2⟩:=d.put (ξ:=ξ) (ro:=ro) (μ:=is) (kk:=k) b N p q;show T P m Q z A (G (Frame.finish ⟨ξ,η,.inRegion ζ (i::is)::k,θ,.run,τ,ro⟩ L) (gJ s.rc cs));rw[e1];exact M (by simpa[kh,lE]using F) Q z A u θ τ cs Z e2 (R.mono b)
   intro z A L U σ' b p q M;exact R.panic z A η θ {s with σ:=σ'} _ L U b ⟨d.size,d.env.mono b,q,d.ds.mono b,d.rc.mono b⟩ p M
def cd{ζ env o}(a:o.guard=none):bZ ζ n env o:=by unfold bZ;simp_all
def aa.defer{ζ i is o fo args a f first cap}(b:ro=none)(j:ζ[i]?=some o)(c:o.op=.defer ⟨.value fo,args,a⟩)(l:o.guard=none)(d:Oper.ok n o=true)
 (e:ak s.env fo=.fn f first cap) (h:aa P m ξ n ro ω (.inRegion ζ is::k) {s with env:=bp s.env o.dst .cJ,D:=.call f cap (first++args.toList.map (ak s.env))::s.D} K):aa P m ξ n ro ω (.inRegion ζ (i::is)::k) s K:=
 λg=>Go.defer b j c (cd l) d e (h (by simpa[kh,lE]using g))
end
def HU(F a:adG)(σ σ':ab):Prop:=∀b x,¬F b->σ b=some x->σ' b=some x/\¬a b
def bC:AV->adD
 |.sl _ _ (.tok b _)=>some b
 |_=>none
def ab.off(σ:ab)(a:AV):ab:=match bC a with|some b=>σ.del b|none=>σ
def Tok.here{σ0 σ a kk es}(h:Tok σ0 σ a kk es):Tok (σ.off a) σ a kk es/\σ0.Le (σ.off a):=by
 obtain⟨d,g⟩:=h;rcases g with⟨rfl,rfl⟩|rfl|⟨b,e,k,rfl,i⟩
 . exact⟨⟨ab.le_refl _,.inl ⟨rfl,rfl⟩⟩,d⟩
 . exact⟨⟨ab.le_refl _,.inr (.inl rfl)⟩,d⟩
 refine⟨⟨λc x f=>?_,.inr (.inr ⟨b,e,by simp[ab.off,bC,ab.del],rfl,i⟩)⟩,λc x f=>?_⟩
 . simp only[ab.off,bC,ab.del]at f
   simp_all
 have j:c≠b:=λe=>by simp_all
 simp only[ab.off,bC,ab.del,j,zD];exact d c x f
def Tok.base{σ0 σ1 σ a kk es}(h:Tok σ1 σ a kk es)(c:σ0.Le σ1):Tok σ0 σ a kk es:=by
 obtain⟨d,f⟩:=h;refine⟨ab.le_trans c d,?_⟩;rcases f with h|h|⟨b,e,j,g,i⟩
 . exact .inl h
 . simp_all
 refine .inr (.inr ⟨b,e,?_,g,i⟩);cases hb:σ0 b with
 |none=>rfl
 |some x=>have:=c b x hb;simp_all
def Tok.beside{σ0 σ a kk es}(h:Tok σ0 σ a kk es){b x}(hb:σ0 b=none)(ht:bC a≠some b):Tok σ0 (σ.set b x) a kk es:=by
 obtain⟨d,f⟩:=h;refine⟨ab.dQ d hb,?_⟩;rcases f with h|h|⟨c,e,g,rfl,i⟩
 . exact .inl h
 . simp_all
 refine .inr (.inr ⟨c,e,g,rfl,?_⟩);have j:c≠b:=λe=>ht (by simp[bC,e])
 rw[ab.ah _ _ j];exact i
def Tok.bf{σ0 σ a kk es}(h:Tok σ0 σ a kk es){b}(hb:bC a=some b):σ0 b=none/\∃e,σ b=some (.tail e):=by
 obtain⟨f,d⟩:=h;rcases d with⟨rfl,rfl⟩|rfl|⟨c,e,g,rfl,i⟩
 . cases hb
 . cases hb
 simp only[bC,kn]at hb
 simp_all
def Tok.cells{σ0 σ a kk es}(h:Tok σ0 σ a kk es):a.cells=[a]/\a.flat=true:=by
 obtain⟨_,b⟩:=h;rcases b with⟨rfl,rfl⟩|rfl|⟨c,e,d,rfl,f⟩<;>exact⟨rfl,rfl⟩
def ab.eh{σ:ab}{a b}(h:bC a≠some b):σ.off a b=σ b:=by
 unfold ab.off;cases d:bC a with
 |none=>rfl
 | some c=>
   have:b≠c:=λe=>h (by rw[d,e])
   simp[ab.del,this]
def ab.SH{σ:ab}{a b x}(h:σ.off a b=some x):σ b=some x:=by
 unfold ab.off at h;cases d:bC a with
 |none=>simp_all
 | some c=>
   rw[d]at h;simp only[ab.del]at h
   simp_all
def bd:AV->adD
 |.fN b _ _ _=>some b
 |_=>none
def ab.sn(σ:ab)(a:AV):ab:=match bd a with|some b=>σ.del b|none=>σ
def ab.gk{σ:ab}{a b}(h:bd a≠some b):σ.sn a b=σ b:=by
 unfold ab.sn;cases d:bd a with
 |none=>rfl
 | some c=>
   have:b≠c:=λe=>h (by rw[d,e])
   simp[ab.del,this]
def ab.Qa{σ:ab}{a}:(σ.sn a).Le σ:=λb x h=>by
 unfold ab.sn at h;cases d:bd a with
 |none=>rw[d]at h;exact h
 | some c=>
   rw[d]at h;simp only[ab.del]at h;split at h
   . cases h
   exact h
def bj.cells{σ0 σ a kk es}(h:bj σ0 σ a kk es):a.cells=[a]/\a.flat=true:=by
 obtain⟨_,b⟩:=h;rcases b with⟨_,rfl|rfl⟩|⟨c,cap,μ,rfl,_⟩<;>exact⟨rfl,rfl⟩
def bj.cx{σ0 σ a kk es}(h:bj σ0 σ a kk es){b}(hb:bd a=some b):σ0 b=none/\∃l,σ b=some (.cells l):=by
 obtain⟨g,d⟩:=h;rcases d with⟨_,rfl|rfl⟩|⟨c,cap,μ,rfl,e,_,_,f,_⟩
 . cases hb
 . cases hb
 simp only[bd,kn]at hb;subst hb;exact⟨e,_,f⟩
def bj.here{σ0 σ a kk es}(h:bj σ0 σ a kk es):bj (σ.sn a) σ a kk es/\σ0.Le (σ.sn a):=by
 obtain⟨d,e⟩:=h;refine⟨⟨ab.Qa,?_⟩,λc x f=>?_⟩
 . rcases e with h|⟨b,cap,μ,rfl,m,i,j,k,l⟩
   . exact .inl h
   exact .inr ⟨b,cap,μ,rfl,by simp[ab.sn,bd,ab.del],i,j,k,l⟩
 by_cases g:bd a=some c
 . have:=(bj.cx ⟨d,e⟩ g).1
   rw[f]at this;cases this
 rw[ab.gk g];exact d c x f
def bj.base{σ0 σ1 σ a kk es}(h:bj σ1 σ a kk es)(c:σ0.Le σ1):bj σ0 σ a kk es:=by
 obtain⟨d,e⟩:=h;refine⟨ab.le_trans c d,?_⟩;rcases e with h|⟨b,cap,μ,rfl,f,g,i,j,k⟩
 . exact .inl h
 refine .inr ⟨b,cap,μ,rfl,?_,g,i,j,k⟩;cases hb:σ0 b with
 |none=>rfl
 |some x=>have:=c b x hb;rw[f]at this;cases this
def bj.beside{σ0 σ a kk es}(h:bj σ0 σ a kk es){b x}(hb:σ0 b=none)(ht:bd a≠some b):bj σ0 (σ.set b x) a kk es:=by
 obtain⟨d,f⟩:=h;refine⟨ab.dQ d hb,?_⟩;rcases f with h|⟨c,cap,μ,rfl,g,i,j,k,l⟩
 . exact .inl h
 refine .inr ⟨c,cap,μ,rfl,g,i,j,?_,l⟩;have m:c≠b:=λe=>ht (by simp[bd,e])
 rw[ab.ah _ _ m];exact k
def bj.keep{σ0 σ σ1 σ' a kk es}(h:bj σ0 σ a kk es)(d:σ1.Le σ')(hb:∀b,bd a=some b->σ' b=σ b/\σ1 b=none):bj σ1 σ' a kk es:=by
 obtain⟨k,e⟩:=h;refine⟨d,?_⟩;rcases e with h|⟨c,cap,μ,rfl,l,f,g,i,j⟩
 . exact .inl h
 exact .inr ⟨c,cap,μ,rfl,(hb c rfl).2,f,g,by rw[(hb c rfl).1];exact i,j⟩
inductive Wl:adQ->adQ->Prop
 |nil:Wl [] []
 |cons {a a':AV}{l l':adQ}:a.W a'->Wl l l'->Wl (a::l) (a'::l')
def Wl.len{l l'}(h:Wl l l'):l.length=l'.length:=by
 induction h with
 |nil=>rfl
 |cons _ _ a=>simp[a]
def Wl.at{l l'}(h:Wl l l'):∀{i:Nat}{a'},l'[i]?=some a'->∃a,l[i]?=some a/\a.W a':=by
 induction h with
 |nil=>simp_all
 |@cons a b l l' c d e=>grind
def Vs.AL{k c l l'}(h:Vs k c l)(e:Wl l l'):Vs k c l':=⟨by rw[h.1,e.len],λi v a f ha=>by obtain⟨b,hb,d⟩:=e.at ha;exact d k v (h.2 i v b f hb)⟩
def aB.AL{P m f args args' σ b}(h:aB P m f args' σ b)(d:Wl args args'):aB P m f args σ b:=λQ k O a c μ τ e g i j l=>h Q k O a c μ τ e (g.AL d) i j l
def cA{P m f fn args args' σ b}(c:P.funcs[f]?=some fn)(hb:fn.body.isSome=true)(a:(fn.name==  "runtime.NumGoroutine")=false)(d:Wl args args')(h:aB P m f args' σ b):
 cq P m (.fn (.func f) [] []) args σ b:=an c hb a (h.AL d)
def ar.L3(k:ar)(r:Nat)(c:ady)(f:Nat->adx):ar:={k with cell:=λb j=>if b=r/\f j=none then c[j]? else k.cell b j}
def F7{k O r c e f}(p:O r=some (.obj (.cells c e (0,0))))(B:k.sh r=some (e,c.size))(C:∀i v,f i=some v->c[i]?=some v):lu k O (k.L3 r c f) (O.set r (.part f)):=λw h=>by
 have y:=h.obj _ _ p
 have D:∀j,k.cell r j=none:=λj=>by
  cases q:k.cell r j with
  |none=>rfl
  |some v=>exact(h.apart _ _ _ q (.inl ⟨_,p⟩)).elim
 have t:k.Le (k.L3 r c f):=⟨λb i v l=>by
  have:¬(b=r/\f i=none):=λx=>by simp_all
  simpa[ar.L3,this]using l,λ_ _ h=>h⟩
 have n:∀b,b≠r->(O.set r (.part f)) b=O b:=λb hb=>by simp[aj.set,hb]
 have d:(O.set r (.part f)) r=some (.part f):=by simp[aj.set]
 refine⟨⟨λb i v l z=>?_,λb i v l=>?_,h.sh,λb o hb=>?_,λb m hb=>?_,λb g hb=>?_⟩,⟨t,aaG _,λ_ _ _=>rfl,λ_ _ _ _ c _ h=>⟨c,h,rfl,λ_ _=>rfl⟩,λ_ _ _ _ c _ h=>⟨c,h,rfl,λ_ _=>rfl⟩,λ_ _=>rfl,λb x A=>?_,λb i v l=>?_,λ_ _ h=>.inl h,by simp,rfl,rfl,rfl,by simp,λb g hb=>?_⟩⟩
 . by_cases hb:b=r
   . subst hb
     rcases z with⟨o,s⟩|⟨m,s,E⟩|⟨g,s,E⟩
     . simp_all
     . simp_all
     rw[d]at s;cases s;simp only[ar.L3,true_and]at l
     simp_all
   have u:k.cell b i=some v:=by simpa[ar.L3,hb]using l
   exact h.apart b i v u (by simpa[aV,aj.set,hb]using z)
 . by_cases hb:b=r/\f i=none
   . obtain⟨rfl,F⟩:=hb
     simp only[ar.L3,F,and_self,Rp]at l;simp[World.cell?,y,l]
   exact h.cell b i v (by simpa only[ar.L3,hb,zD]using l)
 . by_cases a:b=r
   . simp_all
   exact h.obj b o (by simp_all)
 . by_cases a:b=r
   . simp_all
   exact h.tail b m (by simp_all)
 . by_cases a:b=r
   . subst a;rw[d]at hb;cases hb
     exact⟨c,e,y,B,C⟩
   exact h.part b g (by simp_all)
 . by_cases a:b=r
   . subst a;exact .inl ⟨_,p,trivial⟩
   rw[n b a]at A;exact .inl ⟨x,A,.refl x⟩
 . by_cases hb:b=r/\f i=none
   . obtain⟨rfl,_⟩:=hb;exact .inr (.inl (.inl ⟨_,p⟩))
   exact .inl (by simpa only[ar.L3,hb,zD]using l)
 grind
section
variable{P:adT}{m:Mo}{Q:adl}{k:ar}{O:aj}{g:adJ}{σ:ab}
def T.part{r c e f}(d:O r=some (.obj (.cells c e (0,0))))(p:∀i v,f i=some v->c[i]?=some v)(b:g.status=.running)
 (h:∀k' O',k.Le k'->k'.sh r=some (e,c.size)->(∀j v,f j=none->c[j]?=some v->k'.cell r j=some v)->O'=O.set r (.part f)->T P m Q k' O' g):T P m Q k O g:=by
 by_cases a:∃w,Sat k O w
 . obtain⟨w,l⟩:=a
   have q:=(kJ (k:=k) d w l).2.le;have o:=F7 (k:=k.fq r (e,c.size)) (f:=f) d (by simp[ar.fq]) p;have n:(k.fq r (e,c.size)).Le ((k.fq r (e,c.size)).L3 r c f):=(o w (kJ (k:=k) d w l).1).2.le;exact .ghost (kJ d) (.ghost o (h _ _ (q.trans n) (by simp[ar.L3,ar.fq]) (λj v s t=>by simp[ar.L3,s,t]) rfl))
 exact .step (λ_ _ _=>False) b (λ_ _ _ h=>h.elim) λw l=>absurd ⟨w,l⟩ a
def T.RF{b l hole f}(r:Rel k O σ)(hb:σ b=some (.cells l))(w:∀i v,f i=some v->l[i]?=some (.lit v))(E:∀i,f i=none↔i∉hole)(o:g.status=.running)
 (h:∀k' O',k.Le k'->(∀off,V k' (.pointer (some ⟨b,off,none⟩)) (.kp b l hole off))->Rel k' O' (σ.set b (.part f))->T P m Q k' O' g):T P m Q k O g:=by
 obtain⟨y,x,z⟩:=r.1 b _ hb (by simp);cases z with
 | cells c e _ F s A=>
   refine T.part (f:=f) x (λi v B=>?_) o λk' O' n p G q=>?_
   . have C:=w i v B
     have d:i<c.size:=by grind
     have t:=s i c[i] _ (by simp[d]) C;have:c[i]=v:=by generalize c[i]=u at t;cases t;rfl
     grind
   refine h k' O' n (λoff=>.kp b off c.size e l hole (λj=>c.getD j undef) p (by omega) (λj H D=>?_) (λj a D ha=>?_)) ?_
   . have d:j<c.size:=by omega
     refine⟨?_,?_⟩
     . simp_all
     simp only[Array.getD,d,dif_pos];exact A j _ (by simp[d])
   . have d:j<c.size:=by grind
     simp only[Array.getD,d,dif_pos];exact(s j _ a (by simp[d]) ha).mono n
   rw[q];exact(r.mono n).set (.part f)
def aB.share{f args j KF0}(h:aB P m f args σ KF0)
 (u:∀r σ',KF0 r σ'->j r σ'\/∃b l hole F,r=.val (.ref b 0)/\σ' b=some (.cells l)/\(∀i v,F i=some v->l[i]?=some (.lit v))/\(∀i,F i=none↔i∉hole)/\j (.val (.kp b l hole 0)) (σ'.set b (.part F))):aB P m f args σ j:=by
 intro Q k O a c μ τ w x y z H;refine h Q k O a c μ τ w x y (λA B C D σ' d s t n=>?_) (λA B C D σ' d s t n=>?_)
 . rcases u _ _ n with n|⟨b,l,hole,F,e,hb,E,G,o⟩
   . grind
   cases e;cases s;exact T.RF t hb E G (by cases τ<;>rfl) λI J g p q=>z _ _ _ _ _ (d.trans g) (p 0) q o
 grind
end
structure Jh(P:adT)(mt kt et:Nat){κ:Type}[BEq κ](ka:κ->AV)(kv:κ->Value):Prop where
 hm:P.underlying mt=some (.map kt et)
 hk:∃fs,P.underlying kt=some (.struct fs)
 val:∀{k v n},V k v (ka n)->v=kv n
 AM:∀{k O Kp b n K},K () k O->dT P (Instr.checkKey b 10000 kt (kv n)) k O K Kp
 eq:∀{k O Kp a b K},K (a==b) k O->dT P (Op.equal kt (kv a) (kv b)) k O K Kp
section
variable{κ:Type}[BEq κ]{ka:κ->AV}{kv:κ->Value}
def nC(ka:κ->AV)(l:List (κ × AV)):nz:=.map (l.map λp=>(ka p.1,p.2))
def dC(l:List (κ × AV))(n:κ):adI:=(l.find? λp=>n==p.1).map (·.2)
variable{P:adT}(L:jJ P){k:ar}{O:aj}{Kp:adm}{mt kt et:Nat}
def cI{K}{t:Nat}{d}(a:P.underlying t=some d)(h:K d k O):dT P (underlying t) k O K Kp:=by unfold underlying;refine af (bz ?_);rw[a];exact h
def pD(M:Jh P mt kt et ka kv){n K}:∀  es   l   j ,es.length=l.length->(∀(j:Nat) e p,es[j]?=some e->l[j]?=some p->V k e.key (ka p.1)/\V k e.val p.2) ->
 (∀a v j,dC l n=some a->V k v a->K (some (j,v)) k O)->(dC l n=none->K none k O)->dT P (Instr.findAsking kt (kv n) es j) k O K Kp
 |[],[],j,_,_,_,h=>by rw[Instr.findAsking];exact ag (h rfl)
 | e ::es,p::l,j,o,d,b,f=>by
   obtain⟨g,i⟩:=d 0 e p rfl rfl;rw[Instr.findAsking,M.val g];refine af (M.eq ?_);cases c:(n==p.1)with
   |true=>simp only[Rp];exact ag (b p.2 _ _ (by simp[dC,c]) i)
   | false=>
     simp only[zs,zD];have m:dC (p::l) n=dC l n:=by simp[dC,c]
     rw[m]at b f;exact pD M es l (j+1) (by simp_all) (λj e p q c=>d (j+1) e p (by simp_all) (by simp_all)) b f
 |[],_::_,_,h,_,_,_=>by simp at h
 |_::_,[],_,h,_,_,_=>by simp at h
def th(M:Jh P mt kt et ka kv){n K es l}(b:es.length=l.length)(d:∀(j:Nat) e p,es[j]?=some e->l[j]?=some p->V k e.key (ka p.1)/\V k e.val p.2)
 (f:∀a v j,dC l n=some a->V k v a->K (some (j,v)) k O) (c:dC l n=none->K none k O):dT P (Instr.findKey kt (kv n) es) k O K Kp:=by
 obtain⟨fs,g⟩:=M.hk;unfold Instr.findKey;refine af (cI g ?_);cases es with
 | nil=>
   cases l with
   |nil=>exact ag (c rfl)
   |cons p l=>simp at b
 | cons e es=>
   have:Instr.findNow (.struct fs) (kv n) (e::es) 0=none:=by simp[Instr.findNow,Instr.sameNow]
   rw[this];exact pD M _ l 0 b d f c
omit [BEq κ] in
def HV{σ}(c:Rel k O σ){b l}(hb:σ b=some (nC ka l)):∃es clock,O b=some (.obj (.map es clock))/\es.toList.length=l.length/\∀(j:Nat) e p,es.toList[j]?=some e->l[j]?=some p->V k e.key (ka p.1)/\V k e.val p.2:=by
 obtain⟨x,d,a⟩:=c.1 b _ hb (by simp[nC]);unfold nC at a;cases a with
 | map es clock m f g=>
   refine⟨es,clock,d,by simpa using f,λj e p h i=>?_⟩;exact g j e (ka p.1,p.2) (by simpa using h) (by simp[i])
variable{o:Oper}{env:Env}{σ:ab}{K Kq:adv}
def yc(M:Jh P mt kt et ka kv){p x m b l n two}(y:o.op=.lookup mt x m two)(q:L.tt et=some p)(z:ak env x=.map b)(hi:ak env m=ka n)(hb:σ b=some (nC ka l))
 (e:K (if two then .cH [(dC l n).getD (lY p.zero),.lit (.bool (dC l n).isSome)]else(dC l n).getD (lY p.zero)) σ):aJ P o env σ K Kq:=
 aJ.val (s:=λf=>Instr.lookup mt (f x) (f m) two) (λf=>by simp[execOp,y]) λk O f g h=>by
  have r:=g x (by simp_all);have w:=g m (by simp_all);rw[z]at r;rw[hi]at w;rw[M.val w];generalize f x=F at r;cases r;obtain⟨es,clock,A,B,C⟩:=HV h hb;unfold Instr.lookup;refine af (cI M.hm ?_);simp only;refine af (s:=getObj b) ⟨_,A,rfl,ag ?_⟩;refine af (ag ?_);refine af (M.AM ?_);refine af (th M B C (λa v j t D=>?_) (λt=>?_))
  . simp only
    refine af (ag ?_);rw[t]at e;cases two with
    |false=>exact ag (.here ⟨.refl k,_,σ,D,h,e⟩)
    |true=>
    refine ag (.here ⟨.refl k,_,σ,.cH _ _ rfl (λi u E d c=>?_),h,e⟩)
    match i with
    |0=>simp_all
    |1=>simp at d c;subst d;subst c;exact .lit _
    |i+2=>simp at c
  simp only;refine af (de L q ?_);refine af (ag ?_);rw[t]at e;cases two with
  |false=>exact ag (.here ⟨.refl k,_,σ,.lY k _,h,e⟩)
  |true=>
  refine ag (.here ⟨.refl k,_,σ,.cH _ _ rfl (λi u E d c=>?_),h,e⟩)
  match i with
  |0=>simp at d c;subst d;subst c;exact .lY k _
  |1=>simp at d c;subst d;subst c;exact .lit _
  |i+2=>simp at c
def rN(M:Jh P mt kt et ka kv){x f y b l n a}(r:o.op=.mapUpdate mt x f y)(t:ak env x=.map b)(hi:ak env f=ka n)(u:ak env y=a)(hb:σ b=some (nC ka l))(F:dC l n=none)
 (w:K (.lit undef) (σ.set b (nC ka (l++[(n,a)])))):aJ P o env σ K Kq:=λk O d c m=>by
 have g:=c x (by simp_all);have h:=c f (by simp_all);have z:=c y (by simp_all);rw[t]at g;rw[hi]at h;rw[u]at z;have A:execOp d o=(do Instr.mapUpdate mt (d x) (d f) (d y);pure .skip):=by simp[execOp,r]
 rw[A];have i:=h;rw[M.val h]at i ⊢;generalize d x=G at g;cases g;obtain⟨es,clock,q,B,C⟩:=HV m hb;unfold Instr.mapUpdate;refine af (af (cI M.hm ?_));simp only;refine af (s:=getObj b) ⟨_,q,rfl,ag ?_⟩;simp only;refine af (M.AM ?_);refine af (th M B C (λa v j H I=>by simp_all) (λ_=>?_));simp only;refine⟨⟨_,q,rfl⟩,rfl,ag ?_⟩;refine⟨undef,.inr ⟨rfl,rfl⟩,.here ⟨.refl k,.lit undef,_,.lit _,m.set (.map _ _ _ ?_ (λj e p D E=>?_)),w⟩⟩
 . simp_all
 rw[Array.getElem?_push]at D;rw[aaJ]at E
 grind
omit [BEq κ] in
def vO{mt:Nat}(ka:κ->AV)(f:o.op=.makeMap mt none)(g:∀b,σ b=none->K (.map b) (σ.set b (nC ka []))):aJ P o env σ K Kq:=
 aJ.val (s:=λc=>Instr.makeMap mt none) (λc=>by simp[execOp,f]) λk O c h d=>by
  unfold Instr.makeMap;simp only;refine af (s:=newObj _) ⟨rfl,λr a=>ag ?_⟩;exact .here ⟨.made a.2.2,_,_,.map r,(d.mono (.made a.2.2)).set (.map _ _ _ rfl λj e p i=>by simp at i),g r (d.isNone a.1 a.2.2)⟩
end
structure L4(P:adT)(mt kt et ft:Nat)  kd :Prop where
 hm:P.underlying mt=some (.map kt et)
 hk:∃f,P.underlying kt=some (.struct #[f])/\(f.name≠ "_")/\f.type=ft/\f.offset=0
 hf:P.underlying ft=some (.int kd)
 hs:P.stoodInHeld kt=false
structure DK(P:adT)(mt kt et ft:Nat)  kd :Prop where
 hm:P.underlying mt=some (.map kt et)
 hk:∃f g,P.underlying kt=some (.struct #[f,g])/\(f.name≠ "_"/\g.name≠ "_")/\(f.type=ft/\g.type=ft)/\f.offset=0/\g.offset=1
 hf:P.underlying ft=some (.int kd)
 hs:P.stoodInHeld kt=false
def Ji(kd:IntKind)(n:Int):AV:=.agg [.lit (.int kd n)]
def qf(kd:IntKind)(p:Int × Int):AV:=.agg [.lit (.int kd p.1),.lit (.int kd p.2)]
abbrev mapA(kd:IntKind)(l:adr):nz:=nC (Ji kd) l
abbrev HW(l:adr)(n:Int):adI:=dC l n
section
variable{P:adT}(L:jJ P){k:ar}{O:aj}{Kp:adm}{mt kt et ft:Nat}{kd:IntKind}
def iD{K i v c o}(ht:L.tt ft=some i)(ha:i.agg=false)(a:c[o]?=some v)(h:K v k O):dT P (part ft c o) k O K Kp:=by unfold part;refine af (qO L ht ?_);rw[ha,a];exact ag h
def V.Ji{k:ar}{v:Value}{kd:IntKind}{n:Int}(h:V k v (Ji kd n)):v=.agg #[.int kd n]:=by
 cases h with
 | agg c l a b=>
   obtain⟨c⟩:=c
   match c,a with
   |[x],_=>have:=b 0 x (.lit (.int kd n)) rfl rfl;cases this;rfl
def V.qf{k:ar}{v:Value}{kd:IntKind}{n:Int × Int}(h:V k v (qf kd n)):v=.agg #[.int kd n.1,.int kd n.2]:=by
 cases h with
 | agg c l b a=>
   obtain⟨c⟩:=c
   match c,b with
   |[x,y],_=>have d:=a 0 x (.lit (.int kd n.1)) rfl rfl;have e:=a 1 y (.lit (.int kd n.2)) rfl rfl;cases d;cases e;rfl
variable{i:TI}(ht:L.tt ft=some i)(ha:i.agg=false)
include ht ha
theorem L4.key(M:L4 P mt kt et ft kd):Jh P mt kt et (ck.Ji kd) (λn=>.agg #[.int kd n]) where
 hm:=M.hm
 hk:=let ⟨f,h,_⟩:=M.hk;⟨_,h⟩
 val:=V.Ji
 AM {k O Kp b n K} h:=by obtain⟨f,d,e,g,i⟩:=M.hk;show dT P (Instr.checkKey b (9998+1+1) kt (.agg #[.int kd n])) k O K Kp;rw[Instr.checkKey];refine af (cI d ?_);simp only[acA,acy,acI];rw[zR e,g,i];refine af (af (af (iD L ht ha rfl ?_)));rw[Instr.checkKey];refine af (af (cI M.hf ?_));exact ag (ag (ag (ag h)))
 eq {k O Kp a b K} h:=by
  obtain⟨f,d,e,g,i⟩:=M.hk;show dT P (Op.equalIn (9998+1+1) kt (.agg #[.int kd a]) (.agg #[.int kd b])) k O K Kp;rw[Op.equalIn];refine af (cI d ?_);refine af (bz ?_);rw[M.hs];simp only[zs,zD,acA,acy,acI];rw[zR e,g,i];refine af (af (af (iD L ht ha (v:=.int kd a) rfl ?_)));refine af (iD L ht ha (v:=.int kd b) rfl ?_);refine af ?_;rw[Op.equalIn];refine af (cI M.hf ?_);simp only[Rp];refine ag ?_;cases c:(a==b)with
  |true=>rw[c]at h;exact ag (ag (ag h))
  |false=>rw[c]at h;exact ag (ag (ag h))
theorem DK.key(M:DK P mt kt et ft kd):Jh P mt kt et (ck.qf kd) (λn=>.agg #[.int kd n.1,.int kd n.2]) where
 hm:=M.hm
 hk:=let ⟨f,g,h,_⟩:=M.hk;⟨_,h⟩
 val:=V.qf
 AM {k O Kp b n K} h:=by
  obtain⟨f,g,m,⟨o,c⟩,⟨p,d⟩,q,i⟩:=M.hk;show dT P (Instr.checkKey b (9998+1+1) kt (.agg #[.int kd n.1,.int kd n.2])) k O K Kp;rw[Instr.checkKey];refine af (cI m ?_);simp only[acA,acy,acI];rw[zR o,zR c,p,q,d,i];refine af (af (af (iD L ht ha rfl ?_)));rw[Instr.checkKey];refine af (af (cI M.hf ?_));refine ag (ag ?_);refine af (af (iD L ht ha rfl ?_));refine af (af (cI M.hf ?_));exact ag (ag (ag (ag h)))
 eq {k O Kp a b K} h:=by
  obtain⟨f,g,m,⟨o,c⟩,⟨p,d⟩,q,i⟩:=M.hk;show dT P (Op.equalIn (9998+1+1) kt (.agg #[.int kd a.1,.int kd a.2]) (.agg #[.int kd b.1,.int kd b.2])) k O K Kp;rw[Op.equalIn];refine af (cI m ?_);refine af (bz ?_);rw[M.hs];simp only[zs,zD,acA,acy,acI];rw[zR o,zR c,p,q,d,i];refine af (af (af (iD L ht ha (v:=.int kd a.1) rfl ?_)));refine af (iD L ht ha (v:=.int kd b.1) rfl ?_);refine af ?_;rw[Op.equalIn];refine af (cI M.hf ?_);simp only[Rp];refine ag ?_;have e:(a==b)=(a.1==b.1 && a.2==b.2):=rfl;rw[e]at h;cases j:(a.1==b.1)with
  |false=>rw[j]at h;exact ag (ag (ag h))
  | true=>
    rw[j]at h;refine ag ?_;refine af (af (iD L ht ha (v:=.int kd a.2) rfl ?_));refine af (iD L ht ha (v:=.int kd b.2) rfl ?_);refine af ?_;refine af (cI M.hf ?_);simp only[Rp];refine ag ?_;cases l:(a.2==b.2)with
    |true=>rw[l]at h;exact ag (ag (ag h))
    |false=>rw[l]at h;exact ag (ag (ag h))
end
def qg(k:ar)(O:aj)(B:Nat)(a:Touch):Prop:=
 match a.loc with
 |.cell b=>b.block<B/\¬aV O b.block b.off/\(k.cell b.block b.off=none\/a.write=false)
 |.obj r=>r<B/\∀o,O r≠some (.obj o)
 |_=>True
def ar.bot:ar:=⟨λ_ _=>none,λ_=>none⟩
def aj.bot:aj:=λ_=>none
def ar.join(k k':ar):ar:=⟨λb i=>match k.cell b i with|some v=>some v|none=>k'.cell b i,λb=>match k.sh b with|some s=>some s|none=>k'.sh b⟩
def ar.ti(k k':ar):k.Le (k.join k'):=⟨λb i v h=>by simp[ar.join,h],λb s h=>by simp[ar.join,h]⟩
def ar.yd{k k' O O' w}(h:Sat k O w)(a:Sat k' O' w):k'.Le (k.join k'):=⟨λb i v c=>by
 simp only[ar.join];cases q:k.cell b i with
 |none=>exact c
 | some u=>
   have:=h.cell b i u q;rw[a.cell b i v c]at this
   simp_all,λb s d=>by
 simp only[ar.join];cases q:k.sh b with
 |none=>exact d
 | some u=>
   have:=h.sh b u q;rw[a.sh b s d]at this
   simp_all⟩
def ar.nX{k k':ar}{b i v}(h:(k.join k').cell b i=some v):k.cell b i=some v\/k'.cell b i=some v:=by
 simp only[ar.join]at h
 grind
def ar.HX{k k':ar}{b s}(h:(k.join k').sh b=some s):k.sh b=some s\/k'.sh b=some s:=by
 simp only[ar.join]at h
 grind
def aV.own{O b i}(h:aV O b i):∃x,O b=some x:=by rcases h with⟨o,h⟩|⟨n,h,_⟩|⟨f,h,_⟩<;>exact⟨_,h⟩
def eH{O b i}(h:O b=none):¬aV O b i:=λa=>by
 obtain⟨x,c⟩:=a.own
 simp_all
structure Base where
 Shun:Loc->Prop
 N0:Nat
 lk:Nat
 la:Addr
 W0:World
def Jj(Z:Base)(t:Trace)(i n:Nat):Prop:=if i=Z.lk then n<Z.N0\/∃p,Z.N0<=p/\t.act? p=some (.mark (.releaseMerge Z.la))/\t.heard p/\Before t n p else Knows t i n
def Jj.app{Z t i n}(h:Jj Z t i n)  u :Jj Z (t++u) i n:=by
 unfold Jj at *;split at h
 . next e=>
   rw[zR e];rcases h with h|⟨p,c,a,d,f⟩
   . exact .inl h
   have b:=lt_of_act? a;exact .inr ⟨p,c,by rw[act?_old b];exact a,(heard_old b).2 d,f.app u⟩
 next e=>rw[zA e];exact h.app u
def oH{Z t i n}(hi:i≠Z.lk):Jj Z t i n↔Knows t i n:=by unfold Jj;simp_all
def XA(Z:Base)(t:Trace)(i:Nat)(k:ar)(O:aj)(B:Nat):Prop:=∀n a,touchAt t n=some a->a.loc.isMemory=true->Jj Z t i n\/qg k O B a
structure cE  Z  (kk:adS) (OO:adR) (J M:adG)  w   t :Prop where
 sat:∀i,Sat (kk i) (OO i) w
 jR:∀i j b x,i≠j->OO i b=some x->OO j b=none
 nY:∀i j b n v,i≠j->(kk j).cell b n=some v -> ¬aV (OO i) b n
 B9:∀i,XA Z t i (kk i) (OO i) w.heap.size
 clean:∀said,¬Race said t
 seen:∀op∈t,op.act.low w.heap.size
 acc:∀n a,touchAt t n=some a->a.loc.isMemory=true->Knows t 0 n\/(∃j,J j/\Knows t j n)\/(∃p,M p/\Before t n p)\/(Z.Shun a.loc/\a.kind=.atomic/\(t.counts n->n<Z.N0))
 n0:Z.N0<=t.size
 ye:∀n g,n<Z.N0->t.g? n=some g->g≠0->t.counts n->∃j,t.g? j=some 0/\HappensBefore t n j
 mc:∀a,Z.Shun (.cell a)->a.block<w.heap.size/\∀i,¬aV (OO i) a.block a.off/\(kk i).cell a.block a.off=none
 pF:∀r,Z.Shun (.obj r)->r<w.heap.size/\∀i o,OO i r≠some (.obj o)
 Ac:xq Z.W0 w
 mine:∀i b x,OO i b=some x->Z.W0.heap.size<=b
def bW{α:Type}(f:Nat->α)(i:Nat)(x:α):Nat->α:=λj=>if j=i then x else f j
def ao{α}  f   i  (x:α):bW f i x i=x:=by simp[bW]
def az{α}  f  {i j}(x:α) (h:j≠i):bW f i x j=f j:=by simp[bW,h]
def kF{k O B e b}(a:jG k O B e)(hb:(MemAct.ofEvent e).touch?=some b):
 (∃ad,b.loc=.cell ad/\(aV O ad.block ad.off\/B<=ad.block\/(b.write=false/\∃v,k.cell ad.block ad.off=some v)))\/∃r,b.loc=.obj r/\((∃o,O r=some (.obj o))\/B<=r):=by
 obtain⟨loc,wr,c⟩:=e;cases loc with
 | cell ad=>
   simp only[jG]at a;simp only[MemAct.ofEvent,MemAct.touch?,kn]at hb
   grind
 |obj r=>simp only[jG]at a;cases wr<;>cases c<;>simp only[MemAct.ofEvent,MemAct.touch?,kn,reduceCtorEq]at hb<;>subst hb<;>exact .inr ⟨r,rfl,a⟩
 |mark m=>simp only[jG]at a;cases m<;>simp_all [kD,ny,MemAct.ofEvent,MemAct.touch?]
 |_=>simp[jG]at a
def vP{k O B b e}(c:jG k O B e)(a:jy b e):(MemAct.ofEvent e).low b:=by
 obtain⟨loc,wr,d⟩:=e;cases loc with
 |cell f=>simpa[MemAct.ofEvent,MemAct.low,Loc.low,jy]using a
 |obj r=>simp only[jy]at a;cases wr<;>cases d<;>simpa[MemAct.ofEvent,MemAct.low,Loc.low]using a
 |mark m=>simp only[jG]at c;cases m<;>simp_all [kD,ny,MemAct.ofEvent,MemAct.low,jy]
 |_=>simp[jG]at c
def su{t u:Trace}{n}(a:n<t.size):(t++u).counts n↔t.counts n:=by unfold Trace.counts;rw[act?_old a,heard_old a]
section
variable{Z:Base}{kk:adS}{OO:adR}{J M:adG}{w:World}{t:Trace}
def cE.DL(h:cE Z kk OO J M w t)  u :∀n g,n<Z.N0->(t++u).g? n=some g->g≠0->(t++u).counts n->∃j,(t++u).g? j=some 0/\HappensBefore (t++u) n j:=λn g c d i e=>by
 have a:n<t.size:=abv c h.n0;rw[g?_old a]at d;rw[su a]at e;obtain⟨j,f,hb⟩:=h.ye n g c d i e
 have b:j<t.size:=by
  unfold Trace.g? at f
  grind
 exact⟨j,by rw[g?_old b];exact f,hb_app u hb⟩
def cE.own(h:cE Z kk OO J M w t){i}(X:i≠Z.lk)(hJ:i=0\/J i){k' O' w' es fn pos}(d:Eff (kk i) (OO i) w k' O' w' es.toList)(hs:Sat k' O' w'):
 cE Z (bW kk i k') (bW OO i O') J M w' (t++MemOp.ofEvents i fn pos es):=by
 have D:∀op∈MemOp.ofEvents i fn pos es,op.g=i/\∃e∈es.toList,op.act=.ofEvent e:=λop B=>by
  obtain⟨e,d,rfl⟩:=za B
  grind
 have Y:∀b n,aV O' b n->aV (OO i) b n\/w.heap.size<=b:=d.FT
 have ay:∀j,j≠i->Sat (kk j) (OO j) w':=λj k=>by
  have ω:∀b,b<w.heap.size->OO j b≠none->w'.heap[b]?=w.heap[b]?:=λb hb W=>by
   cases q:OO j b with
   |none=>simp_all
   |some x=>exact d.keep b hb (h.jR j i b x k q)
  refine⟨(h.sat j).apart,λb n v K=>?_,λb s hs=>?_,λb o N=>?_,λb n W=>?_,λb f W=>?_⟩
  . have hb:=(h.sat j).qN K
    have hc:=(h.sat j).cell b n v K;have Q:=h.nY i j b n v (wK k) K;cases q:OO i b with
    |none=>have:=d.keep b hb q;simpa only[World.cell?,this]using hc
    | some x=>
      cases x with
      |obj o=>exact absurd (.inl ⟨o,q⟩) Q
      | tail m=>
        have a9:n<m:=Nat.lt_of_not_le λhh=>Q (.inr (.inl ⟨m,q,hh⟩))
        obtain⟨c,e,l,_⟩:=(h.sat i).tail b m q;obtain⟨c',R,P,h4⟩:=d.tail b m hb q c e l;simp only[World.cell?,l,R]at hc ⊢
        simp_all
      | part f=>
        have a9:f n=none:=abN λhh=>Q (.inr (.inr ⟨f,q,hh⟩))
        obtain⟨c,e,l,_⟩:=(h.sat i).part b f q;obtain⟨c',R,P,h4⟩:=d.part b f hb q c e l;simp only[World.cell?,l,R]at hc ⊢
        simp_all
  . have hb:=(h.sat j).LC hs
    rw[d.shape b hb];exact(h.sat j).sh b s hs
  . rw[ω b ((h.sat j).uD N) (by grind)];exact(h.sat j).obj b o N
  . rw[ω b ((h.sat j).uD W) (by grind)];exact(h.sat j).tail b n W
  rw[ω b ((h.sat j).uD W) (by grind)];exact(h.sat j).part b f W
 have a8:∀j b x,OO j b=some x->b<w.heap.size:=λj b x A=>(h.sat j).uD A
 have a7:∀j b n v,(kk j).cell b n=some v->b<w.heap.size:=λj b n v K=>(h.sat j).qN K
 refine⟨λj=>?_,λa b c x C A=>?_,λa b c n v C K=>?_,λj=>?_,λsaid=>?_,λop B=>?_,λn a ha hm=>?_,by simp;exact aaH h.n0 (abS _ _),h.DL _,λa ha=>?_,λr hr=>?_,h.Ac.step (by rw[d.os];exact .refl _) d.output d.size (λb hb=>d.keep b (abv hb h.Ac.size) (Option.eq_none_iff_forall_ne_some.2 λx A=>by have:=h.mine i b x A;omega)),λj b x A=>?_⟩
 . by_cases k:j=i
   . subst k;rw[ao,ao];exact hs
   rw[az _ _ k,az _ _ k];simp_all
 . by_cases ha:a=i
   . subst ha
     rw[ao]at A;rw[az _ _ (wK C)];rcases d.own c x A with⟨y,hy,_⟩|hy
     . exact h.jR a b c y C hy
     cases q:OO b c with
     |none=>rfl
     |some z=>grind
   rw[az _ _ ha]at A;by_cases hb:b=i
   . subst hb
     rw[ao];cases q:O' c with
     |none=>rfl
     | some z=>
       rcases d.own c z q with⟨y,hy,_⟩|hy
       . have:=h.jR a b c x C A;simp_all
       grind
   rw[az _ _ hb];exact h.jR a b c x C A
 . by_cases ha:a=i
   . subst ha
     rw[ao];rw[az _ _ (wK C)]at K;intro hc;rcases Y c n hc with hc|hc
     . exact h.nY a b c n v C K hc
     grind
   rw[az _ _ ha];by_cases hb:b=i
   . subst hb
     rw[ao]at K;intro hc;rcases d.cell c n v K with l|l|l
     . exact h.nY a b c n v C l hc
     . obtain⟨x,A⟩:=l.own
       have:=h.jR b a c x (wK C) A;exact eH this hc
     obtain⟨x,A⟩:=hc.own
     grind
   rw[az _ _ hb]at K;exact h.nY a b c n v C K
 ·
  intro n a ha hm;obtain⟨x,A,u⟩:=touch_of ha;rcases getElem?_append_cases A with⟨_,S⟩|⟨_,T⟩
  . rcases h.B9 j n a (by rw[touchAt_of S];exact u) hm with hk|hk
    . exact .inl (hk.app _)
    refine .inr ?_;by_cases k:j=i
    . subst k
      rw[ao,ao];unfold qg at hk ⊢;split
      . next O E=>
        rw[E]at hk;obtain⟨l,R,P⟩:=hk;refine⟨abv l d.size,λhc=>?_,?_⟩
        . grind
        rcases P with P|P
        . cases q:k'.cell O.block O.off with
          |none=>simp_all
          | some v=>
            rcases d.cell _ _ v q with h4|h4|h4
            . simp_all
            . simp_all
            omega
        simp_all
      . next r E=>
        rw[E]at hk;refine⟨abv hk.1 d.size,λo N=>?_⟩;rcases d.own r _ N with⟨y,hy,L⟩|hy
        . cases y with
          |obj o'=>simp_all
          |tail m=>exact L.elim
          |part f=>exact L.elim
        omega
      trivial
    rw[az _ _ k,az _ _ k];unfold qg at hk ⊢;split
    . next O E=>rw[E]at hk;exact⟨abv hk.1 d.size,hk.2⟩
    . next r E=>rw[E]at hk;exact⟨abv hk.1 d.size,hk.2⟩
    trivial
  obtain⟨hg,e,H,F⟩:=D x T;by_cases k:j=i
  . subst k
    have:=knows_own A;rw[hg]at this;exact .inl ((oH X).2 this)
  refine .inr ?_;rw[az _ _ k,az _ _ k];rw[F]at u;have G:=d.evs e H;have I:=d.low e H;rcases kF G u with⟨O,E,hc⟩|⟨r,E,hc⟩
  . unfold qg;rw[E]
    have U:O.block<w'.heap.size:=by
     have:=vP G I;obtain⟨loc,wr,sy⟩:=e;cases loc with
     |cell al=>simp only[MemAct.ofEvent,MemAct.touch?,kn]at u;subst u;simp only[Loc.cell.injEq]at E;subst E;simpa[jy]using I
     |obj r=>cases wr<;>cases sy<;>simp only[MemAct.ofEvent,MemAct.touch?,kn,reduceCtorEq]at u<;>subst u<;>cases E
     |mark m=>simp only[jG]at G;cases m<;>simp_all [kD,ny,MemAct.ofEvent,MemAct.touch?]
     |_=>simp[jG]at G
    refine⟨U,λV=>?_,?_⟩
    . rcases hc with hc|hc|⟨_,v,hc⟩
      . obtain⟨y,hy⟩:=hc.own
        have:=h.jR i j _ y (wK k) hy;exact eH this V
      . obtain⟨x,A⟩:=V.own
        grind
      exact h.nY j i _ _ v k hc V
    rcases hc with hc|hc|⟨hc,_⟩
    . cases q:(kk j).cell O.block O.off with
      |none=>simp_all
      |some v=>exact absurd hc (h.nY i j _ _ v (wK k) q)
    . cases q:(kk j).cell O.block O.off with
      |none=>simp_all
      |some v=>grind
    simp_all
  unfold qg;rw[E]
  have U:r<w'.heap.size:=by
   obtain⟨loc,wr,sy⟩:=e;cases loc with
   | cell al=>
     simp only[MemAct.ofEvent,MemAct.touch?,kn]at u
     grind
   |obj r'=>simp only[jy]at I;cases wr<;>cases sy<;>simp only[MemAct.ofEvent,MemAct.touch?,kn,reduceCtorEq]at u<;>subst u<;>cases E<;>exact I
   |mark m=>simp only[jG]at G;cases m<;>simp_all [kD,ny,MemAct.ofEvent,MemAct.touch?]
   |_=>simp[jG]at G
  refine⟨U,λo N=>?_⟩;rcases hc with⟨o',hc⟩|hc
  . have:=h.jR j i r _ k N
    simp_all
  grind
 ·
  refine noRace_append (h.clean said) (λop B=>(D op B).1) λn a ha op B b hb hc=>?_
  obtain⟨hg,e,H,F⟩:=D op B;rw[F]at hb;have G:=d.evs e H;obtain⟨c1,c2,c3,c4⟩:=hc;rcases h.B9 i n a ha c2 with hk|hk
  . exact(oH X).1 hk
  exfalso;unfold qg at hk;rcases kF G hb with⟨O,E,av⟩|⟨r,E,av⟩
  . grind
  grind
 . rcases Array.mem_append.1 B with B|B
   . exact MemAct.low_mono d.size (h.seen op B)
   obtain⟨hg,e,H,F⟩:=D op B;rw[F];exact vP (d.evs e H) (d.low e H)
 . obtain⟨x,A,u⟩:=touch_of ha
   rcases getElem?_append_cases A with⟨ax,S⟩|⟨_,T⟩
   . rcases h.acc n a (by rw[touchAt_of S];exact u) hm with l|⟨j,k,l⟩|⟨p,hp,l⟩|l
     . exact .inl (l.app _)
     . exact .inr (.inl ⟨j,k,l.app _⟩)
     . exact .inr (.inr (.inl ⟨p,hp,l.app _⟩))
     exact .inr (.inr (.inr ⟨l.1,l.2.1,λhc=>l.2.2 ((su ax).1 hc)⟩))
   obtain⟨hg,_⟩:=D x T;have:=knows_own A
   grind
 . obtain⟨l,R⟩:=h.mc a ha
   refine⟨abv l d.size,λj=>?_⟩;by_cases k:j=i
   . subst k
     rw[ao,ao];refine⟨λhc=>?_,?_⟩
     . grind
     cases q:k'.cell a.block a.off with
     |none=>rfl
     | some v=>
       rcases d.cell _ _ v q with P|P|P
       . simp_all
       . simp_all
       omega
   rw[az _ _ k,az _ _ k];exact R j
 . obtain⟨l,R⟩:=h.pF r hr
   refine⟨abv l d.size,λj o N=>?_⟩;by_cases k:j=i
   . subst k
     rw[ao]at N;rcases d.own r _ N with⟨y,hy,L⟩|hy
     . cases y with
       |obj o'=>simp_all
       |tail m=>exact L.elim
       |part f=>exact L.elim
     omega
   rw[az _ _ k]at N;simp_all
 by_cases k:j=i
 . subst k
   rw[ao]at A;rcases d.own b x A with⟨y,hy,_⟩|hy
   . exact h.mine j b y hy
   exact aaH h.Ac.size hy
 rw[az _ _ k]at A;exact h.mine j b x A
end
