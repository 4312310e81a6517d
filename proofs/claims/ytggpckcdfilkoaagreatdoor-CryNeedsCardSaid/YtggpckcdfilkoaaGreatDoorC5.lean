import Derived.KernelRfl
import Derived.Test.YtggpckcdfilkoaaGreatDoorC4
set_option linter.all false
namespace Go.bu
def zj:=@Go.Conc.mem_ofEvents
open Go.Conc
abbrev YA:=List Entry
section
variable{P:Rg}(L:lz P){m:Mo}
def ar.start{f:FuncId}{fn args σ KF body}  mu   η   k  (b:P.funcs[f]?=some fn) (hb:fn.body=some body) (d:args.length=k) (c:uO fn k=true) (a:vR η body=true)
 (h:cU L m f fn.ntmps none mu η 1000 [.code body] ⟨fR args,σ,[],.no⟩ (L6 L m fn.results.toList (tO KF))):ar P m f args σ KF:=by
 simp  [uO]at c;refine ar.thaw (ar.intro L b hb aq ?_ (Go.cU L mu η 1000 (by simpa[oZ]using a) h))
 grind
variable{φ n:Nat}{ro:Dm}{η:YA}{s:St}{K:Ci}{k:AJ}
def aa.run  mu  {todo}(h:cU L m φ n ro mu η 1000 todo s K):aa P m φ n ro η todo s K:=λa=>Go.cU L mu η 1000 a h
def ai{f fn args σ KF}(b:P.funcs[f]?=some fn)(hb:fn.body.isSome=true)(a:(fn.name==  "runtime.NumGoroutine")=false)(h:ar P m f args σ KF):
 cQ P m (.fn (.func f) [] []) args σ KF:=.func b hb a (by simpa using h)
def fS{f fn first cap args args' σ KF}(b:P.funcs[f]?=some fn)(hb:fn.body.isSome=true)(a:(fn.name==  "runtime.NumGoroutine")=false)(c:first++args++cap=args')(h:ar P m f args' σ KF):
 cQ P m (.fn (.func f) first cap) args σ KF:=.func b hb a (c ▸ h)
def aa.loop{c}  N  (I:Nat->St->Prop) (p:I 0 s)
 (g:∀b i s,i<=N->I i s->(∀s',i<N->I (i+1) s'->aa P m φ n ro η (.inLoop b::k) s' K)->aa P m φ n ro η (.code c::.inLoop b::k) s K):aa P m φ n ro η (.code (.loop c)::k) s K:=λe=>by
 have d:∀b,oZ η (.code c::.inLoop b::k)=true:=λb=>by simpa[oZ,vR]using e
 refine Go.loop (λa s=>∃i,a=N-i/\i<=N/\I i s) N am ?_;rintro b a s ⟨i,rfl,h,j⟩ l;exact g b i s h j (λs' o f _=>l _ s' ac ⟨i+1,rfl,ac,f⟩) (d b)
def RL:Option Code->Bool
 |none=>true
 |some .ret=>true
 |some (.exit _)=>true
 |_=>false
def aa.rangeFunc{f params assign body}(g:Operand.ok n f=true)
 (h:oZ η [.code assign,.code body]=true->∀r l,s.σ r=none->s.σ l=none->r≠l->cQ P m (aA s.env f) [.fn (.yield l) [] []] ((s.σ.set r (.raw (.deferred (some [])))).set l (.loop ⟨.ready,none,φ,n,s.env,params,assign,body,r⟩))
   (fun res σ'=>match res with
     |.val _=>∃a,σ' l=some (.loop a)/\a.state≠.busy/\RL a.pending=true/\aa P m φ n none η ((a.pending.map Item.code).toList++k) {s with σ:=σ'.del l,D:=.mark r::s.D} K
     |.panic v=>K (.panic v) {s with σ:=σ',D:=.mark r::s.D})):aa P m φ n none η (.code (.rangeFunc f params assign body)::k) s K:=λd=>by
 have i:oZ η [.code assign,.code body]=true:=by
  simp  [oZ,vR]at d ⊢
  grind
 refine Go.rangeFunc g λr l a b c=>(h i r l a b c).mono λres σ' j=>?_
 cases res with
 |panic v=>omega
 |val v=>obtain⟨o,p,q,e,t⟩:=j;refine⟨o,p,q,t ?_⟩;simp  [oZ,vc]at d ⊢;unfold RL at e;split at e<;>rename_i u<;>simp_all [vR]
def cQ.AM{l args σ KF a fn}(b:oZ η [.code a.assign,.code a.body]=true)(c:P.funcs[a.fn]?=some fn)(d:σ l=some (.loop a))(e:args.length=a.params.size)
 (h:aa P m a.fn a.n (some l) η [.code a.assign,.beginRound,.code a.body] ⟨rf a.env a.params.toList args,σ,[],.no⟩ (Ry l KF)):cQ P m (.fn (.yield l) [] []) args σ KF:=
 .yield c d e (h (by simp  [oZ,IN]at b ⊢;grind))
def aa.beginRound{l a}(c:s.σ l=some (.loop a))(ha:a.state=.ready)(h:aa P m φ n (some l) η k {s with σ:=s.σ.set l (.loop {a with state:=.busy})} K):aa P m φ n (some l) η (.beginRound::k) s K:=λb=>.beginRound c ha (h (by simpa[oZ]using b))
def aa.freeze{todo ε a σ σ' D rc}  b   l  (hb:σ b=some (.cells l)) (c:∀t,Fz b l (ε t) (a t)) (e:RD b l σ σ')
 (h:aa P m φ n ro η todo ⟨a,σ',D,rc⟩ K):aa P m φ n ro η todo ⟨ε,σ,D,rc⟩ K:=λd=>Go.freeze b l hb c e (h d)
end
theorem af.le_refl(σ:af):σ.Le σ:=λ_ _ h=>h
def af.le_trans{a b c:af}(h:a.Le b)(d:b.Le c):a.Le c:=λx y e=>d x y (h x y e)
theorem af.oi{σ0 σ:af}{b x}(h:σ0.Le σ)(hb:σ b=none):σ0.Le (σ.set b x):=λc y a=>by
 by_cases e:c=b
 . have:=h _ _ a;grind
 . simp  [af.set,e];exact h _ _ a
theorem af.bZ{σ0 σ:af}{b x}(h:σ0.Le σ)(hb:σ0 b=none):σ0.Le (σ.set b x):=λc y a=>by
 by_cases e:c=b
 . grind
 . simp  [af.set,e];exact h _ _ a
def af.AN{σ0 σ:af}{b}(h:σ0.Le σ)(hb:σ0 b=none):σ0.Le (σ.del b):=λc y a=>by
 by_cases e:c=b
 . grind
 . simp  [af.del,e];exact h _ _ a
def af.bd{σ:af}{b c x}(h:(σ.set b x) c=none):c≠b/\b≠c/\σ c=none:=by
 by_cases e:c=b
 . subst e;simp[af.set]at h
 . simp  [af.set,e]at h
   grind
@[simp] theorem af.aj(σ:af)  b   x :(σ.set b x) b=some x:=by simp[af.set]
theorem af.ah(σ:af){b c}  x  (h:c≠b):(σ.set b x) c=σ c:=by simp[af.set,h]
@[simp] theorem af.set_set(σ:af)  b   x y :(σ.set b x).set b y=σ.set b y:=by funext c;by_cases e:c=b<;>simp[af.set,e]
section
variable{P:Rg}(L:lz P)(m:Mo)(φ n f:Nat)(ro:Dm)(mu:ZB)(η:YA)
def stepW(ο:Cx)(is:ZB)(k:AJ)(dst:Io)(s:St)(K:Ci)(x:Out):Prop:=yl x (λa b=>cU L m φ n ro mu η f (.inRegion ο is::k) {s with env:=cG s.env dst a,σ:=b} K) (λa b=>K (.panic a) {s with σ:=b})
def RO(ο:Cx)(is:ZB)(k:AJ)(dst:Io)(s:St)(K:Ci)(σ:af)(x:IM):Prop:=stepW L m φ n f ro mu η ο is k dst s K (.opt x σ)
def bz(ο:Cx)(is:ZB)(k:AJ)(dst:Io)(s:St)(K:Ci)(σ:af)(c:We):Prop:=stepW L m φ n f ro mu η ο is k dst s K (.new σ c)
def xj(ο:Cx)(i:Nat)(is:ZB)(k:AJ)(o:Oper)(s:St)(K:Ci)(x:Option Bool):Prop:=
 OQ x (if wh L o=true then yl (Ho L mu o s.env s.σ) (λa b=>cU L m φ n ro mu η f (.inRegion ο is::k) {s with env:=cG s.env o.dst a,σ:=b} K) (λa b=>K (.panic a) {s with σ:=b})
        else if BL o.op=true then Wx (P:=P) m o s.env s.σ (λa b=>aa P m φ n ro η (.inRegion ο is::k) {s with env:=cG s.env o.dst a,σ:=b} K) (λa b=>∀ε,K (.panic a) {s with env:=ε,σ:=b})
        else aa P m φ n ro η (.inRegion ο (i::is)::k) s K) (cU L m φ n ro mu η f (.inRegion ο is::k) {s with env:=cG s.env o.dst (.lit (.tuple #[]))} K)
def aM(a b:Code)(k:AJ)(s:St)(K:Ci)(x:Bool):Prop:=BI x (cU L m φ n ro mu η f (.code a::k) s K) (cU L m φ n ro mu η f (.code b::k) s K)
def Zw(P:Rg)(m:Mo)(φ n:Nat)(ro:Dm)(η:YA)(k:AJ)(s:St)(K:Ci):FI:=λε σ=>aa P m φ n ro η k {s with env:=ε,σ} K
def Zx(s:St)(K:Ci):CU:=λv σ=>∀ε,K (.panic v) {s with env:=ε,σ}
variable{L m φ n f ro mu η}{s:St}{K:Ci}{k:AJ}{ο:Cx}{i:Nat}{is:ZB}{dst:Io}{σ:af}
@[simp] theorem abL{ε}:Zw P m φ n ro η k s K ε σ=aa P m φ n ro η k {s with env:=ε,σ} K:=propext Zy
@[simp] theorem abM{v}:Zx s K v σ=∀ε,K (.panic v) {s with env:=ε,σ}:=propext Zy
@[simp] theorem abN{a}:stepW L m φ n f ro mu η ο is k dst s K (.ok a σ)=cU L m φ n ro mu η f (.inRegion ο is::k) {s with env:=cG s.env dst a,σ:=σ} K:=propext Zy
@[simp] theorem acv{p x}:stepW L m φ n f ro mu η ο is k dst s K (.mM p x)=(p/\stepW L m φ n f ro mu η ο is k dst s K x):=propext Zy
@[simp] theorem aaU{c}:stepW L m φ n f ro mu η ο is k dst s K (.new σ c)=bz L m φ n f ro mu η ο is k dst s K σ c:=propext Zy
@[simp] theorem aaV{x}:stepW L m φ n f ro mu η ο is k dst s K (.opt x σ)=RO L m φ n f ro mu η ο is k dst s K σ x:=propext Zy
@[simp] theorem aaW{a}:RO L m φ n f ro mu η ο is k dst s K σ (some a)=cU L m φ n ro mu η f (.inRegion ο is::k) {s with env:=cG s.env dst a,σ:=σ} K:=propext Zy
@[simp] theorem aaX:RO L m φ n f ro mu η ο is k dst s K σ none=False:=propext Zy
@[simp] theorem aea{c}[Decidable c]{x}:RO L m φ n f ro mu η ο is k dst s K σ (if c then x else none)=(c/\RO L m φ n f ro mu η ο is k dst s K σ x):=by by_cases h:c<;>simp[h]
def bz.intro{c}(h:∀b,σ b=none->cU L m φ n ro mu η f (.inRegion ο is::k) {s with env:=cG s.env dst (.ref b 0),σ:=σ.set b (.cells c)} K):bz L m φ n f ro mu η ο is k dst s K σ c:=h
@[simp] theorem abO{o}:xj L m φ n f ro mu η ο i is k o s K (some true)=(if wh L o=true then stepW L m φ n f ro mu η ο is k o.dst s K (Ho L mu o s.env s.σ)
   else if BL o.op=true then Wx (P:=P) m o s.env s.σ (λa σ'=>aa P m φ n ro η (.inRegion ο is::k) {s with env:=cG s.env o.dst a,σ:=σ'} K) (λa σ'=>∀ε,K (.panic a) {s with env:=ε,σ:=σ'})
   else aa P m φ n ro η (.inRegion ο (i::is)::k) s K):=by unfold xj;rw[tR,uR];rfl
@[simp] theorem aaY{o}:xj L m φ n f ro mu η ο i is k o s K (some false)=cU L m φ n ro mu η f (.inRegion ο is::k) {s with env:=cG s.env o.dst (.lit (.tuple #[]))} K:=by unfold xj;rw[tR,sI]
def xj.intro{o x}(a:x=true->xj L m φ n f ro mu η ο i is k o s K (some true))(b:x=false->xj L m φ n f ro mu η ο i is k o s K (some false)):xj L m φ n f ro mu η ο i is k o s K (some x):=by cases x with|true=>exact a rfl|false=>exact b rfl
@[simp] theorem ajj{a b}:aM L m φ n f ro mu η a b k s K true=cU L m φ n ro mu η f (.code a::k) s K:=by unfold aM;rw[uR]
@[simp] theorem aiQ{a b}:aM L m φ n f ro mu η a b k s K false=cU L m φ n ro mu η f (.code b::k) s K:=by unfold aM;rw[sI]
@[simp] theorem aaZ{a b x}:aM L m φ n f ro mu η a b k s K (!x)=aM L m φ n f ro mu η b a k s K x:=by cases x<;>simp
def aM.intro{a b x}(c:x=true->cU L m φ n ro mu η f (.code a::k) s K)(d:x=false->cU L m φ n ro mu η f (.code b::k) s K):aM L m φ n f ro mu η a b k s K x:=⟨c,d⟩
@[simp] theorem abP :cU L m φ n ro mu η (f+1) ([]) s K=K (.leave none) s:=propext Zy
@[simp] theorem abQ :cU L m φ n ro mu η (f+1) (.code .ret::k) s K=K (.leave (some .ret)) s:=propext Zy
@[simp] theorem aa0 :cU L m φ n ro mu η (f+1) (.code .skip::k) s K=cU L m φ n ro mu η f k s K:=propext Zy
@[simp] theorem aiW{l}:cU L m φ n ro mu η (f+1) (.code (.label l)::k) s K=cU L m φ n ro mu η f k s K:=propext Zy
@[simp] theorem aiE{id}:cU L m φ n ro mu η (f+1) (.inBlock id::k) s K=cU L m φ n ro mu η f k s K:=propext Zy
@[simp] theorem abR{a b}:cU L m φ n ro mu η (f+1) (.code (.seq a b)::k) s K=cU L m φ n ro mu η f (.code a::.code b::k) s K:=propext Zy
@[simp] theorem ajb{id c}:cU L m φ n ro mu η (f+1) (.code (.block id c)::k) s K=cU L m φ n ro mu η f (.code c::.inBlock id::k) s K:=propext Zy
@[simp] theorem abv{c}:cU L m φ n ro mu η (f+1) (.code (.scope c)::k) s K=cU L m φ n ro mu η f (.code c::.inScope c::k) s K:=propext Zy
@[simp] theorem aa1{id}:cU L m φ n ro mu η (f+1) (.code (.exit id)::k) s K=(match exitTo id k with
   |some k'=>cU L m φ n ro mu η f k' s K
   |none=>K (.leave (some (.exit id))) s):=propext Zy
@[simp] theorem aa2{c a b}:cU L m φ n ro mu η (f+1) (.code (.cond c a b)::k) s K=(Operand.ok n c=true/\(match aA s.env c with
   |.lit (.bool x)=>aM L m φ n f ro mu η a b k s K x
   |_=>False)):=propext Zy
@[simp] theorem aiZ{id}:cU L m φ n ro mu η (f+1) (.code (.region id ο false)::k) s K=cU L m φ n ro mu η f (.inRegion ο (List.range ο.size)::k) s K:=propext Zy
@[simp] theorem aa3{id}:cU L m φ n ro mu η (f+1) (.code (.region id ο true)::k) s K=(match η.find? λe=>e.id==id with
   |some ⟨_,p⟩=>mD L m mu ο n (Zx s K) p s.env s.σ (Zw P m φ n ro η k s K)
   |none=>aa P m φ n ro η (.code (.region id ο true)::k) s K):=propext Zy
@[simp] theorem flatten :cU L m φ n ro mu η (f+1) (.inRegion ο []::k) s K=cU L m φ n ro mu η f k s K:=propext Zy
@[simp] theorem ajh :cU L m φ n ro mu η (f+1) (.inRegion ο (i::is)::k) s K=(match ο[i]? with
   |some o=>Oper.ok n o=true/\xj L m φ n f ro mu η ο i is k o s K (Df ο n s.env o)
   |none=>aa P m φ n ro η (.inRegion ο (i::is)::k) s K):=propext Zy
@[simp] theorem aa4{c}:cU L m φ n ro mu η (f+1) (.code (.loop c)::k) s K=aa P m φ n ro η (.code (.loop c)::k) s K:=propext Zy
@[simp] theorem aiK{c}:cU L m φ n ro mu η (f+1) (.inLoop c::k) s K=aa P m φ n ro η (.inLoop c::k) s K:=propext Zy
@[simp] theorem aja{x a c d}:cU L m φ n ro mu η (f+1) (.code (.rangeFunc x a c d)::k) s K=aa P m φ n ro η (.code (.rangeFunc x a c d)::k) s K:=propext Zy
@[simp] theorem ajk :cU L m φ n ro mu η (f+1) (.beginRound::k) s K=aa P m φ n ro η (.beginRound::k) s K:=propext Zy
end
section
variable{P:Rg}(L:lz P)(m:Mo)(n:Nat)(mu:ZB)(ο:Cx)(Kp:CU)(R:FI)
def Dh(lt:Bool)(σ:af)(p:sm)(S:ZB)(ε:Env):Prop:=Hp L mu ο n lt σ (λa=>mD L m mu ο n Kp p a σ R) .mk S ε
def Ja(lt:Bool)(σ:af)(p:sm)(S:ZB)(dst:Io)(ε:Env)(x:IM):Prop:=Fj x λa=>Dh L m n mu ο Kp R lt σ p S (cG ε dst a)
def RR(lt:Bool)(σ:af)(p:sm)(S:ZB)(o:Oper)(ε:Env)(x:Option Bool):Prop:=OQ x (Ja L m n mu ο Kp R lt σ p S o.dst ε (LJ L mu lt o ε σ)) (Dh L m n mu ο Kp R lt σ p S (cG ε o.dst (.lit (.tuple #[]))))
def BM(p:sm)(dst:Io)(ε:Env)(x:Out):Prop:=yl x (λa b=>mD L m mu ο n Kp p (cG ε dst a) b R) Kp
def RY(p:sm)(dst:Io)(ε:Env)(σ:af)(x:IM):Prop:=BM L m n mu ο Kp R p dst ε (.opt x σ)
def qB(p:sm)(dst:Io)(ε:Env)(σ:af)(c:We):Prop:=BM L m n mu ο Kp R p dst ε (.new σ c)
def YD(i:Nat)(p:sm)(o:Oper)(ε:Env)(σ:af)(x:Option Bool):Prop:=
 OQ x (if wh L o=true then yl (Ho L mu o ε σ) (λa b=>mD L m mu ο n Kp p (cG ε o.dst a) b R) Kp else
    if BL o.op=true then Wx (P:=P) m o ε σ (λa b=>aR P m ο n Kp p (cG ε o.dst a) b R) Kp else oh P m ο n Kp i ε σ (λε σ=>aR P m ο n Kp p ε σ R)) (mD L m mu ο n Kp p (cG ε o.dst (.lit (.tuple #[]))) σ R)
variable{L m n mu ο Kp R}{i:Nat}{lt:Bool}{ε:Env}{σ:af}{p q:sm}{S:ZB}{dst:Io}
@[simp] theorem aa5:mD L m mu ο n Kp .done ε σ R=R ε σ:=propext Zy
@[simp] theorem aa6:mD L m mu ο n Kp (.take S lt p) ε σ R=Dh L m n mu ο Kp R lt σ p S ε:=propext Zy
@[simp] theorem abT:mD L m mu ο n Kp (.one i p) ε σ R=(match ο[i]? with|some o=>Oper.ok n o=true/\YD L m n mu ο Kp R i p o ε σ (Df ο n ε o)|none=>False):=propext Zy
@[simp] theorem aa7:mD L m mu ο n Kp (.both i p q) ε σ R=((match ο[i]? with|some o=>Oper.ok n o=true/\YD L m n mu ο Kp R i p o ε σ (Df ο n ε o)|none=>False)/\mD L m mu ο n Kp q ε σ R):=propext Zy
@[simp] theorem aa8:Dh L m n mu ο Kp R lt σ p [] ε=mD L m mu ο n Kp p ε σ R:=propext Zy
@[simp] theorem aix:Dh L m n mu ο Kp R lt σ p (i::S) ε=(match ο[i]? with|some o=>(Oper.ok n o && o.dst.isSome)=true/\RR L m n mu ο Kp R lt σ p S o ε (Df ο n ε o)|none=>False):=propext Zy
@[simp] theorem aa9{a}:Ja L m n mu ο Kp R lt σ p S dst ε (some a)=Dh L m n mu ο Kp R lt σ p S (cG ε dst a):=by unfold Ja;rw[aiw]
@[simp] theorem aa':Ja L m n mu ο Kp R lt σ p S dst ε none=False:=by unfold Ja;rw[ahT]
@[simp] theorem aeb{c}[Decidable c]{x}:Ja L m n mu ο Kp R lt σ p S dst ε (if c then x else none)=(c/\Ja L m n mu ο Kp R lt σ p S dst ε x):=by by_cases h:c<;>simp[h]
@[simp] theorem abU{o}:RR L m n mu ο Kp R lt σ p S o ε (some true)=Ja L m n mu ο Kp R lt σ p S o.dst ε (LJ L mu lt o ε σ):=by unfold RR;rw[tR,uR]
@[simp] theorem aba{o}:RR L m n mu ο Kp R lt σ p S o ε (some false)=Dh L m n mu ο Kp R lt σ p S (cG ε o.dst (.lit (.tuple #[]))):=by unfold RR;rw[tR,sI]
def RR.intro{o x}(a:x=true->RR L m n mu ο Kp R lt σ p S o ε (some true))(b:x=false->RR L m n mu ο Kp R lt σ p S o ε (some false)):RR L m n mu ο Kp R lt σ p S o ε (some x):=by cases x with|true=>grind|false=>grind
@[simp] theorem abV{a}:BM L m n mu ο Kp R p dst ε (.ok a σ)=mD L m mu ο n Kp p (cG ε dst a) σ R:=propext Zy
@[simp] theorem akO{c x}:BM L m n mu ο Kp R p dst ε (.mM c x)=(c/\BM L m n mu ο Kp R p dst ε x):=propext Zy
@[simp] theorem abb{c}:BM L m n mu ο Kp R p dst ε (.new σ c)=qB L m n mu ο Kp R p dst ε σ c:=propext Zy
@[simp] theorem abc{x}:BM L m n mu ο Kp R p dst ε (.opt x σ)=RY L m n mu ο Kp R p dst ε σ x:=propext Zy
@[simp] theorem abd{a}:RY L m n mu ο Kp R p dst ε σ (some a)=mD L m mu ο n Kp p (cG ε dst a) σ R:=propext Zy
def qB.intro{c}(h:∀b,σ b=none->mD L m mu ο n Kp p (cG ε dst (.ref b 0)) (σ.set b (.cells c)) R):qB L m n mu ο Kp R p dst ε σ c:=h
@[simp] theorem abW{o}:YD L m n mu ο Kp R i p o ε σ (some true)=(if wh L o=true then BM L m n mu ο Kp R p o.dst ε (Ho L mu o ε σ)else
   if BL o.op=true then Wx (P:=P) m o ε σ (λa σ'=>aR P m ο n Kp p (cG ε o.dst a) σ' R) Kp else oh P m ο n Kp i ε σ (λε σ=>aR P m ο n Kp p ε σ R)):=by unfold YD;rw[tR,uR];rfl
@[simp] theorem abe{o}:YD L m n mu ο Kp R i p o ε σ (some false)=mD L m mu ο n Kp p (cG ε o.dst (.lit (.tuple #[]))) σ R:=by unfold YD;rw[tR,sI]
end
@[simp] theorem aji{l c}(h:c.length=l.length):aI l 0 c=c:=by unfold aI;simp[h]
@[simp high] theorem ahG{l off v}(h:off<l.length):aI l off [v]=l.set off v:=by unfold aI;rw[List.set_eq_take_append_cons_drop,wS h];simp
attribute [simp] LJ Cj qt Db Ho wh Df BL Wx Ww LI Function.comp_def
def tv(P:Rg)(t:TypeId)(name:String)(f:FuncId)(a a':AV):Prop:=∀k O v (K:FuncId × Value->az->au->Prop) Kp,V k v a->(∀r,V k r a'->K (f,r) k O)->jm P (method (P.types.size+Made.depth) t v name) k O K Kp
section
variable{P:Rg}{m:Mo}{φ n:Nat}{ro:Dm}{η:YA}{s:St}{K:Ci}{k:AJ}
def xV{name recv c a}:Go.invoke (.fn (.method name) c) (#[recv]++a)=callMethod recv name a:=by
 have b:(#[recv]++a)[0]?=some recv:=am
 have d:(#[recv]++a).extract 1 (#[recv]++a).size=a:=aq
 simp  [Go.invoke,b]
def aa.invoke{ο i is o recv name args u}{t f:Nat}{a a' fn}(L:ο[i]?=some o)(y:o.op=.call ⟨.invoke recv name,args,u⟩)(hg:o.guard=none)(z:Oper.ok n o=true)
 (R:aA s.env recv=.pH t a) (S:tv P t name f a a') (U:P.funcs[f]?=some fn) (hb:fn.body.isSome=true) (A:(fn.name==  "runtime.NumGoroutine")=false)
 (h:ar P m f (a'::args.toList.map (aA s.env)) s.σ (λr σ'=>match r with|.val x=>aa P m φ n ro η (.inRegion ο is::k) {s with env:=cG s.env o.dst x,σ:=σ'} K|.panic v=>K (.panic v) {s with σ:=σ'})):
 aa P m φ n ro η (.inRegion ο (i::is)::k) s K:=λB Q kk O τ ξ ν cs W c M=>by
 have X:dC ο n s.env o:=by unfold dC;grind
 refine T.uL (λw=>iI L (lU c.size c.env X) am w) (iB ?_)
 have l:∀x∈o.op.operands,V kk (Frame.eval ⟨φ,τ,.inRegion ο (i::is)::k,ξ,.run,ν,ro⟩ x) (aA s.env x):=λx Y=>by
  refine V.eval c.env c.size x ?_;simp only[Oper.ok,vc,HV]at z
  grind
 have C:=l recv aq
 rw[R]at C;have D:=Vs.ofArray (k:=kk) (ρ:=Frame.eval ⟨φ,τ,.inRegion ο (i::is)::k,ξ,.run,ν,ro⟩) (ε:=s.env) (xs:=args) aq
 generalize Z:Frame.eval _ recv=cf at C;cases C with
 | pH _ v _ E=>
   simp only[execOp,y,resolve,Z];refine ag (an ?_);rw[xV];unfold callMethod;simp only;refine ag (cO ?_);refine ag (S kk O v _ _ E λr F=>?_)
   simp only[callFunc];refine ag (cO ?_);rw[U];have H:fn.body.isNone=false:=by cases Y:fn.body<;>simp_all
   simp only[A,H,zA,LK];refine an λ_=>⟨ap,?_⟩
   have e:#[r]++args.map (Frame.eval ⟨φ,τ,.inRegion ο (i::is)::k,ξ,.run,ν,ro⟩)=(r::(args.map (Frame.eval ⟨φ,τ,.inRegion ο (i::is)::k,ξ,.run,ν,ro⟩)).toList).toArray:=ap
   rw[e];refine h Q kk O _ ⟨φ,τ,.inRegion ο (i::is)::k,ξ,.run,ν,ro⟩ (oV s.rc cs) .normal ap (.cons F ⟨am,am⟩) c.rel ?_ ?_
   . intro p q I N σ' b d g J
     obtain⟨j,e1,e2⟩:=c.put (φ:=φ) (ro:=ro) (μ:=is) (kk:=k) b L d g;show T P m Q p q (G (Frame.finish ⟨φ,τ,.inRegion ο (i::is)::k,ξ,.run,ν,ro⟩ I) (oV s.rc cs));rw[e1];exact J (by simpa[oZ,vR]using B) Q p q j ξ ν cs W e2 (M.mono b)
   . intro p q I N σ' b d g J
     exact M.panic p q τ ξ {s with σ:=σ'} _ I N b ⟨c.size,c.env.mono b,g,c.ds.mono b,c.rc.mono b⟩ d J
def cP{ο ε o}(a:o.guard=none):dC ο n ε o:=by unfold dC;grind
def aa.defer{ο i is o fo args a f first cap}(b:ro=none)(j:ο[i]?=some o)(c:o.op=.defer ⟨.value fo,args,a⟩)(l:o.guard=none)(d:Oper.ok n o=true)
 (e:aA s.env fo=.fn f first cap) (h:aa P m φ n ro η (.inRegion ο is::k) {s with env:=cG s.env o.dst .eT,D:=.call f cap (first++args.toList.map (aA s.env))::s.D} K):aa P m φ n ro η (.inRegion ο (i::is)::k) s K:=
 λg=>Go.defer b j c (cP l) d e (h (by simpa[oZ]using g))
end
def Nz(F a:ZA)(σ σ':af):Prop:=∀b x,¬F b->σ b=some x->σ' b=some x/\¬a b
def bG:AV->Dm
 |.sl _ _ (.tok b _)=>some b
 |_=>none
def af.off(σ:af)(a:AV):af:=match bG a with|some b=>σ.del b|none=>σ
def Tok.here{σ0 σ a kk es}(h:Tok σ0 σ a kk es):Tok (σ.off a) σ a kk es/\σ0.Le (σ.off a):=by
 obtain⟨d,g⟩:=h;rcases g with⟨rfl,rfl⟩|rfl|⟨b,e,k,rfl,i⟩
 . exact⟨⟨af.le_refl _,am⟩,d⟩
 . exact⟨⟨af.le_refl _,am⟩,d⟩
 . refine⟨⟨λc x f=>?_,.inr (.inr ⟨b,e,by simp[af.off,bG,af.del],rfl,i⟩)⟩,λc x f=>?_⟩
   . simp  [af.off,bG,af.del]at f
     grind
   . have j:c≠b:=am
     simp  [af.off,bG,af.del,j];exact d c x f
def Tok.base{σ0 c σ a kk es}(h:Tok c σ a kk es)(d:σ0.Le c):Tok σ0 σ a kk es:=by
 obtain⟨f,g⟩:=h;refine⟨af.le_trans d f,?_⟩;rcases g with h|h|⟨b,e,k,i,j⟩
 . grind
 . grind
 . refine .inr (.inr ⟨b,e,?_,i,j⟩)
   cases hb:σ0 b with
   |none=>rfl
   |some x=>have:=d b x hb;grind
def Tok.beside{σ0 σ a kk es}(h:Tok σ0 σ a kk es){b x}(hb:σ0 b=none)(ht:bG a≠some b):Tok σ0 (σ.set b x) a kk es:=by
 obtain⟨d,f⟩:=h;refine⟨af.bZ d hb,?_⟩;rcases f with h|h|⟨c,e,g,rfl,i⟩
 . grind
 . grind
 . have j:c≠b:=λe=>ht (by simp[bG,e])
   grind [af.ah]
def Tok.bH{σ0 σ a kk es}(h:Tok σ0 σ a kk es){b}(hb:bG a=some b):σ0 b=none/\∃e,σ b=some (.tail e):=by
 obtain⟨f,d⟩:=h;rcases d with⟨rfl,rfl⟩|rfl|⟨c,e,g,rfl,i⟩
 . cases hb
 . cases hb
 . simp  [bG]at hb
   grind
def Tok.cells{σ0 σ a kk es}(h:Tok σ0 σ a kk es):a.cells=[a]/\a.flat=true:=by
 obtain⟨_,b⟩:=h;rcases b with⟨rfl,rfl⟩|rfl|⟨c,e,d,rfl,f⟩<;>exact⟨rfl,rfl⟩
theorem af.hQ{σ:af}{a b}(h:bG a≠some b):σ.off a b=σ b:=by
 unfold af.off;cases d:bG a with
 |none=>rfl
 | some c=>
   have:b≠c:=am;simp[af.del,this]
def af.ZG{σ:af}{a b x}(h:σ.off a b=some x):σ b=some x:=by
 unfold af.off at h;cases d:bG a with
 |none=>simp_all
 | some c=>
   rw[d]at h;simp  [af.del]at h
   grind
def jJ:AV->Dm
 |.mJ b _ _ _=>some b
 |_=>none
def af.Hq(σ:af)(a:AV):af:=match jJ a with|some b=>σ.del b|none=>σ
def af.xk{σ:af}{a b}(h:jJ a≠some b):σ.Hq a b=σ b:=by
 unfold af.Hq;cases d:jJ a with
 |none=>rfl
 | some c=>
   have:b≠c:=am;simp[af.del,this]
def af.WG{σ:af}{a}:(σ.Hq a).Le σ:=λb x h=>by
 unfold af.Hq at h;cases d:jJ a with
 |none=>simp_all
 | some c=>
   rw[d]at h;simp  [af.del]at h
   grind
def cV.cells{σ0 σ a kk es}(h:cV σ0 σ a kk es):a.cells=[a]/\a.flat=true:=by
 obtain⟨_,b⟩:=h;rcases b with⟨_,rfl|rfl⟩|⟨c,cap,μ,rfl,_⟩<;>exact⟨rfl,rfl⟩
def cV.rl{σ0 σ a kk es}(h:cV σ0 σ a kk es){b}(hb:jJ a=some b):σ0 b=none/\∃l,σ b=some (.cells l):=by
 obtain⟨e,d⟩:=h;rcases d with⟨_,rfl|rfl⟩|⟨c,cap,μ,rfl,f,_,_,g,_⟩
 . cases hb
 . cases hb
 . simp  [jJ]at hb
   grind
def cV.here{σ0 σ a kk es}(h:cV σ0 σ a kk es):cV (σ.Hq a) σ a kk es/\σ0.Le (σ.Hq a):=by
 obtain⟨d,e⟩:=h;refine⟨⟨af.WG,?_⟩,λc x g=>?_⟩
 . rcases e with h|⟨b,cap,μ,rfl,m,i,j,k,l⟩
   . grind
   . exact .inr ⟨b,cap,μ,rfl,by simp[af.Hq,jJ,af.del],i,j,k,l⟩
 . by_cases f:jJ a=some c
   . have:=(cV.rl ⟨d,e⟩ f).1
     grind
   . rw[af.xk f];exact d c x g
def cV.base{σ0 c σ a kk es}(h:cV c σ a kk es)(d:σ0.Le c):cV σ0 σ a kk es:=by
 obtain⟨e,f⟩:=h;refine⟨af.le_trans d e,?_⟩;rcases f with h|⟨b,cap,μ,rfl,l,g,i,j,k⟩
 . grind
 . refine .inr ⟨b,cap,μ,rfl,?_,g,i,j,k⟩
   cases hb:σ0 b with
   |none=>rfl
   |some x=>have:=d b x hb;grind
def cV.keep{σ0 σ d σ' a kk es}(h:cV σ0 σ a kk es)(e:d.Le σ')(hb:∀b,jJ a=some b->σ' b=σ b/\d b=none):cV d σ' a kk es:=by
 obtain⟨k,f⟩:=h;refine⟨e,?_⟩;rcases f with h|⟨c,cap,μ,rfl,l,g,i,m,j⟩
 . grind
 . exact .inr ⟨c,cap,μ,rfl,(hb c rfl).2,g,i,by rw[(hb c rfl).1];omega,j⟩
def cV.len{σ0 σ a kk es}(h:cV σ0 σ a kk es):(a=.nil/\es=[])\/(∃sp,a=.sl kk es sp)\/∃b cap,a=.mJ b 0 es.length cap:=by
 rcases h.2 with⟨rfl,rfl|rfl⟩|⟨c,cap,μ,rfl,_⟩
 . grind
 . grind
 grind
inductive Wl:We->We->Prop
 |nil:Wl [] []
 |cons {a a':AV}{l l':We}:a.W a'->Wl l l'->Wl (a::l) (a'::l')
theorem Wl.refl:∀  l ,Wl l l
 |[]=>.nil
 |a::l=>.cons (.refl a) (Wl.refl l)
def Wl.len{l a}(h:Wl l a):l.length=a.length:=by
 induction h with
 |nil=>rfl
 |cons _ _ b=>grind
def Wl.at{l c}(h:Wl l c):∀{i:Nat}{a'},c[i]?=some a'->∃a,l[i]?=some a/\a.W a':=by
 induction h with
 |nil=>grind
 |@cons a b l c d e f=>grind
def Vs.Di{k c l e}(h:Vs k c l)(f:Wl l e):Vs k c e:=⟨by rw[h.1,f.len],λi v a g ha=>by obtain⟨b,hb,d⟩:=f.at ha;exact d k v (h.2 i v b g hb)⟩
def ar.Di{P m f args args' σ KF}(h:ar P m f args' σ KF)(b:Wl args args'):ar P m f args σ KF:=λQ k O a c μ ν d e g i j=>h Q k O a c μ ν d (e.Di b) g i j
def bp{P m f fn args args' σ KF}(b:P.funcs[f]?=some fn)(hb:fn.body.isSome=true)(a:(fn.name==  "runtime.NumGoroutine")=false)(c:Wl args args')(h:ar P m f args' σ KF):
 cQ P m (.fn (.func f) [] []) args σ KF:=ai b hb a (h.Di c)
def az.Wf(k:az)(r:Nat)(c:E7)(f:Nat->FP):az:={k with cell:=λb j=>if b=r/\f j=none then c[j]? else k.cell b j}
def ahF{k O r c e f}(p:O r=some (.obj (.cells c e (0,0))))(B:k.sh r=some (e,c.size))(C:∀i v,f i=some v->c[i]?=some v):qp k O (k.Wf r c f) (O.set r (.part f)):=λw h=>by
 have y:=h.obj _ _ p
 have D:∀j,k.cell r j=none:=λj=>by
  cases q:k.cell r j with
  |none=>rfl
  |some v=>exact(h.apart _ _ _ q (.inl ⟨_,p⟩)).elim
 have t:k.Le (k.Wf r c f):=⟨λb i v l=>by
  have:¬(b=r/\f i=none):=am;simpa[az.Wf,this]using l,λ_ _ h=>h⟩
 have n:∀b,b≠r->(O.set r (.part f)) b=O b:=λb hb=>by simp[au.set,hb]
 have d:(O.set r (.part f)) r=some (.part f):=by simp[au.set]
 refine⟨⟨λb i v l z=>?_,λb i v l=>?_,h.sh,λb o hb=>?_,λb m hb=>?_,λb g hb=>?_⟩,⟨t,AK _,am,am,am,am,λb x A=>?_,λb i v l=>?_,λ_ _ h=>.inl h,ap,rfl,rfl,rfl,ap,λb g hb=>?_⟩⟩
 . by_cases hb:b=r
   . subst hb
     rcases z with⟨o,s⟩|⟨m,s,E⟩|⟨g,s,E⟩
     . grind
     . grind
     . rw[d]at s;cases s
       simp only[az.Wf,true_and]at l
       grind
   . have u:k.cell b i=some v:=by simpa[az.Wf,hb]using l
     exact h.apart b i v u (by simpa[bS,au.set,hb]using z)
 . by_cases hb:b=r/\f i=none
   . obtain⟨rfl,F⟩:=hb
     simp only[az.Wf,F,and_self,ZC]at l;simp[World.cell?,y,l]
   . exact h.cell b i v (by simpa only[az.Wf,hb,LK]using l)
 . by_cases a:b=r
   . grind
   . exact h.obj b o am
 . by_cases a:b=r
   . grind
   . exact h.tail b m am
 . by_cases a:b=r
   . subst a;rw[d]at hb;cases hb
     exact⟨c,e,y,B,C⟩
   . exact h.part b g am
 . by_cases a:b=r
   . subst a;exact .inl ⟨_,p,trivial⟩
   . rw[n b a]at A;exact .inl ⟨x,A,.refl x⟩
 . by_cases hb:b=r/\f i=none
   . obtain⟨rfl,_⟩:=hb;exact .inr (.inl (.inl ⟨_,p⟩))
   . exact .inl (by simpa only[az.Wf,hb,LK]using l)
 grind
section
variable{P:Rg}{m:Mo}{Q:ZD}{k:az}{O:au}{g:YB}{σ:af}
def T.part{r c e f}(d:O r=some (.obj (.cells c e (0,0))))(p:∀i v,f i=some v->c[i]?=some v)(b:g.status=.running)
 (h:∀k' O',k.Le k'->k'.sh r=some (e,c.size)->(∀j v,f j=none->c[j]?=some v->k'.cell r j=some v)->O'=O.set r (.part f)->T P m Q k' O' g):T P m Q k O g:=by
 by_cases a:∃w,Sat k O w
 . obtain⟨w,l⟩:=a
   have q:=(pM  d w l).2.le;have o:=ahF (k:=k.jP r (e,c.size))  d (by simp[az.jP]) p;have n:(k.jP r (e,c.size)).Le _:=(o w (pM  d w l).1).2.le;exact .ghost (pM d) (.ghost o (h _ _ (q.trans n) (by simp[az.Wf,az.jP]) (λj v s t=>by simp[az.Wf,s,t]) rfl))
 . exact .step (λ_ _ _=>False) b am λw l=>absurd ⟨w,l⟩ a
def T.Jb{b l hole f}(r:Rel k O σ)(hb:σ b=some (.cells l))(w:∀i v,f i=some v->l[i]?=some (.lit v))(E:∀i,f i=none↔i∉hole)(o:g.status=.running)
 (h:∀k' O',k.Le k'->(∀off,V k' (.pointer (some ⟨b,off,none⟩)) (.kp b l hole off))->Rel k' O' (σ.set b (.part f))->T P m Q k' O' g):T P m Q k O g:=by
 obtain⟨y,x,z⟩:=r.1 b _ hb ap;cases z with
 | cells c e _ F s A=>
   refine T.part (f:=f) x (λi v B=>?_) o λk' O' n p G q=>?_
   . have C:=w i v B
     have d:i<c.size:=am
     have t:=s i c[i] _ ap C;have:c[i]=v:=by generalize c[i]=u at t;cases t;rfl
     grind
   . refine h k' O' n (λoff=>.kp b off c.size e l hole (λj=>c.getD j undef) p ac (λj H D=>?_) (λj a D ha=>?_)) ?_
     . have d:j<c.size:=ac
       refine⟨?_,?_⟩
       . simp_all
       . exact A j _ (by simp[d])
     . have d:j<c.size:=am
       exact(s j _ a (by simp[d]) ha).mono n
     . rw[q]
       exact(r.mono n).set (.part f)
def ar.share{f args KF KF0}(h:ar P m f args σ KF0)
 (t:∀r σ',KF0 r σ'->KF r σ'\/∃b l hole F,r=.val (.ref b 0)/\σ' b=some (.cells l)/\(∀i v,F i=some v->l[i]?=some (.lit v))/\(∀i,F i=none↔i∉hole)/\KF (.val (.kp b l hole 0)) (σ'.set b (.part F))):ar P m f args σ KF:=by
 intro Q k O a c μ ν u w x y G;refine h Q k O a c μ ν u w x (λz A B C σ' d q s j=>?_) (λz A B C σ' d q s j=>?_)
 . rcases t _ _ j with j|⟨b,l,hole,F,e,hb,D,E,n⟩
   . grind
   . cases e
     cases q;exact T.Jb s hb D E (by cases ν<;>rfl) λH I g o p=>y _ _ _ _ _ (d.trans g) (o 0) p n
 grind
end
structure OR(P:Rg)(mt kt et:Nat){κ:Type}[BEq κ](ka:κ->AV)(kv:κ->Value):Prop where
 hm:P.underlying mt=some (.map kt et)
 hk:∃fs,P.underlying kt=some (.struct fs)
 val:∀{k v n},V k v (ka n)->v=kv n
 Jc:∀{k O Kp b n K},K () k O->jm P (Instr.checkKey b 10000 kt (kv n)) k O K Kp
 eq:∀{k O Kp a b K},K (a==b) k O->jm P (Op.equal kt (kv a) (kv b)) k O K Kp
section
variable{κ:Type}[BEq κ]{ka:κ->AV}{kv:κ->Value}
def tw(ka:κ->AV)(l:List (κ × AV)):uK:=.map (l.map λp=>(ka p.1,p.2))
def gg(l:List (κ × AV))(n:κ):IM:=(l.find? λp=>n==p.1).map (·.2)
variable{P:Rg}(L:lz P){k:az}{O:au}{Kp:FU}{mt kt et:Nat}
def dY{K}{t:Nat}{d}(a:P.underlying t=some d)(h:K d k O):jm P (underlying t) k O K Kp:=by refine ag (cO ?_);rw[a];exact h
theorem vG(M:OR P mt kt et ka kv){n K}:∀  es   l   j ,es.length=l.length->(∀(j:Nat) e p,es[j]?=some e->l[j]?=some p->V k e.key (ka p.1)/\V k e.val p.2) ->
 (∀a v j,gg l n=some a->V k v a->K (some (j,v)) k O)->(gg l n=none->K none k O)->jm P (Instr.findAsking kt (kv n) es j) k O K Kp
 |[],[],j,_,_,_,h=>by exact an (h rfl)
 | e ::es,p::l,j,o,d,b,f=>by
   obtain⟨g,i⟩:=d 0 e p rfl rfl;rw[Instr.findAsking,M.val g];refine ag (M.eq ?_);cases c:(n==p.1)with
   |true=>exact an (b p.2 _ _ (by simp[gg,c]) i)
   | false=>
     have m:gg (p::l) n=gg l n:=by simp[gg,c]
     rw[m]at b f;exact vG M es l _ am (λj e p q c=>d (j+1) e p am am) b f
 |[],_::_,_,h,_,_,_=>am
 |_::_,[],_,h,_,_,_=>am
def yZ(M:OR P mt kt et ka kv){n K es l}(d:es.length=l.length)(f:∀(j:Nat) e p,es[j]?=some e->l[j]?=some p->V k e.key (ka p.1)/\V k e.val p.2)
 (g:∀a v j,gg l n=some a->V k v a->K (some (j,v)) k O) (b:gg l n=none->K none k O):jm P (Instr.findKey kt (kv n) es) k O K Kp:=by
 obtain⟨fs,c⟩:=M.hk;refine ag (dY c ?_);cases es with
 | nil=>
   cases l with
   |nil=>exact an (b rfl)
   |cons p l=>grind
 | cons e es=>
   have:Instr.findNow (.struct fs) (kv n) (e::es) 0=none:=by simp[Instr.findNow,Instr.sameNow]
   grind [vG]
omit [BEq κ] in
def NA{σ}(c:Rel k O σ){b l}(hb:σ b=some (tw ka l)):∃es clock,O b=some (.obj (.map es clock))/\es.toList.length=l.length/\∀(j:Nat) e p,es.toList[j]?=some e->l[j]?=some p->V k e.key (ka p.1)/\V k e.val p.2:=by
 obtain⟨x,d,a⟩:=c.1 b _ hb (by simp[tw]);unfold tw at a;cases a with
 | map es clock m f g=>
   refine⟨es,clock,d,by simpa using f,λj e p h i=>?_⟩;exact g j e (ka p.1,p.2) (by simpa using h) (by simp[i])
variable{o:Oper}{ε:Env}{σ:af}{K Kq:CU}
def Dj(M:OR P mt kt et ka kv){p x m b l n two}(y:o.op=.lookup mt x m two)(q:L.tt et=some p)(z:aA ε x=.map b)(hi:aA ε m=ka n)(hb:σ b=some (tw ka l))
 (e:K (if two then .cx [(gg l n).getD (qZ p.zero),.lit (.bool (gg l n).isSome)]else(gg l n).getD (qZ p.zero)) σ):bt P o ε σ K Kq:=
 bt.val (s:=λf=>Instr.lookup mt (f x) (f m) two) (λf=>by simp[execOp,y]) λk O f g h=>by
  have r:=g x aq;have w:=g m aq;rw[z]at r;rw[hi]at w;rw[M.val w];generalize f x=F at r;cases r;obtain⟨es,clock,A,B,C⟩:=NA h hb;unfold Instr.lookup;refine ag (dY M.hm ?_);simp only;refine ag (s:=getObj b) ⟨_,A,rfl,an ?_⟩;refine ag (an ?_);refine ag (M.Jc ?_);refine ag (yZ M B C (λa v j t D=>?_) (λt=>?_))
  . simp only
    refine ag (an ?_);rw[t]at e;cases two with
    |false=>exact an (.here ⟨.refl k,_,σ,D,h,e⟩)
    |true=>
    refine an (.here ⟨.refl k,_,σ,.cx _ _ rfl (λi u E d c=>?_),h,e⟩)
    match i with
    |0=>grind
    |1=>simp at d c;subst d;subst c;exact .lit _
    |i+2=>grind
  . simp only
    refine ag (fA L q ?_);refine ag (an ?_);rw[t]at e;cases two with
    |false=>exact an (.here ⟨.refl k,_,σ,.qZ k _,h,e⟩)
    |true=>
    refine an (.here ⟨.refl k,_,σ,.cx _ _ rfl (λi u E d c=>?_),h,e⟩)
    match i with
    |0=>simp at d c;subst d;subst c;exact .qZ k _
    |1=>simp at d c;subst d;subst c;exact .lit _
    |i+2=>grind
def xW(M:OR P mt kt et ka kv){x f y b l n a}(r:o.op=.mapUpdate mt x f y)(t:aA ε x=.map b)(hi:aA ε f=ka n)(u:aA ε y=a)(hb:σ b=some (tw ka l))(C:gg l n=none)
 (v:K (.lit undef) (σ.set b (tw ka (l++[(n,a)])))):bt P o ε σ K Kq:=λk O d c m=>by
 have g:=c x aq;have h:=c f aq;have w:=c y aq;rw[t]at g;rw[hi]at h;rw[u]at w;have z:execOp d o=(do Instr.mapUpdate mt (d x) (d f) (d y);pure .skip):=by simp[execOp,r]
 rw[z];have i:=h;rw[M.val h]at i ⊢;generalize d x=D at g;cases g;obtain⟨es,clock,q,A,B⟩:=NA m hb;unfold Instr.mapUpdate;refine ag (ag (dY M.hm ?_));simp only;refine ag (s:=getObj b) ⟨_,q,rfl,an ?_⟩;refine ag (M.Jc ?_);refine ag (yZ M A B am (λ_=>?_));refine⟨⟨_,q,rfl⟩,rfl,an ?_⟩;refine⟨undef,am,.here ⟨.refl k,.lit undef,_,.lit _,m.set (.map _ _ _ ?_ (λj e p E F=>?_)),v⟩⟩
 . grind
 . grind
omit [BEq κ] in
def BN{mt:Nat}(ka:κ->AV)(f:o.op=.makeMap mt none)(g:∀b,σ b=none->K (.map b) (σ.set b (tw ka []))):bt P o ε σ K Kq:=
 bt.val (s:=λc=>Instr.makeMap mt none) (λc=>by simp[execOp,f]) λk O c h d=>by
  unfold Instr.makeMap;simp only;refine ag (s:=newObj _) ⟨rfl,λr a=>an ?_⟩;exact .here ⟨.made a.2.2,_,_,.map r,(d.mono (.made a.2.2)).set (.map _ _ _ rfl λj e p i=>by simp at i),g r (d.isNone a.1 a.2.2)⟩
end
structure RU(P:Rg)(mt kt et ft:Nat)  kd :Prop where
 hm:P.underlying mt=some (.map kt et)
 hk:∃f,P.underlying kt=some (.struct #[f])/\(f.name≠ "_")/\f.type=ft/\f.offset=0
 hf:P.underlying ft=some (.int kd)
 hs:P.stoodInHeld kt=false
structure Jd(P:Rg)(mt kt et ft:Nat)  kd :Prop where
 hm:P.underlying mt=some (.map kt et)
 hk:∃f g,P.underlying kt=some (.struct #[f,g])/\(f.name≠ "_"/\g.name≠ "_")/\(f.type=ft/\g.type=ft)/\f.offset=0/\g.offset=1
 hf:P.underlying ft=some (.int kd)
 hs:P.stoodInHeld kt=false
def OS(kd:IntKind)(n:Int):AV:=.agg [.lit (.int kd n)]
def wi(kd:IntKind)(p:Int × Int):AV:=.agg [.lit (.int kd p.1),.lit (.int kd p.2)]
abbrev mapA(kd:IntKind)(l:FT):uK:=tw (OS kd) l
abbrev NB(l:FT)(n:Int):IM:=gg l n
section
variable{P:Rg}(L:lz P){k:az}{O:au}{Kp:FU}{mt kt et ft:Nat}{kd:IntKind}
def lV{K i v c o}(ht:L.tt ft=some i)(ha:i.agg=false)(a:c[o]?=some v)(h:K v k O):jm P (part ft c o) k O K Kp:=by
 unfold part
 grind [ag,xe,an]
def V.OS{k:az}{v:Value}{kd:IntKind}{n:Int}(h:V k v (OS kd n)):v=.agg #[.int kd n]:=by
 cases h with
 | agg c l a b=>
   obtain⟨c⟩:=c
   match c,a with
   |[x],_=>have:=b 0 x _ rfl rfl;cases this;rfl
def V.wi{k:az}{v:Value}{kd:IntKind}{n:Int × Int}(h:V k v (wi kd n)):v=.agg #[.int kd n.1,.int kd n.2]:=by
 cases h with
 | agg c l b a=>
   obtain⟨c⟩:=c
   match c,b with
   |[x,y],_=>have d:=a 0 x _ rfl rfl;have e:=a 1 y _ rfl rfl;cases d;cases e;rfl
variable{i:TI}(ht:L.tt ft=some i)(ha:i.agg=false)
include ht ha
theorem RU.key(M:RU P mt kt et ft kd):OR P mt kt et (bu.OS kd) (λn=>.agg #[.int kd n]) where
 hm:=M.hm
 hk:=let ⟨f,h,_⟩:=M.hk;⟨_,h⟩
 val:=V.OS
 Jc {k O Kp b n K} h:=by
  obtain⟨f,c,d,e,g⟩:=M.hk;show jm P (Instr.checkKey b (9998+1+1) kt (.agg #[.int kd n])) k O K Kp;rw[Instr.checkKey];refine ag (dY c ?_);simp only[La,Kn,LR];rw[wS d,e,g];refine ag (ag (ag (lV L ht ha rfl ?_)));refine ag (ag (dY M.hf ?_))
  grind [an]
 eq {k O Kp a b K} h:=by
  obtain⟨f,c,d,e,g⟩:=M.hk;refine ag (dY c ?_);refine ag (cO ?_);rw[M.hs];simp only[zA,LK,La,Kn,LR];rw[wS d,e,g];refine ag (ag (ag (lV L ht ha (v:=.int kd a) rfl ?_)));refine ag (lV L ht ha (v:=.int kd b) rfl ?_);refine ag ?_;refine ag (dY M.hf ?_)
  grind [an]
theorem Jd.key(M:Jd P mt kt et ft kd):OR P mt kt et (bu.wi kd) (λn=>.agg #[.int kd n.1,.int kd n.2]) where
 hm:=M.hm
 hk:=let ⟨f,g,h,_⟩:=M.hk;⟨_,h⟩
 val:=V.wi
 Jc {k O Kp b n K} h:=by
  obtain⟨f,g,j,⟨l,c⟩,⟨m,d⟩,o,i⟩:=M.hk;show jm P (Instr.checkKey b (9998+1+1) kt (.agg #[.int kd n.1,.int kd n.2])) k O K Kp;rw[Instr.checkKey];refine ag (dY j ?_);simp only[La,Kn,LR];rw[wS l,wS c,m,o,d,i];refine ag (ag (ag (lV L ht ha rfl ?_)));rw[Instr.checkKey];refine ag (ag (dY M.hf ?_));refine an (an ?_);refine ag (ag (lV L ht ha rfl ?_));refine ag (ag (dY M.hf ?_))
  grind [an]
 eq {k O Kp a b K} h:=by
  obtain⟨f,g,j,⟨l,c⟩,⟨m,d⟩,o,i⟩:=M.hk;show jm P (Op.equalIn (9998+1+1) kt (.agg #[.int kd a.1,.int kd a.2]) (.agg #[.int kd b.1,.int kd b.2])) k O K Kp;rw[Op.equalIn];refine ag (dY j ?_);refine ag (cO ?_);rw[M.hs];simp only[zA,LK,La,Kn,LR];rw[wS l,wS c,m,o,d,i];refine ag (ag (ag (lV L ht ha (v:=.int kd a.1) rfl ?_)));refine ag (lV L ht ha (v:=.int kd b.1) rfl ?_);refine ag ?_;rw[Op.equalIn];refine ag (dY M.hf ?_);simp only[ZC];refine an ?_;have e:(a==b)=(a.1==b.1 && a.2==b.2):=rfl;rw[e]at h;cases p:(a.1==b.1)with
  |false=>grind [an]
  | true=>
    rw[p]at h;refine an ?_;refine ag (ag (lV L ht ha (v:=.int kd a.2) rfl ?_));refine ag (lV L ht ha (v:=.int kd b.2) rfl ?_);refine ag ?_;refine ag (dY M.hf ?_)
    grind [an]
end
section
variable{P:Rg}(L:lz P){o:Oper}{ε:Env}{σ:af}{K:CU}{Kp:CU}
def ahE{i d}(h:iA P i d=true)(a:i.kind=.iface):∃ms,d=.interface ms:=by cases d<;>simp_all [iA]
def dP{op}{t z:Nat}{x i isNil}(A:o.op=.binOp op t x (.const .nilIface) z)(ht:L.tt t=some i)(B:i.kind=.iface)
 (C:(aA ε x=.lit .nilIface/\isNil=true)\/(∃d a,aA ε x=.pH d a)/\isNil=false){b}(l:(op=.eql/\b=isNil)\/(op=.neq/\b=!isNil)) (D:K (.lit (.bool b)) σ):bt P o ε σ K Kp:=
 bt.val (s:=λc=>do eqGuard op t x (.const .nilIface) (c x) (c (.const .nilIface));binOp op t (c x) (c (.const .nilIface))) (λc=>by simp[execOp,A]) λk O c m E=>by
  have n:=m x aq
  have q:=m (.const .nilIface) aq
  have F:c (.const .nilIface)=.nilIface:=by simp only[aA]at q;generalize c (.const .nilIface)=w at q;cases q;rfl
  have f:(c x=.nilIface/\isNil=true)\/∃d v,c x=.iface d v/\isNil=false:=by
   rcases C with⟨e,h⟩|⟨⟨d,a,e⟩,h⟩<;>rw[e]at n
   . generalize c x=w at n;cases n;grind
   . generalize c x=w at n;cases n;grind
  rw[F]
  have G:eqGuard op t x (.const .nilIface) (c x) .nilIface=pure ():=by rcases f with⟨f,_⟩|⟨d,v,f,_⟩<;>rw[f]<;>rcases l with⟨rfl,_⟩|⟨rfl,_⟩<;>simp[eqGuard]
  rw[G]
  have fin:∀{s:Sem Value},s=(do pure (.bool b))->jm P s k O (λv p r=>sF p r λu H=>k.Le u/\∃a g,V u v a/\Rel u H g/\K a g) (λv p r=>k.Le p/\∃a g,V p v a/\Rel p r g/\Kp a g):=λe=>by rw[e];exact an (.here ⟨.refl k,_,σ,.lit _,E,D⟩)
  have j:∀(R:Bool->az->au->Prop) (y:FU),R isNil k O->jm P (Op.equal t (c x) .nilIface) k O R y:=λR y I=>by
   refine ag (aY L ht λd _ hd=>?_)
   obtain⟨ms,rfl⟩:=ahE hd B
   rcases f with⟨f,rfl⟩|⟨d,v,f,rfl⟩<;>rw[f]<;>exact an I
  rcases f with⟨f,J⟩|⟨d,v,f,J⟩<;>rw[f]at j ⊢<;>rcases l with⟨rfl,rfl⟩|⟨rfl,rfl⟩
  . exact ag (s:=Op.equal t .nilIface .nilIface) (j _ _ (fin rfl))
  . exact ag (s:=Op.equal t .nilIface .nilIface) (j _ _ (fin rfl))
  . exact ag (s:=Op.equal t (.iface d v) .nilIface) (j _ _ (fin rfl))
  . exact ag (s:=Op.equal t (.iface d v) .nilIface) (j _ _ (fin rfl))
end
def wj(k:az)(O:au)(B:Nat)(a:Touch):Prop:=
 match a.loc with
 |.cell b=>b.block<B/\¬bS O b.block b.off/\(k.cell b.block b.off=none\/a.write=false)
 |.obj r=>r<B/\∀o,O r≠some (.obj o)
 |_=>True
def az.bot:az:=⟨λ_ _=>none,λ_=>none⟩
def au.bot:au:=λ_=>none
def az.join(k k':az):az:=⟨λb i=>match k.cell b i with|some v=>some v|none=>k'.cell b i,λb=>match k.sh b with|some s=>some s|none=>k'.sh b⟩
def az.y7(k k':az):k.Le (k.join k'):=⟨λb i v h=>by simp[az.join,h],λb s h=>by simp[az.join,h]⟩
def az.Dk{k k' O O' w}(h:Sat k O w)(a:Sat k' O' w):k'.Le (k.join k'):=⟨λb i v c=>by
 simp  [az.join];cases q:k.cell b i with
 |none=>omega
 | some u=>
   have:=h.cell b i u q;rw[a.cell b i v c]at this
   grind,λb s d=>by
 simp  [az.join];cases q:k.sh b with
 |none=>omega
 | some u=>
   have:=h.sh b u q;rw[a.sh b s d]at this
   grind⟩
theorem az.tV{k k':az}{b i v}(h:(k.join k').cell b i=some v):k.cell b i=some v\/k'.cell b i=some v:=by
 simp  [az.join]at h
 grind
theorem az.NC{k k':az}{b s}(h:(k.join k').sh b=some s):k.sh b=some s\/k'.sh b=some s:=by
 simp  [az.join]at h
 grind
def bS.own{O b i}(h:bS O b i):∃x,O b=some x:=by rcases h with⟨o,h⟩|⟨n,h,_⟩|⟨f,h,_⟩<;>exact⟨_,h⟩
theorem iR{O b i}(h:O b=none):¬bS O b i:=λa=>by
 obtain⟨x,c⟩:=a.own
 grind
structure Base where
 na:Loc->Prop
 N0:Nat
 lk:Nat
 la:Addr
 W0:World
def OT(Z:Base)(t:Trace)(i n:Nat):Prop:=if i=Z.lk then n<Z.N0\/∃p,Z.N0<=p/\t.act? p=some (.mark (.releaseMerge Z.la))/\t.heard p/\Before t n p else Knows t i n
def OT.app{Z t i n}(h:OT Z t i n)  u :OT Z (t++u) i n:=by
 unfold OT at *;split at h
 . next e=>
   rw[wS e];rcases h with h|⟨p,a,b,c,d⟩
   . omega
   have f:=lt_of_act? b;exact .inr ⟨p,a,by grind [act?_old],(heard_old f).2 c,d.app u⟩
 . next e=>rw[wN e];exact h.app u
theorem wo{Z t i n}(hi:i≠Z.lk):OT Z t i n↔Knows t i n:=by unfold OT;grind
def aem(Z:Base)(t:Trace)(i:Nat)(k:az)(O:au)(B:Nat):Prop:=∀n a,touchAt t n=some a->a.loc.isMemory=true->OT Z t i n\/wj k O B a
structure dX  Z  (kk:Zz) (OO:ZF) (J M:ZA)  w   t :Prop where
 sat:∀i,Sat (kk i) (OO i) w
 om:∀i j b x,i≠j->OO i b=some x->OO j b=none
 tW:∀i j b n v,i≠j->(kk j).cell b n=some v -> ¬bS (OO i) b n
 Hr:∀i,aem Z t i (kk i) (OO i) w.heap.size
 clean:∀said,¬Race said t
 seen:∀op∈t,op.act.low w.heap.size
 acc:∀n a,touchAt t n=some a->a.loc.isMemory=true->Knows t 0 n\/(∃j,J j/\Knows t j n)\/(∃p,M p/\Before t n p)\/(Z.na a.loc/\a.kind=.atomic/\(t.counts n->n<Z.N0))
 n0:Z.N0<=t.size
 Dl:∀n g,n<Z.N0->t.g? n=some g->g≠0->t.counts n->∃j,t.g? j=some 0/\HappensBefore t n j
 rp:∀a,Z.na (.cell a)->a.block<w.heap.size/\∀i,¬bS (OO i) a.block a.off/\(kk i).cell a.block a.off=none
 vH:∀r,Z.na (.obj r)->r<w.heap.size/\∀i o,OO i r≠some (.obj o)
 Fo:vP Z.W0 w
 mine:∀i b x,OO i b=some x->Z.W0.heap.size<=b
def dz{α:Type}(f:Nat->α)(i:Nat)(x:α):Nat->α:=λj=>if j=i then x else f j
theorem aD{α}  f   i  (x:α):dz f i x i=x:=by simp[dz]
theorem aK{α}  f  {i j}(x:α) (h:j≠i):dz f i x j=f j:=by simp[dz,h]
theorem pI{k O B e b}(a:nY k O B e)(hb:(MemAct.ofEvent e).touch?=some b):
 (∃ad,b.loc=.cell ad/\(bS O ad.block ad.off\/B<=ad.block\/(b.write=false/\∃v,k.cell ad.block ad.off=some v)))\/∃r,b.loc=.obj r/\((∃o,O r=some (.obj o))\/B<=r):=by
 obtain⟨loc,wr,c⟩:=e;cases loc with
 | cell ad=>
   simp  [nY]at a;simp  [MemAct.ofEvent,MemAct.touch?]at hb
   grind
 |obj r=>simp  [nY]at a;cases wr<;>cases c<;>simp  [MemAct.ofEvent,MemAct.touch?,td]at hb<;>subst hb<;>exact am
 |mark m=>simp  [nY]at a;cases m<;>simp_all [pG,tp,MemAct.ofEvent,MemAct.touch?]
 |_=>simp[nY]at a
def BO{k O B b e}(c:nY k O B e)(a:nF b e):(MemAct.ofEvent e).low b:=by
 obtain⟨loc,wr,d⟩:=e;cases loc with
 |cell f=>simpa[MemAct.ofEvent,MemAct.low,Loc.low,nF]using a
 |obj r=>simp  [nF]at a;cases wr<;>cases d<;>simpa[MemAct.ofEvent,MemAct.low,Loc.low]using a
 |mark m=>simp  [nY]at c;cases m<;>simp_all [pG,tp,MemAct.ofEvent,MemAct.low,nF]
 |_=>simp[nY]at c
theorem ym{t u:Trace}{n}(a:n<t.size):(t++u).counts n↔t.counts n:=by
 unfold Trace.counts
 grind [act?_old,heard_old]
section
variable{Z:Base}{kk:Zz}{OO:ZF}{J M:ZA}{w:World}{t:Trace}
def dX.Je(h:dX Z kk OO J M w t)  u :∀n g,n<Z.N0->(t++u).g? n=some g->g≠0->(t++u).counts n->∃j,(t++u).g? j=some 0/\HappensBefore (t++u) n j:=λn g b c e d=>by
 have a:n<t.size:=HL b h.n0;rw[g?_old a]at c;rw[ym a]at d;obtain⟨j,f,hb⟩:=h.Dl n g b c e d
 have i:j<t.size:=by
  unfold Trace.g? at f
  grind
 exact⟨j,by grind [g?_old],hb_app u hb⟩
def dX.own(h:dX Z kk OO J M w t){i}(av:i≠Z.lk)(hJ:i=0\/J i){k' O' w' es fn pos}(d:Eff (kk i) (OO i) w k' O' w' es.toList)(hs:Sat k' O' w'):
 dX Z (dz kk i k') (dz OO i O') J M w' (t++MemOp.ofEvents i fn pos es):=by
 have H:∀op∈MemOp.ofEvents i fn pos es,op.g=i/\∃e∈es.toList,op.act=.ofEvent e:=(by grind [Go.Conc.mem_ofEvents]);have U:∀b n,bS O' b n->bS (OO i) b n\/w.heap.size<=b:=d.Lu
 have al:∀j,j≠i->Sat (kk j) (OO j) w':=λj l=>by
  have η:∀b,b<w.heap.size->OO j b≠none->w'.heap[b]?=w.heap[b]?:=λb hb S=>by
   cases q:OO j b with
   |none=>grind
   |some x=>exact d.keep b hb (h.om j i b x l q)
  refine⟨(h.sat j).apart,λb n v K=>?_,λb s hs=>?_,λb o N=>?_,λb n S=>?_,λb f S=>?_⟩
  . have hb:=(h.sat j).xd K
    have hc:=(h.sat j).cell b n v K;have Q:=h.tW i j b n v (vj l) K;cases q:OO i b with
    |none=>have:=d.keep b hb q;simpa only[World.cell?,this]using hc
    | some x=>
      cases x with
      |obj o=>exact absurd (.inl ⟨o,q⟩) Q
      | tail m=>
        have a8:n<m:=Nat.lt_of_not_le λhh=>Q (.inr (.inl ⟨m,q,hh⟩))
        obtain⟨c,e,k,_⟩:=(h.sat i).tail b m q;obtain⟨c',T,P,Y⟩:=d.tail b m hb q c e k;simp only[World.cell?,k,T]at hc ⊢
        grind
      | part f=>
        have a8:f n=none:=K3 λhh=>Q (.inr (.inr ⟨f,q,hh⟩))
        obtain⟨c,e,k,_⟩:=(h.sat i).part b f q;obtain⟨c',T,P,Y⟩:=d.part b f hb q c e k;simp only[World.cell?,k,T]at hc ⊢
        grind
  . have hb:=(h.sat j).Rm hs
    rw[d.shape b hb];exact(h.sat j).sh b s hs
  . rw[η b ((h.sat j).AB N) am];exact(h.sat j).obj b o N
  . rw[η b ((h.sat j).AB S) am];exact(h.sat j).tail b n S
  . rw[η b ((h.sat j).AB S) am];exact(h.sat j).part b f S
 have a7:∀j b x,OO j b=some x->b<w.heap.size:=λj b x u=>(h.sat j).AB u
 have V:∀j b n v,(kk j).cell b n=some v->b<w.heap.size:=λj b n v K=>(h.sat j).xd K
 refine⟨λj=>?_,λa b c x A u=>?_,λa b c n v A K=>?_,λj=>?_,λsaid=>?_,λop C=>?_,λn a ha hm=>?_,by simp;exact FL h.n0 (Iq _ _),h.Je _,λa ha=>?_,λr hr=>?_,h.Fo.step (by rw[d.os];exact .refl _) d.output d.size (λb hb=>d.keep b (HL hb h.Fo.size) (Option.eq_none_iff_forall_ne_some.2 λx u=>by have:=h.mine i b x u;omega)),λj b x u=>?_⟩
 . grind [aD,aK]
 . by_cases ha:a=i
   . subst ha
     rw[aD]at u;rw[aK _ _ (vj A)];rcases d.own c x u with⟨y,hy,_⟩|hy
     . exact h.om a b c y A hy
     . cases q:OO b c with
       |none=>rfl
       |some z=>grind
   . rw [aK _ _ ha]at u
     by_cases hb:b=i
     . subst hb
       rw[aD];cases q:O' c with
       |none=>rfl
       | some z=>
         rcases d.own c z q with⟨y,hy,_⟩|hy
         . have:=h.om a b c x A u;grind
         grind
     . rw[aK _ _ hb];exact h.om a b c x A u
 . by_cases ha:a=i
   . subst ha
     rw[aD];rw[aK _ _ (vj A)]at K;intro hc;rcases U c n hc with hc|hc
     . exact h.tW a b c n v A K hc
     grind
   . rw [aK _ _ ha]
     by_cases hb:b=i
     . subst hb
       rw[aD]at K;intro hc;rcases d.cell c n v K with k|k|k
       . exact h.tW a b c n v A k hc
       . obtain⟨x,u⟩:=k.own
         have:=h.om b a c x (vj A) u
         grind [iR]
       . obtain⟨x,u⟩:=hc.own
         grind
     . rw[aK _ _ hb]at K;exact h.tW a b c n v A K
 ·
  intro n a ha hm;obtain⟨x,u,B⟩:=touch_of ha;rcases getElem?_append_cases u with⟨_,a9⟩|⟨_,W⟩
  . rcases h.Hr j n a (by grind [touchAt_of]) hm with hk|hk
    . exact .inl (hk.app _)
    . refine .inr ?_
      by_cases l:j=i
      . subst l
        rw[aD,aD];unfold wj at hk ⊢;split
        . next O E=>
          rw[E]at hk;obtain⟨k,T,P⟩:=hk;refine⟨HL k d.size,λhc=>?_,?_⟩
          . grind
          . rcases P with P|P
            . cases q:k'.cell O.block O.off with
              |none=>grind
              | some v=>
                rcases d.cell _ _ v q with Y|Y|Y
                . grind
                . grind
                omega
            grind
        . next r E=>
          rw[E]at hk;refine⟨HL hk.1 d.size,λo N=>?_⟩;rcases d.own r _ N with⟨y,hy,L⟩|hy
          . cases y with
            |obj o'=>grind
            |tail m=>exact L.elim
            |part f=>exact L.elim
          omega
        grind
      . rw[aK _ _ l,aK _ _ l]
        unfold wj at hk ⊢;split
        . next O E=>rw[E]at hk;exact⟨HL hk.1 d.size,hk.2⟩
        . next r E=>rw[E]at hk;exact⟨HL hk.1 d.size,hk.2⟩
        grind
  . obtain ⟨hg,e,F,D⟩:=H x W
    by_cases l:j=i
    . grind [knows_own,wo]
    . refine .inr ?_
      rw[aK _ _ l,aK _ _ l];rw[D]at B;have G:=d.evs e F;have I:=d.low e F;rcases pI G B with⟨O,E,hc⟩|⟨r,E,hc⟩
      . unfold wj;rw[E]
        have R:O.block<w'.heap.size:=by
         have:=BO G I;obtain⟨loc,wr,sy⟩:=e;cases loc with
         |cell ab=>simp only[MemAct.ofEvent,MemAct.touch?,td]at B;subst B;simp only[Loc.cell.injEq]at E;subst E;simpa[nF]using I
         |obj r=>cases wr<;>cases sy<;>simp only[MemAct.ofEvent,MemAct.touch?,td,reduceCtorEq]at B<;>subst B<;>cases E
         |mark m=>simp only[nY]at G;cases m<;>simp_all [pG,tp,MemAct.ofEvent,MemAct.touch?]
         |_=>simp[nY]at G
        refine⟨R,λX=>?_,?_⟩
        . rcases hc with hc|hc|⟨_,v,hc⟩
          . obtain⟨y,hy⟩:=hc.own
            have:=h.om i j _ y (vj l) hy
            grind [iR]
          . obtain⟨x,u⟩:=X.own
            grind
          . exact h.tW j i _ _ v l hc X
        . rcases hc with hc|hc|⟨hc,_⟩
          . cases q:(kk j).cell O.block O.off with
            |none=>grind
            |some v=>exact absurd hc (h.tW i j _ _ v (vj l) q)
          . cases q:(kk j).cell O.block O.off with
            |none=>grind
            |some v=>grind
          grind
      . unfold wj;rw[E]
        have R:r<w'.heap.size:=by
         obtain⟨loc,wr,sy⟩:=e;cases loc with
         | cell ab=>
           simp only[MemAct.ofEvent,MemAct.touch?,td]at B
           grind
         |obj r'=>simp only[nF]at I;cases wr<;>cases sy<;>simp only[MemAct.ofEvent,MemAct.touch?,td,reduceCtorEq]at B<;>subst B<;>cases E<;>exact I
         |mark m=>simp only[nY]at G;cases m<;>simp_all [pG,tp,MemAct.ofEvent,MemAct.touch?]
         |_=>simp[nY]at G
        refine⟨R,λo N=>?_⟩;rcases hc with⟨o',hc⟩|hc
        . have:=h.om j i r _ l N
          grind
        grind
 ·
  refine noRace_append (h.clean said) (λop C=>(H op C).1) λn a ha op C b hb hc=>?_
  obtain⟨hg,e,F,D⟩:=H op C;rw[D]at hb;have G:=d.evs e F;obtain⟨c1,c2,c3,c4⟩:=hc;rcases h.Hr i n a ha c2 with hk|hk
  . grind [wo]
  . exfalso
    unfold wj at hk
    grind [pI]
 . rcases Array.mem_append.1 C with C|C
   . exact MemAct.low_mono d.size (h.seen op C)
   . obtain⟨hg,e,F,D⟩:=H op C
     rw[D];exact BO (d.evs e F) (d.low e F)
 . obtain⟨x,u,B⟩:=touch_of ha
   rcases getElem?_append_cases u with⟨ax,a9⟩|⟨_,W⟩
   . rcases h.acc n a (by grind [touchAt_of]) hm with k|⟨j,l,k⟩|⟨p,hp,k⟩|k
     . exact .inl (k.app _)
     . exact .inr (.inl ⟨j,l,k.app _⟩)
     . exact .inr (.inr (.inl ⟨p,hp,k.app _⟩))
     grind [ym]
   grind [knows_own]
 . obtain⟨k,T⟩:=h.rp a ha
   refine⟨HL k d.size,λj=>?_⟩;by_cases l:j=i
   . subst l
     rw[aD,aD];refine⟨λhc=>?_,?_⟩
     . grind
     . cases q:k'.cell a.block a.off with
       |none=>rfl
       | some v=>
         rcases d.cell _ _ v q with P|P|P
         . grind
         . grind
         omega
   grind [aK]
 . obtain⟨k,T⟩:=h.vH r hr
   refine⟨HL k d.size,λj o N=>?_⟩;by_cases l:j=i
   . subst l
     rw[aD]at N;rcases d.own r _ N with⟨y,hy,L⟩|hy
     . cases y with
       |obj o'=>grind
       |tail m=>exact L.elim
       |part f=>exact L.elim
     omega
   simp_all [aK]
 . by_cases l:j=i
   . subst l
     rw[aD]at u;rcases d.own b x u with⟨y,hy,_⟩|hy
     . exact h.mine j b y hy
     . exact FL h.Fo.size hy
   . rw[aK _ _ l]at u;exact h.mine j b x u
end
