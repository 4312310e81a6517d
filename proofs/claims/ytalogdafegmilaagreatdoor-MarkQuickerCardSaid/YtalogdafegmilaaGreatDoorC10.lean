/- Part 10 of the proof. -/
import Derived.KernelRfl
import Derived.Test.YtalogdafegmilaaGreatDoorC9
set_option linter.all false
namespace Go.aN
open Go.Conc
section
variable{P:Program}(L:iE P){m:Mo}
theorem aA.start{f:FuncId}{fn:Func}{args:List AV}{σ:aa}{KF:cL->aa->Prop}{body:Code}(mu:List Nat)(hold:List Entry)(k:Nat)(hf:P.funcs[f]?=some fn)(hb:fn.body=some body)(hk:args.length=k)(hc:oB fn k=true)(hpl:mh hold body=true)
 (h:bk L m f fn.ntmps none mu hold 1000 [.code body] ⟨dK args,σ,[],.no⟩ (Nj L m fn.results.toList (nB KF))):aA P m f args σ KF:=by
 simp only[oB,Bool.and_eq_true]at hc;refine aA.thaw (aA.intro L hf hb (by rw[hk];exact Nat.le_of_ble_eq_true hc.1) ?_ (Go.bk L mu hold 1000 (by simpa[kN]using hpl) h));have:=hc.2;simpa using this
variable{fid n:Nat}{ro:Option Nat}{hold:List Entry}{s:St}{K:Exit->St->Prop}{k:List Item}
theorem ab.run(mu:List Nat){todo:List Item}(h:bk L m fid n ro mu hold 1000 todo s K):ab P m fid n ro hold todo s K:=λhpl=>Go.bk L mu hold 1000 hpl h
theorem aq{f:FuncId}{fn:Func}{args:List AV}{σ:aa}{KF:cL->aa->Prop}(hf:P.funcs[f]?=some fn)(hb:fn.body.isSome=true)(hnm:(fn.name==  "runtime.NumGoroutine")=false)(h:aA P m f args σ KF):
 dC P m (.fn (.func f) [] []) args σ KF:=.func hf hb hnm (by simpa using h)
theorem dJ{f:FuncId}{fn:Func}{first cap args args':List AV}{σ:aa}{KF:cL->aa->Prop}(hf:P.funcs[f]?=some fn)(hb:fn.body.isSome=true)(hnm:(fn.name==  "runtime.NumGoroutine")=false)(he:first++args++cap=args')(h:aA P m f args' σ KF):
 dC P m (.fn (.func f) first cap) args σ KF:=.func hf hb hnm (he ▸ h)
theorem ab.loop{c:Code}(N:Nat)(I:Nat->St->Prop)(h0:I 0 s)
 (hr:∀c0 i s,i<=N->I i s->(∀s',i<N->I (i+1) s'->ab P m fid n ro hold (.inLoop c0::k) s' K)->ab P m fid n ro hold (.code c::.inLoop c0::k) s K):ab P m fid n ro hold (.code (.loop c)::k) s K:=λhpl=>by
 have hpl':∀c0,kN hold (.code c::.inLoop c0::k)=true:=λc0=>by simpa[kN,mh]using hpl
 refine Go.loop (λa s=>∃i,a=N-i/\i<=N/\I i s) N ⟨0,by simp,by omega,h0⟩ ?_;rintro c0 a s ⟨i,rfl,hi,hI⟩ ih;exact hr c0 i s hi hI (λs' hlt hI' _=>ih (N-(i+1)) s' (by omega) ⟨i+1,rfl,by omega,hI'⟩) (hpl' c0)
theorem ab.weaken{todo:List Item}{σ:aa}(h:ab P m fid n ro hold todo {s with σ} K)(hs:σ.Le s.σ):ab P m fid n ro hold todo s K:=λhpl=>(h hpl).weaken hs
def GK:Option Code->Bool
 |none=>true
 |some .ret=>true
 |some (.exit _)=>true
 |_=>false
theorem ab.rangeFunc{f:Operand}{params:Array Tmp}{assign body:Code}(hf:Operand.ok n f=true)
 (h:kN hold [.code assign,.code body]=true->∀r l,s.σ r=none->s.σ l=none->r≠l->dC P m (ap s.env f) [.fn (.yield l) [] []] ((s.σ.set r (.raw (.deferred (some [])))).set l (.loop ⟨.ready,none,fid,n,s.env,params,assign,body,r⟩))
   (fun res σ'=>match res with
     |.val _=>∃a,σ' l=some (.loop a)/\a.state≠.busy/\GK a.pending=true/\ab P m fid n none hold ((a.pending.map Item.code).toList++k) {s with σ:=σ'.del l,D:=.mark r::s.D} K
     |.panic v=>K (.panic v) {s with σ:=σ',D:=.mark r::s.D})):ab P m fid n none hold (.code (.rangeFunc f params assign body)::k) s K:=λhpl=>by
 have h1:kN hold [.code assign,.code body]=true:=by simp only[kN,List.all_cons,mh,Bool.and_eq_true]at hpl ⊢;exact⟨hpl.1.1,hpl.1.2,rfl⟩
 refine Go.rangeFunc hf λr l a b c=>(h h1 r l a b c).mono λres σ' hr=>?_
 cases res with
 |panic v=>exact hr
 |val v=>obtain⟨al,e1,e2,e3,e4⟩:=hr;refine⟨al,e1,e2,e4 ?_⟩;simp only[kN,List.all_cons,Bool.and_eq_true,List.all_append]at hpl ⊢;refine⟨?_,hpl.2⟩;unfold GK at e3;split at e3<;>rename_i hp<;>simp_all [mh]
theorem dC.rR{l:Nat}{args:List AV}{σ:aa}{KF:cL->aa->Prop}{a:ln}{fn:Func}(hok:kN hold [.code a.assign,.code a.body]=true)(hf:P.funcs[a.fn]?=some fn)(hl:σ l=some (.loop a))(hn:args.length=a.params.size)
 (h:ab P m a.fn a.n (some l) hold [.code a.assign,.beginRound,.code a.body] ⟨fI a.env a.params.toList args,σ,[],.no⟩ (Gw l KF)):dC P m (.fn (.yield l) [] []) args σ KF:=
 .yield hf hl hn (h (by simp only[kN,List.all_cons,Bool.and_eq_true]at hok ⊢;exact⟨hok.1,trivial,hok.2⟩))
theorem ab.beginRound{l:Nat}{a:ln}(hl:s.σ l=some (.loop a))(ha:a.state=.ready)(h:ab P m fid n (some l) hold k {s with σ:=s.σ.set l (.loop {a with state:=.busy})} K):ab P m fid n (some l) hold (.beginRound::k) s K:=λhpl=>.beginRound hl ha (h (by simpa[kN,mh]using hpl))
theorem ab.freeze{todo:List Item}{env env':Env}{σ σ':aa}{D:List kL}{rc:Rec}(b:Nat)(l:List AV)(hb:σ b=some (.cells l))(henv:∀t,Fz b l (env t) (env' t))(hs:Gg b l σ σ')
 (h:ab P m fid n ro hold todo ⟨env',σ',D,rc⟩ K):ab P m fid n ro hold todo ⟨env,σ,D,rc⟩ K:=λhpl=>Go.freeze b l hb henv hs (h hpl)
end
theorem aa.le_refl(σ:aa):σ.Le σ:=λ_ _ h=>h
theorem aa.le_trans{a b c:aa}(h:a.Le b)(h':b.Le c):a.Le c:=λx y e=>h' x y (h x y e)
theorem aa.iU{σ0 σ:aa}{b:Nat}{x:jy}(h:σ0.Le σ)(hb:σ b=none):σ0.Le (σ.set b x):=λc y hy=>by
 by_cases e:c=b
 . subst e;have:=h _ _ hy;rw[hb]at this;cases this
 . simp only[aa.set,e,if_false];exact h _ _ hy
theorem aa.ig{σ0 σ:aa}{b:Nat}{x:jy}(h:σ0.Le σ)(hb:σ0 b=none):σ0.Le (σ.set b x):=λc y hy=>by
 by_cases e:c=b
 . subst e;rw[hb]at hy;cases hy
 . simp only[aa.set,e,if_false];exact h _ _ hy
theorem aa.jm{σ0 σ:aa}{b:Nat}(h:σ0.Le σ)(hb:σ0 b=none):σ0.Le (σ.del b):=λc y hy=>by
 by_cases e:c=b
 . subst e;rw[hb]at hy;cases hy
 . simp only[aa.del,e,if_false];exact h _ _ hy
theorem aa.aO{σ:aa}{b c:Nat}{x:jy}(h:(σ.set b x) c=none):c≠b/\b≠c/\σ c=none:=by
 by_cases e:c=b
 . subst e;simp[aa.set]at h
 . simp only[aa.set,e,if_false]at h
   exact⟨e,λe'=>e e'.symm,h⟩
@[simp] theorem aa.ao(σ:aa)(b:Nat)(x:jy):(σ.set b x) b=some x:=by simp[aa.set]
theorem aa.ai(σ:aa){b c:Nat}(x:jy)(h:c≠b):(σ.set b x) c=σ c:=by simp[aa.set,h]
@[simp] theorem aa.set_set(σ:aa)(b:Nat)(x y:jy):(σ.set b x).set b y=σ.set b y:=by funext c;by_cases e:c=b<;>simp[aa.set,e]
section
variable{P:Program}(L:iE P)(m:Mo)(fid n f:Nat)(ro:Option Nat)(mu:List Nat)(hold:List Entry)
def stepW(ops:Array Oper)(is:List Nat)(k:List Item)(dst:Option Tmp)(s:St)(K:Exit->St->Prop)(x:Out):Prop:=pP x (λa σ'=>bk L m fid n ro mu hold f (.inRegion ops is::k) {s with env:=bd s.env dst a,σ:=σ'} K) (λa σ'=>K (.panic a) {s with σ:=σ'})
def Nw(ops:Array Oper)(is:List Nat)(k:List Item)(dst:Option Tmp)(s:St)(K:Exit->St->Prop)(σ:aa)(x:Option AV):Prop:=stepW L m fid n f ro mu hold ops is k dst s K (.opt x σ)
def cT(ops:Array Oper)(is:List Nat)(k:List Item)(dst:Option Tmp)(s:St)(K:Exit->St->Prop)(σ:aa)(c:List AV):Prop:=stepW L m fid n f ro mu hold ops is k dst s K (.new σ c)
def wk(ops:Array Oper)(i:Nat)(is:List Nat)(k:List Item)(o:Oper)(s:St)(K:Exit->St->Prop)(x:Option Bool):Prop:=
 JI x (if nN L o=true then pP (ys L mu o s.env s.σ) (λa σ'=>bk L m fid n ro mu hold f (.inRegion ops is::k) {s with env:=bd s.env o.dst a,σ:=σ'} K) (λa σ'=>K (.panic a) {s with σ:=σ'})
        else if sV o.op=true then JJ (P:=P) m o s.env s.σ (λa σ'=>ab P m fid n ro hold (.inRegion ops is::k) {s with env:=bd s.env o.dst a,σ:=σ'} K) (λa σ'=>∀env,K (.panic a) {s with env,σ:=σ'})
        else ab P m fid n ro hold (.inRegion ops (i::is)::k) s K) (bk L m fid n ro mu hold f (.inRegion ops is::k) {s with env:=bd s.env o.dst (.lit (.tuple #[]))} K)
def aK(a b:Code)(k:List Item)(s:St)(K:Exit->St->Prop)(x:Bool):Prop:=sT x (bk L m fid n ro mu hold f (.code a::k) s K) (bk L m fid n ro mu hold f (.code b::k) s K)
def Nx(P:Program)(m:Mo)(fid n:Nat)(ro:Option Nat)(hold:List Entry)(k:List Item)(s:St)(K:Exit->St->Prop):Env->aa->Prop:=λenv σ=>ab P m fid n ro hold k {s with env,σ} K
def Ny(s:St)(K:Exit->St->Prop):AV->aa->Prop:=λv σ=>∀env,K (.panic v) {s with env,σ}
variable{L m fid n f ro mu hold}{s:St}{K:Exit->St->Prop}{k:List Item}{ops:Array Oper}{i:Nat}{is:List Nat}{dst:Option Tmp}{σ:aa}
@[simp] theorem Nz{env:Env}:Nx P m fid n ro hold k s K env σ=ab P m fid n ro hold k {s with env,σ} K:=propext Iff.rfl
@[simp] theorem NA{v:AV}:Ny s K v σ=∀env,K (.panic v) {s with env,σ}:=propext Iff.rfl
@[simp] theorem NB{a:AV}:stepW L m fid n f ro mu hold ops is k dst s K (.ok a σ)=bk L m fid n ro mu hold f (.inRegion ops is::k) {s with env:=bd s.env dst a,σ:=σ} K:=propext Iff.rfl
@[simp] theorem LM{p:Prop}{x:Out}:stepW L m fid n f ro mu hold ops is k dst s K (.ga p x)=(p/\stepW L m fid n f ro mu hold ops is k dst s K x):=propext Iff.rfl
@[simp] theorem MH{c:List AV}:stepW L m fid n f ro mu hold ops is k dst s K (.new σ c)=cT L m fid n f ro mu hold ops is k dst s K σ c:=propext Iff.rfl
@[simp] theorem MI{x:Option AV}:stepW L m fid n f ro mu hold ops is k dst s K (.opt x σ)=Nw L m fid n f ro mu hold ops is k dst s K σ x:=propext Iff.rfl
@[simp] theorem MJ{a:AV}:Nw L m fid n f ro mu hold ops is k dst s K σ (some a)=bk L m fid n ro mu hold f (.inRegion ops is::k) {s with env:=bd s.env dst a,σ:=σ} K:=propext Iff.rfl
theorem cT.intro{c:List AV}(h:∀b,σ b=none->bk L m fid n ro mu hold f (.inRegion ops is::k) {s with env:=bd s.env dst (.ref b 0),σ:=σ.set b (.cells c)} K):cT L m fid n f ro mu hold ops is k dst s K σ c:=h
@[simp] theorem NC{o:Oper}:wk L m fid n f ro mu hold ops i is k o s K (some true)=(if nN L o=true then stepW L m fid n f ro mu hold ops is k o.dst s K (ys L mu o s.env s.σ)
   else if sV o.op=true then JJ (P:=P) m o s.env s.σ (λa σ'=>ab P m fid n ro hold (.inRegion ops is::k) {s with env:=bd s.env o.dst a,σ:=σ'} K) (λa σ'=>∀env,K (.panic a) {s with env,σ:=σ'})
   else ab P m fid n ro hold (.inRegion ops (i::is)::k) s K):=by unfold wk;rw[mn,mP];rfl
@[simp] theorem MK{o:Oper}:wk L m fid n f ro mu hold ops i is k o s K (some false)=bk L m fid n ro mu hold f (.inRegion ops is::k) {s with env:=bd s.env o.dst (.lit (.tuple #[]))} K:=by unfold wk;rw[mn,lu]
theorem wk.intro{o:Oper}{x:Bool}(h1:x=true->wk L m fid n f ro mu hold ops i is k o s K (some true))(h2:x=false->wk L m fid n f ro mu hold ops i is k o s K (some false)):wk L m fid n f ro mu hold ops i is k o s K (some x):=by cases x with|true=>exact h1 rfl|false=>exact h2 rfl
@[simp] theorem LN{a b:Code}:aK L m fid n f ro mu hold a b k s K true=bk L m fid n ro mu hold f (.code a::k) s K:=by unfold aK;rw[mP]
@[simp] theorem K2{a b:Code}:aK L m fid n f ro mu hold a b k s K false=bk L m fid n ro mu hold f (.code b::k) s K:=by unfold aK;rw[lu]
@[simp] theorem ML{a b:Code}{x:Bool}:aK L m fid n f ro mu hold a b k s K (!x)=aK L m fid n f ro mu hold b a k s K x:=by cases x<;>simp
theorem aK.intro{a b:Code}{x:Bool}(h1:x=true->bk L m fid n ro mu hold f (.code a::k) s K)(h2:x=false->bk L m fid n ro mu hold f (.code b::k) s K):aK L m fid n f ro mu hold a b k s K x:=⟨h1,h2⟩
@[simp] theorem ND :bk L m fid n ro mu hold (f+1) ([]) s K=K (.leave none) s:=propext Iff.rfl
@[simp] theorem NE :bk L m fid n ro mu hold (f+1) (.code .ret::k) s K=K (.leave (some .ret)) s:=propext Iff.rfl
@[simp] theorem MM :bk L m fid n ro mu hold (f+1) (.code .skip::k) s K=bk L m fid n ro mu hold f k s K:=propext Iff.rfl
@[simp] theorem LO{l:Nat}:bk L m fid n ro mu hold (f+1) (.code (.label l)::k) s K=bk L m fid n ro mu hold f k s K:=propext Iff.rfl
@[simp] theorem JS{id:Nat}:bk L m fid n ro mu hold (f+1) (.inBlock id::k) s K=bk L m fid n ro mu hold f k s K:=propext Iff.rfl
@[simp] theorem NF{a b:Code}:bk L m fid n ro mu hold (f+1) (.code (.seq a b)::k) s K=bk L m fid n ro mu hold f (.code a::.code b::k) s K:=propext Iff.rfl
@[simp] theorem LP{id:Nat}{c:Code}:bk L m fid n ro mu hold (f+1) (.code (.block id c)::k) s K=bk L m fid n ro mu hold f (.code c::.inBlock id::k) s K:=propext Iff.rfl
@[simp] theorem LQ{c:Code}:bk L m fid n ro mu hold (f+1) (.code (.scope c)::k) s K=bk L m fid n ro mu hold f (.code c::.inScope c::k) s K:=propext Iff.rfl
@[simp] theorem MN{id:Nat}:bk L m fid n ro mu hold (f+1) (.code (.exit id)::k) s K=(match exitTo id k with
   |some k'=>bk L m fid n ro mu hold f k' s K
   |none=>K (.leave (some (.exit id))) s):=propext Iff.rfl
@[simp] theorem MO{c:Operand}{a b:Code}:bk L m fid n ro mu hold (f+1) (.code (.cond c a b)::k) s K=(Operand.ok n c=true/\(match ap s.env c with
   |.lit (.bool x)=>aK L m fid n f ro mu hold a b k s K x
   |_=>False)):=propext Iff.rfl
@[simp] theorem K3{id:Nat}:bk L m fid n ro mu hold (f+1) (.code (.region id ops false)::k) s K=bk L m fid n ro mu hold f (.inRegion ops (List.range ops.size)::k) s K:=propext Iff.rfl
@[simp] theorem MP{id:Nat}:bk L m fid n ro mu hold (f+1) (.code (.region id ops true)::k) s K=(match hold.find? λe=>e.id==id with
   |some ⟨_,p⟩=>gM L m mu ops n (Ny s K) p s.env s.σ (Nx P m fid n ro hold k s K)
   |none=>ab P m fid n ro hold (.code (.region id ops true)::k) s K):=propext Iff.rfl
@[simp] theorem GL :bk L m fid n ro mu hold (f+1) (.inRegion ops []::k) s K=bk L m fid n ro mu hold f k s K:=propext Iff.rfl
@[simp] theorem Jw :bk L m fid n ro mu hold (f+1) (.inRegion ops (i::is)::k) s K=(match ops[i]? with
   |some o=>Oper.ok n o=true/\wk L m fid n f ro mu hold ops i is k o s K (uE ops n s.env o)
   |none=>ab P m fid n ro hold (.inRegion ops (i::is)::k) s K):=propext Iff.rfl
@[simp] theorem MQ{c:Code}:bk L m fid n ro mu hold (f+1) (.code (.loop c)::k) s K=ab P m fid n ro hold (.code (.loop c)::k) s K:=propext Iff.rfl
@[simp] theorem K4{c:Code}:bk L m fid n ro mu hold (f+1) (.inLoop c::k) s K=ab P m fid n ro hold (.inLoop c::k) s K:=propext Iff.rfl
@[simp] theorem GM{x:Operand}{ps:Array Tmp}{c d:Code}:bk L m fid n ro mu hold (f+1) (.code (.rangeFunc x ps c d)::k) s K=ab P m fid n ro hold (.code (.rangeFunc x ps c d)::k) s K:=propext Iff.rfl
@[simp] theorem Gi :bk L m fid n ro mu hold (f+1) (.beginRound::k) s K=ab P m fid n ro hold (.beginRound::k) s K:=propext Iff.rfl
end
section
variable{P:Program}(L:iE P)(m:Mo)(n:Nat)(mu:List Nat)(ops:Array Oper)(Kp:AV->aa->Prop)(R:Env->aa->Prop)
def uW(lt:Bool)(σ:aa)(p:ke)(S:List Nat)(env:Env):Prop:=BZ L mu ops n lt σ (λenv1=>gM L m mu ops n Kp p env1 σ R) .mk S env
def Am(lt:Bool)(σ:aa)(p:ke)(S:List Nat)(dst:Option Tmp)(env:Env)(x:Option AV):Prop:=wj x λa=>uW L m n mu ops Kp R lt σ p S (bd env dst a)
def Jx(lt:Bool)(σ:aa)(p:ke)(S:List Nat)(o:Oper)(env:Env)(x:Option Bool):Prop:=JI x (Am L m n mu ops Kp R lt σ p S o.dst env (BY L mu lt o env σ)) (uW L m n mu ops Kp R lt σ p S (bd env o.dst (.lit (.tuple #[]))))
def s9(p:ke)(dst:Option Tmp)(env:Env)(x:Out):Prop:=pP x (λa σ'=>gM L m mu ops n Kp p (bd env dst a) σ' R) Kp
def NG(p:ke)(dst:Option Tmp)(env:Env)(σ:aa)(x:Option AV):Prop:=s9 L m n mu ops Kp R p dst env (.opt x σ)
def z9(p:ke)(dst:Option Tmp)(env:Env)(σ:aa)(c:List AV):Prop:=s9 L m n mu ops Kp R p dst env (.new σ c)
def MR(i:Nat)(p:ke)(o:Oper)(env:Env)(σ:aa)(x:Option Bool):Prop:=
 JI x (if nN L o=true then pP (ys L mu o env σ) (λa σ'=>gM L m mu ops n Kp p (bd env o.dst a) σ' R) Kp else
    if sV o.op=true then JJ (P:=P) m o env σ (λa σ'=>bm P m ops n Kp p (bd env o.dst a) σ' R) Kp else iP P m ops n Kp i env σ (λenv σ=>bm P m ops n Kp p env σ R)) (gM L m mu ops n Kp p (bd env o.dst (.lit (.tuple #[]))) σ R)
variable{L m n mu ops Kp R}{i:Nat}{lt:Bool}{env:Env}{σ:aa}{p q:ke}{S:List Nat}{dst:Option Tmp}
@[simp] theorem MT:gM L m mu ops n Kp .done env σ R=R env σ:=propext Iff.rfl
@[simp] theorem MU:gM L m mu ops n Kp (.take S lt p) env σ R=uW L m n mu ops Kp R lt σ p S env:=propext Iff.rfl
@[simp] theorem NH:gM L m mu ops n Kp (.one i p) env σ R=(match ops[i]? with|some o=>Oper.ok n o=true/\MR L m n mu ops Kp R i p o env σ (uE ops n env o)|none=>False):=propext Iff.rfl
@[simp] theorem MV:gM L m mu ops n Kp (.both i p q) env σ R=((match ops[i]? with|some o=>Oper.ok n o=true/\MR L m n mu ops Kp R i p o env σ (uE ops n env o)|none=>False)/\gM L m mu ops n Kp q env σ R):=propext Iff.rfl
@[simp] theorem MX:uW L m n mu ops Kp R lt σ p [] env=gM L m mu ops n Kp p env σ R:=propext Iff.rfl
@[simp] theorem LR:uW L m n mu ops Kp R lt σ p (i::S) env=(match ops[i]? with|some o=>(Oper.ok n o && o.dst.isSome)=true/\Jx L m n mu ops Kp R lt σ p S o env (uE ops n env o)|none=>False):=propext Iff.rfl
@[simp] theorem MY{a:AV}:Am L m n mu ops Kp R lt σ p S dst env (some a)=uW L m n mu ops Kp R lt σ p S (bd env dst a):=by unfold Am;rw[Er]
@[simp] theorem MZ:Am L m n mu ops Kp R lt σ p S dst env none=False:=by unfold Am;rw[Es]
@[simp] theorem O8{c:Prop}[Decidable c]{x:Option AV}:Am L m n mu ops Kp R lt σ p S dst env (if c then x else none)=(c/\Am L m n mu ops Kp R lt σ p S dst env x):=by by_cases h:c<;>simp[h]
@[simp] theorem NI{o:Oper}:Jx L m n mu ops Kp R lt σ p S o env (some true)=Am L m n mu ops Kp R lt σ p S o.dst env (BY L mu lt o env σ):=by unfold Jx;rw[mn,mP]
@[simp] theorem M0{o:Oper}:Jx L m n mu ops Kp R lt σ p S o env (some false)=uW L m n mu ops Kp R lt σ p S (bd env o.dst (.lit (.tuple #[]))):=by unfold Jx;rw[mn,lu]
theorem Jx.intro{o:Oper}{x:Bool}(h1:x=true->Jx L m n mu ops Kp R lt σ p S o env (some true))(h2:x=false->Jx L m n mu ops Kp R lt σ p S o env (some false)):Jx L m n mu ops Kp R lt σ p S o env (some x):=by cases x with|true=>exact h1 rfl|false=>exact h2 rfl
@[simp] theorem NJ{a:AV}:s9 L m n mu ops Kp R p dst env (.ok a σ)=gM L m mu ops n Kp p (bd env dst a) σ R:=propext Iff.rfl
@[simp] theorem LS{c:Prop}{x:Out}:s9 L m n mu ops Kp R p dst env (.ga c x)=(c/\s9 L m n mu ops Kp R p dst env x):=propext Iff.rfl
@[simp] theorem M3{c:List AV}:s9 L m n mu ops Kp R p dst env (.new σ c)=z9 L m n mu ops Kp R p dst env σ c:=propext Iff.rfl
@[simp] theorem M4{x:Option AV}:s9 L m n mu ops Kp R p dst env (.opt x σ)=NG L m n mu ops Kp R p dst env σ x:=propext Iff.rfl
@[simp] theorem M5{a:AV}:NG L m n mu ops Kp R p dst env σ (some a)=gM L m mu ops n Kp p (bd env dst a) σ R:=propext Iff.rfl
theorem z9.intro{c:List AV}(h:∀b,σ b=none->gM L m mu ops n Kp p (bd env dst (.ref b 0)) (σ.set b (.cells c)) R):z9 L m n mu ops Kp R p dst env σ c:=h
@[simp] theorem NK{o:Oper}:MR L m n mu ops Kp R i p o env σ (some true)=(if nN L o=true then s9 L m n mu ops Kp R p o.dst env (ys L mu o env σ)else
   if sV o.op=true then JJ (P:=P) m o env σ (λa σ'=>bm P m ops n Kp p (bd env o.dst a) σ' R) Kp else iP P m ops n Kp i env σ (λenv σ=>bm P m ops n Kp p env σ R)):=by unfold MR;rw[mn,mP];rfl
@[simp] theorem M6{o:Oper}:MR L m n mu ops Kp R i p o env σ (some false)=gM L m mu ops n Kp p (bd env o.dst (.lit (.tuple #[]))) σ R:=by unfold MR;rw[mn,lu]
end
@[simp] theorem LT{l c:List AV}(h:c.length=l.length):aS l 0 c=c:=by unfold aS;simp[h]
@[simp high] theorem uX{l:List AV}{off:Nat}{v:AV}(h:off<l.length):aS l off [v]=l.set off v:=by unfold aS;rw[List.set_eq_take_append_cons_drop,if_pos h];simp
attribute [simp] BY tD me uz ys nN uE sV JJ JH BX Function.comp_def
def uY(P:Program)(t:TypeId)(name:String)(f:FuncId)(a a':AV):Prop:=∀k O v (K:FuncId × Value->ag->ah->Prop) Kp,V k v a->(∀r,V k r a'->K (f,r) k O)->eE P (method (P.types.size+Made.depth) t v name) k O K Kp
section
variable{P:Program}{m:Mo}{fid n:Nat}{ro:Option Nat}{hold:List Entry}{s:St}{K:Exit->St->Prop}{k:List Item}
theorem wm{name:String}{recv:Value}{c ra:Array Value}:Go.invoke (.fn (.method name) c) (#[recv]++ra)=callMethod recv name ra:=by
 have h1:(#[recv]++ra)[0]?=some recv:=by rw[Array.getElem?_append_left (by simp)];rfl
 have h2:(#[recv]++ra).extract 1 (#[recv]++ra).size=ra:=by apply Array.ext';rw[Array.toList_extract];simp[List.extract];rw[<-Array.length_toList,List.take_length]
 simp only[Go.invoke,h1,h2]
theorem ab.invoke{ops:Array Oper}{i:Nat}{is:List Nat}{o:Oper}{recv:Operand}{name:String}{args:Array Operand}{tys:Array TypeId}{t f:Nat}{a a':AV}{fn:Func}(ho:ops[i]?=some o)(hop:o.op=.call ⟨.invoke recv name,args,tys⟩)(hg:o.guard=none)(hok:Oper.ok n o=true)
 (hr:ap s.env recv=.nI t a) (hm:uY P t name f a a') (hf:P.funcs[f]?=some fn) (hb:fn.body.isSome=true) (hnm:(fn.name==  "runtime.NumGoroutine")=false)
 (h:aA P m f (a'::args.toList.map (ap s.env)) s.σ (λr σ'=>match r with|.val x=>ab P m fid n ro hold (.inRegion ops is::k) {s with env:=bd s.env o.dst x,σ:=σ'} K|.panic v=>K (.panic v) {s with σ:=σ'})):
 ab P m fid n ro hold (.inRegion ops (i::is)::k) s K:=λhpl Q kk O tmps defs kind cs h1 h2 h3=>by
 have hw:bS ops n s.env o:=by unfold bS;rw[hg];trivial
 refine T.ov (λw=>dT ho (iq h2.size h2.env hw) (.inr λc e=>by rw[hop]at e;cases e) w) (fg ?_)
 have hops:∀x∈o.op.operands,V kk (Frame.eval ⟨fid,tmps,.inRegion ops (i::is)::k,defs,.run,kind,ro⟩ x) (ap s.env x):=λx hx=>by refine V.eval h2.env h2.size x ?_;simp only[Oper.ok,Bool.and_eq_true,Array.all_eq_true_iff_forall_mem]at hok;exact hok.1 x hx
 have hv:=hops recv (by simp[hop,Op.operands,Call.operands])
 rw[hr]at hv;have hargs:=Vs.ofArray (k:=kk) (ρ:=Frame.eval ⟨fid,tmps,.inRegion ops (i::is)::k,defs,.run,kind,ro⟩) (env:=s.env) (xs:=args) (λx hx=>hops x (by simp[hop,Op.operands,Call.operands,hx]))
 generalize hq:Frame.eval _ recv=cf at hv;cases hv with
 | nI _ v _ hva=>
   simp only[execOp,hop,resolve,hq];refine af (aj ?_);rw[wm];unfold callMethod;simp only;refine af (bN ?_);refine af (hm kk O v _ _ hva λr hra=>?_)
   simp only[callFunc];refine af (bN ?_);rw[hf];have hb':fn.body.isNone=false:=by cases hx:fn.body<;>simp_all
   simp only[hnm,hb',Bool.false_eq_true,if_false];refine aj λ_=>⟨by simp,?_⟩
   have e:#[r]++args.map (Frame.eval ⟨fid,tmps,.inRegion ops (i::is)::k,defs,.run,kind,ro⟩)=(r::(args.map (Frame.eval ⟨fid,tmps,.inRegion ops (i::is)::k,defs,.run,kind,ro⟩)).toList).toArray:=by simp
   rw[e];refine h Q kk O _ ⟨fid,tmps,.inRegion ops (i::is)::k,defs,.run,kind,ro⟩ (fM s.rc cs) .normal (by simp) (.cons hra ⟨by simpa using hargs.1,λj v a hv ha=>hargs.2 j v a (by simpa using hv) ha⟩) h2.rel ?_ ?_
   . intro k' O' cv av σ' hle hcv hr' hK
     obtain⟨tmps',e1,e2⟩:=h2.put (fid:=fid) (ro:=ro) (rest:=is) (kk:=k) hle ho hcv hr';show T P m Q k' O' (G (Frame.finish ⟨fid,tmps,.inRegion ops (i::is)::k,defs,.run,kind,ro⟩ cv) (fM s.rc cs));rw[e1];exact hK (by simpa[kN,mh]using hpl) Q k' O' tmps' defs kind cs h1 e2 (h3.mono hle)
   . intro k' O' cv av σ' hle hcv hr' hK
     exact h3.panic k' O' tmps defs {s with σ:=σ'} _ cv av hle ⟨h2.size,h2.env.mono hle,hr',h2.ds.mono hle,h2.rc.mono hle⟩ hcv hK
theorem eT{ops:Array Oper}{env:Env}{o:Oper}(hg:o.guard=none):bS ops n env o:=by unfold bS;rw[hg];trivial
theorem ab.defer{ops:Array Oper}{i:Nat}{is:List Nat}{o:Oper}{fo:Operand}{args:Array Operand}{tys:Array TypeId}{f:Fn}{first cap:List AV}(hro:ro=none)(ho:ops[i]?=some o)(hop:o.op=.defer ⟨.value fo,args,tys⟩)(hg:o.guard=none)(hok:Oper.ok n o=true)
 (hfo:ap s.env fo=.fn f first cap) (h:ab P m fid n ro hold (.inRegion ops is::k) {s with env:=bd s.env o.dst .bL,D:=.call f cap (first++args.toList.map (ap s.env))::s.D} K):ab P m fid n ro hold (.inRegion ops (i::is)::k) s K:=
 λhpl=>Go.defer hro ho hop (eT hg) hok hfo (h (by simpa[kN,mh]using hpl))
end
def Dp(F F':Nat->Prop)(σ σ':aa):Prop:=∀b x,¬F b->σ b=some x->σ' b=some x/\¬F' b
def bJ:AV->Option Nat
 |.sl _ _ (.tok b _)=>some b
 |_=>none
def aa.off(σ:aa)(a:AV):aa:=match bJ a with|some b=>σ.del b|none=>σ
theorem Tok.here{σ0 σ:aa}{a:AV}{kk:Nat}{es:List AV}(h:Tok σ0 σ a kk es):Tok (σ.off a) σ a kk es/\σ0.Le (σ.off a):=by
 obtain⟨h1,h2⟩:=h;rcases h2 with⟨rfl,rfl⟩|rfl|⟨b,e,h3,rfl,h4⟩
 . exact⟨⟨aa.le_refl _,.inl ⟨rfl,rfl⟩⟩,h1⟩
 . exact⟨⟨aa.le_refl _,.inr (.inl rfl)⟩,h1⟩
 . refine⟨⟨λc x hx=>?_,.inr (.inr ⟨b,e,by simp[aa.off,bJ,aa.del],rfl,h4⟩)⟩,λc x hx=>?_⟩
   . simp only[aa.off,bJ,aa.del]at hx
     split at hx
     . cases hx
     . exact hx
   . have hc:c≠b:=λe=>by subst e;rw[h3]at hx;cases hx
     simp only[aa.off,bJ,aa.del,hc,if_false];exact h1 c x hx
theorem Tok.base{σ0 σ1 σ:aa}{a:AV}{kk:Nat}{es:List AV}(h:Tok σ1 σ a kk es)(h0:σ0.Le σ1):Tok σ0 σ a kk es:=by
 obtain⟨h1,h2⟩:=h;refine⟨aa.le_trans h0 h1,?_⟩;rcases h2 with h|h|⟨b,e,h3,h4,h5⟩
 . exact .inl h
 . exact .inr (.inl h)
 . refine .inr (.inr ⟨b,e,?_,h4,h5⟩)
   cases hb:σ0 b with
   |none=>rfl
   |some x=>have:=h0 b x hb;rw[h3]at this;cases this
theorem Tok.beside{σ0 σ:aa}{a:AV}{kk:Nat}{es:List AV}(h:Tok σ0 σ a kk es){b:Nat}{x:jy}(hb:σ0 b=none)(ht:bJ a≠some b):Tok σ0 (σ.set b x) a kk es:=by
 obtain⟨h1,h2⟩:=h;refine⟨aa.ig h1 hb,?_⟩;rcases h2 with h|h|⟨c,e,h3,rfl,h5⟩
 . exact .inl h
 . exact .inr (.inl h)
 . refine .inr (.inr ⟨c,e,h3,rfl,?_⟩)
   have hc:c≠b:=λe=>ht (by simp[bJ,e])
   rw[aa.ai _ _ hc];exact h5
theorem Tok.aW{σ0 σ:aa}{a:AV}{kk:Nat}{es:List AV}(h:Tok σ0 σ a kk es){b:Nat}(hb:bJ a=some b):σ0 b=none/\∃e,σ b=some (.tail e):=by
 obtain⟨h1,h2⟩:=h;rcases h2 with⟨rfl,rfl⟩|rfl|⟨c,e,h3,rfl,h5⟩
 . cases hb
 . cases hb
 . simp only[bJ,Option.some.injEq]at hb
   subst hb;exact⟨h3,e,h5⟩
theorem Tok.cells{σ0 σ:aa}{a:AV}{kk:Nat}{es:List AV}(h:Tok σ0 σ a kk es):a.cells=[a]/\a.flat=true:=by
 obtain⟨_,h2⟩:=h;rcases h2 with⟨rfl,rfl⟩|rfl|⟨c,e,h3,rfl,h5⟩<;>exact⟨rfl,rfl⟩
theorem aa.fU{σ:aa}{a:AV}{b:Nat}(h:bJ a≠some b):σ.off a b=σ b:=by
 unfold aa.off;cases hc:bJ a with
 |none=>rfl
 | some c=>
   have:b≠c:=λe=>h (by rw[hc,e])
   simp[aa.del,this]
def eh:AV->Option Nat
 |.fZ b _ _ _=>some b
 |_=>none
def aa.yz(σ:aa)(a:AV):aa:=match eh a with|some b=>σ.del b|none=>σ
theorem aa.oQ{σ:aa}{a:AV}{b:Nat}(h:eh a≠some b):σ.yz a b=σ b:=by
 unfold aa.yz;cases hc:eh a with
 |none=>rfl
 | some c=>
   have:b≠c:=λe=>h (by rw[hc,e])
   simp[aa.del,this]
theorem aa.JT{σ:aa}{a:AV}:(σ.yz a).Le σ:=λb x h=>by
 unfold aa.yz at h;cases hc:eh a with
 |none=>rw[hc]at h;exact h
 | some c=>
   rw[hc]at h;simp only[aa.del]at h;split at h
   . cases h
   . exact h
theorem bG.cells{σ0 σ:aa}{a:AV}{kk:Nat}{es:List AV}(h:bG σ0 σ a kk es):a.cells=[a]/\a.flat=true:=by
 obtain⟨_,h2⟩:=h;rcases h2 with⟨_,rfl|rfl⟩|⟨c,cap,rest,rfl,_⟩<;>exact⟨rfl,rfl⟩
theorem bG.kO{σ0 σ:aa}{a:AV}{kk:Nat}{es:List AV}(h:bG σ0 σ a kk es){b:Nat}(hb:eh a=some b):σ0 b=none/\∃l,σ b=some (.cells l):=by
 obtain⟨h1,h2⟩:=h;rcases h2 with⟨_,rfl|rfl⟩|⟨c,cap,rest,rfl,h3,_,_,h5,_⟩
 . cases hb
 . cases hb
 . simp only[eh,Option.some.injEq]at hb
   subst hb;exact⟨h3,_,h5⟩
theorem bG.here{σ0 σ:aa}{a:AV}{kk:Nat}{es:List AV}(h:bG σ0 σ a kk es):bG (σ.yz a) σ a kk es/\σ0.Le (σ.yz a):=by
 obtain⟨h1,h2⟩:=h;refine⟨⟨aa.JT,?_⟩,λc x hx=>?_⟩
 . rcases h2 with h|⟨b,cap,rest,rfl,h3,h4,h5,h6,h7⟩
   . exact .inl h
   . exact .inr ⟨b,cap,rest,rfl,by simp[aa.yz,eh,aa.del],h4,h5,h6,h7⟩
 . by_cases hc:eh a=some c
   . have:=(bG.kO ⟨h1,h2⟩ hc).1
     rw[hx]at this;cases this
   . rw[aa.oQ hc];exact h1 c x hx
theorem bG.base{σ0 σ1 σ:aa}{a:AV}{kk:Nat}{es:List AV}(h:bG σ1 σ a kk es)(h0:σ0.Le σ1):bG σ0 σ a kk es:=by
 obtain⟨h1,h2⟩:=h;refine⟨aa.le_trans h0 h1,?_⟩;rcases h2 with h|⟨b,cap,rest,rfl,h3,h4,h5,h6,h7⟩
 . exact .inl h
 . refine .inr ⟨b,cap,rest,rfl,?_,h4,h5,h6,h7⟩
   cases hb:σ0 b with
   |none=>rfl
   |some x=>have:=h0 b x hb;rw[h3]at this;cases this
theorem bG.keep{σ0 σ σ1 σ':aa}{a:AV}{kk:Nat}{es:List AV}(h:bG σ0 σ a kk es)(hle:σ1.Le σ')(hb:∀b,eh a=some b->σ' b=σ b/\σ1 b=none):bG σ1 σ' a kk es:=by
 obtain⟨h1,h2⟩:=h;refine⟨hle,?_⟩;rcases h2 with h|⟨c,cap,rest,rfl,h3,h4,h5,h6,h7⟩
 . exact .inl h
 . exact .inr ⟨c,cap,rest,rfl,(hb c rfl).2,h4,h5,by rw[(hb c rfl).1];exact h6,h7⟩
inductive Wl:List AV->List AV->Prop
 |nil:Wl [] []
 |cons {a a':AV}{l l':List AV}:a.W a'->Wl l l'->Wl (a::l) (a'::l')
theorem Wl.len{l l':List AV}(h:Wl l l'):l.length=l'.length:=by
 induction h with
 |nil=>rfl
 |cons _ _ ih=>simp[ih]
theorem Wl.at{l l':List AV}(h:Wl l l'):∀{i:Nat}{a':AV},l'[i]?=some a'->∃a,l[i]?=some a/\a.W a':=by
 induction h with
 |nil=>intro i a' h;simp at h
 | @cons a b l l' h1 h2 ih=>
   intro i a' h;cases i with
   |zero=>simp at h;subst h;exact⟨a,by simp,h1⟩
   |succ i=>simpa using ih (by simpa using h)
theorem Vs.Dq{k:ag}{c:List Value}{l l':List AV}(h:Vs k c l)(hw:Wl l l'):Vs k c l':=⟨by rw[h.1,hw.len],λi v a hv ha=>by obtain⟨b,hb,hba⟩:=hw.at ha;exact hba k v (h.2 i v b hv hb)⟩
theorem aA.Dq{P:Program}{m:Mo}{f:FuncId}{args args':List AV}{σ:aa}{KF:cL->aa->Prop}(h:aA P m f args' σ KF)(hw:Wl args args'):aA P m f args σ KF:=λQ k O cargs c rest kind hk hv hr h1 h2=>h Q k O cargs c rest kind hk (hv.Dq hw) hr h1 h2
theorem bs{P:Program}{m:Mo}{f:FuncId}{fn:Func}{args args':List AV}{σ:aa}{KF:cL->aa->Prop}(hf:P.funcs[f]?=some fn)(hb:fn.body.isSome=true)(hnm:(fn.name==  "runtime.NumGoroutine")=false)(hw:Wl args args')(h:aA P m f args' σ KF):
 dC P m (.fn (.func f) [] []) args σ KF:=aq hf hb hnm (h.Dq hw)
def ag.GN(k:ag)(r:Nat)(c:Array Value)(f:Nat->Option Value):ag:={k with cell:=λb j=>if b=r/\f j=none then c[j]? else k.cell b j}
theorem Ch{k:ag}{O:ah}{r:Nat}{c:Array Value}{e:TypeId}{f:Nat->Option Value}(ho:O r=some (.obj (.cells c e (0,0))))(hs:k.sh r=some (e,c.size))(hf:∀i v,f i=some v->c[i]?=some v):kK k O (k.GN r c f) (O.set r (.part f)):=λw h=>by
 have hw:=h.obj _ _ ho
 have hno:∀j,k.cell r j=none:=λj=>by
  cases q:k.cell r j with
  |none=>rfl
  |some v=>exact(h.apart _ _ _ q (.inl ⟨_,ho⟩)).elim
 have hle:k.Le (k.GN r c f):=⟨λb i v hv=>by
  have:¬(b=r/\f i=none):=λx=>by rw[x.1,hno]at hv;cases hv
  simpa[ag.GN,this]using hv,λ_ _ h=>h⟩
 have hset:∀b,b≠r->(O.set r (.part f)) b=O b:=λb hb=>by simp[ah.set,hb]
 have hsetr:(O.set r (.part f)) r=some (.part f):=by simp[ah.set]
 refine⟨⟨λb i v hv hc=>?_,λb i v hv=>?_,h.sh,λb o hb=>?_,λb m hb=>?_,λb g hb=>?_⟩,⟨hle,Nat.le_refl _,λ_ _ _=>rfl,λ_ _ _ _ c _ h=>⟨c,h,rfl,λ_ _=>rfl⟩,λ_ _ _ _ c _ h=>⟨c,h,rfl,λ_ _=>rfl⟩,λ_ _=>rfl,λb x hx=>?_,λb i v hv=>?_,λ_ _ h=>.inl h,by simp,rfl,rfl,rfl,by simp,λb g hb=>?_⟩⟩
 . by_cases hb:b=r
   . subst hb
     rcases hc with⟨o,h1⟩|⟨m,h1,h2⟩|⟨g,h1,h2⟩
     . rw[hsetr]at h1;cases h1
     . rw[hsetr]at h1;cases h1
     . rw[hsetr]at h1;cases h1
       simp only[ag.GN,true_and]at hv;rw[if_neg h2,hno]at hv;cases hv
   . have hv':k.cell b i=some v:=by simpa[ag.GN,hb]using hv
     exact h.apart b i v hv' (by simpa[aP,ah.set,hb]using hc)
 . by_cases hb:b=r/\f i=none
   . obtain⟨rfl,hi⟩:=hb
     simp only[ag.GN,hi,and_self,if_true]at hv;simp[World.cell?,hw,hv]
   . exact h.cell b i v (by simpa only[ag.GN,hb,if_false]using hv)
 . by_cases hbr:b=r
   . subst hbr;rw[hsetr]at hb;cases hb
   . exact h.obj b o (by rw[hset b hbr]at hb;exact hb)
 . by_cases hbr:b=r
   . subst hbr;rw[hsetr]at hb;cases hb
   . exact h.tail b m (by rw[hset b hbr]at hb;exact hb)
 . by_cases hbr:b=r
   . subst hbr;rw[hsetr]at hb;cases hb
     exact⟨c,e,hw,hs,hf⟩
   . exact h.part b g (by rw[hset b hbr]at hb;exact hb)
 . by_cases hbr:b=r
   . subst hbr;exact .inl ⟨_,ho,trivial⟩
   . rw[hset b hbr]at hx;exact .inl ⟨x,hx,.refl x⟩
 . by_cases hb:b=r/\f i=none
   . obtain⟨rfl,_⟩:=hb;exact .inr (.inl (.inl ⟨_,ho⟩))
   . exact .inl (by simpa only[ag.GN,hb,if_false]using hv)
 . have hbr:b≠r:=λq=>by rw[q,ho]at hb;cases hb
   exact⟨g,by rw[hset b hbr];exact hb⟩
section
variable{P:Program}{m:Mo}{Q:ag->ah->Goroutine->Prop}{k:ag}{O:ah}{g:Goroutine}{σ:aa}
theorem T.part{r:Nat}{c:Array Value}{e:TypeId}{f:Nat->Option Value}(ho:O r=some (.obj (.cells c e (0,0))))(hf:∀i v,f i=some v->c[i]?=some v)(hrun:g.status=.running)
 (h:∀k' O',k.Le k'->k'.sh r=some (e,c.size)->(∀j v,f j=none->c[j]?=some v->k'.cell r j=some v)->O'=O.set r (.part f)->T P m Q k' O' g):T P m Q k O g:=by
 by_cases hsat:∃w,Sat k O w
 . obtain⟨w,hw⟩:=hsat
   have h1:=(jA (k:=k) ho w hw).2.le;have hg:=Ch (k:=k.dN r (e,c.size)) (f:=f) ho (by simp[ag.dN]) hf;have hle:(k.dN r (e,c.size)).Le ((k.dN r (e,c.size)).GN r c f):=(hg w (jA (k:=k) ho w hw).1).2.le;exact .ghost (jA ho) (.ghost hg (h _ _ (h1.trans hle) (by simp[ag.GN,ag.dN]) (λj v hj hv=>by simp[ag.GN,hj,hv]) rfl))
 . exact .step (λ_ _ _=>False) hrun (λ_ _ _ h=>h.elim) λw hw=>absurd ⟨w,hw⟩ hsat
theorem T.NL{b:Nat}{l:List AV}{hole:List Nat}{f:Nat->Option Value}(hr:Rel k O σ)(hb:σ b=some (.cells l))(hf:∀i v,f i=some v->l[i]?=some (.lit v))(hh:∀i,f i=none↔i∉hole)(hrun:g.status=.running)
 (h:∀k' O',k.Le k'->(∀off,V k' (.pointer (some ⟨b,off,none⟩)) (.kp b l hole off))->Rel k' O' (σ.set b (.part f))->T P m Q k' O' g):T P m Q k O g:=by
 obtain⟨y,hO,hy⟩:=hr.1 b _ hb (by simp)
 cases hy with
 | cells c e _ g1 g2 g3=>
   refine T.part (f:=f) hO (λi v hi=>?_) hrun λk' O' hle hsh hc hO'=>?_
   . have hl:=hf i v hi
     have hlt:i<c.size:=by rw[g1];exact(List.getElem?_eq_some_iff.1 hl).1
     have hv:=g2 i c[i] _ (by simp[hlt]) hl
     have:c[i]=v:=by generalize c[i]=u at hv;cases hv;rfl
     simp[hlt,this]
   . refine h k' O' hle (λoff=>.kp b off c.size e l hole (λj=>c.getD j undef) hsh (by omega) (λj hj hn=>?_) (λj a hn ha=>?_)) ?_
     . have hlt:j<c.size:=by omega
       refine⟨?_,?_⟩
       . rw[hc j c[j] ((hh j).2 hn) (by simp[hlt])]
         simp[Array.getD,hlt]
       . simp only[Array.getD,hlt,dif_pos]
         exact g3 j _ (by simp[hlt])
     . have hlt:j<c.size:=by rw[g1];exact(List.getElem?_eq_some_iff.1 ha).1
       simp only[Array.getD,hlt,dif_pos];exact(g2 j _ a (by simp[hlt]) ha).mono hle
     . rw[hO']
       exact(hr.mono hle).set (.part f)
theorem aA.share{f:FuncId}{args:List AV}{KF KF0:cL->aa->Prop}(h:aA P m f args σ KF0)
 (hc:∀r σ',KF0 r σ'->KF r σ'\/∃b l hole F,r=.val (.ref b 0)/\σ' b=some (.cells l)/\(∀i v,F i=some v->l[i]?=some (.lit v))/\(∀i,F i=none↔i∉hole)/\KF (.val (.kp b l hole 0)) (σ'.set b (.part F))):aA P m f args σ KF:=by
 intro Q k O cargs c rest kind h1 h2 h3 h4 h5;refine h Q k O cargs c rest kind h1 h2 h3 (λk' O' cv av σ' hle hv hr hK=>?_) (λk' O' cv av σ' hle hv hr hK=>?_)
 . rcases hc _ _ hK with hK|⟨b,l,hole,F,e,hb,hF,hh,hK2⟩
   . exact h4 _ _ _ _ _ hle hv hr hK
   . cases e
     cases hv;exact T.NL hr hb hF hh (by cases kind<;>rfl) λk2 O2 hle2 hvv hrr=>h4 _ _ _ _ _ (hle.trans hle2) (hvv 0) hrr hK2
 . rcases hc _ _ hK with hK|⟨b,l,hole,F,e,_⟩
   . exact h5 _ _ _ _ _ hle hv hr hK
   . cases e
end
structure EC(P:Program)(mt kt et ft:Nat)(kd:IntKind):Prop where
 hm:P.underlying mt=some (.map kt et)
 hk:∃f,P.underlying kt=some (.struct #[f])/\(f.name≠ "_")/\f.type=ft/\f.offset=0
 hf:P.underlying ft=some (.int kd)
 hs:P.stoodInHeld kt=false
def uZ(kd:IntKind)(n:Int):AV:=.agg [.lit (.int kd n)]
def mapA(kd:IntKind)(l:List (Int × AV)):jy:=.map (l.map λp=>(uZ kd p.1,p.2))
section
variable{P:Program}(L:iE P){k:ag}{O:ah}{Kp:Value->ag->ah->Prop}{mt kt et ft:Nat}{kd:IntKind}
theorem fG{K:TypeDesc->ag->ah->Prop}{t:Nat}{d:TypeDesc}(h1:P.underlying t=some d)(h:K d k O):eE P (underlying t) k O K Kp:=by unfold underlying;refine af (bN ?_);rw[h1];exact h
theorem rX{K:Value->ag->ah->Prop}{i:TI}{v:Value}(ht:L.tt ft=some i)(ha:i.agg=false)(h:K v k O):eE P (part ft #[v] 0) k O K Kp:=by unfold part;refine af (ow L ht ?_);rw[ha];exact aj h
variable(M:EC P mt kt et ft kd){i:TI}(ht:L.tt ft=some i)(ha:i.agg=false)
include M ht ha
theorem pq{K:Unit->ag->ah->Prop}{b:Bool}{n:Int}(h:K () k O):eE P (Instr.checkKey b 10000 kt (.agg #[.int kd n])) k O K Kp:=by obtain⟨f,h1,h2,h3,h4⟩:=M.hk;show eE P (Instr.checkKey b (9998+1+1) kt (.agg #[.int kd n])) k O K Kp;rw[Instr.checkKey];refine af (fG h1 ?_);simp only[List.forIn_toArray,List.forIn_cons,List.forIn_nil];rw[if_pos h2,h3,h4];refine af (af (af (rX L ht ha ?_)));rw[Instr.checkKey];refine af (af (fG M.hf ?_));exact aj (aj (aj (aj h)))
theorem Ci{K:Bool->ag->ah->Prop}{a b:Int}(h:K (a==b) k O):eE P (Op.equal kt (.agg #[.int kd a]) (.agg #[.int kd b])) k O K Kp:=by
 obtain⟨f,h1,h2,h3,h4⟩:=M.hk;show eE P (Op.equalIn (9998+1+1) kt (.agg #[.int kd a]) (.agg #[.int kd b])) k O K Kp;rw[Op.equalIn];refine af (fG h1 ?_);refine af (bN ?_);rw[M.hs];simp only[Bool.false_eq_true,if_false,List.forIn_toArray,List.forIn_cons,List.forIn_nil];rw[if_pos h2,h3,h4];refine af (af (af (rX L ht ha ?_)));refine af (rX L ht ha ?_);refine af ?_;rw[Op.equalIn];refine af (fG M.hf ?_);simp only[if_true];refine aj ?_;cases hab:(a==b)with
 |true=>rw[hab]at h;exact aj (aj (aj h))
 |false=>rw[hab]at h;exact aj (aj (aj h))
def iu(l:List (Int × AV))(n:Int):Option AV:=(l.find? λp=>n==p.1).map (·.2)
theorem ny{n:Int}{K:Option (Nat × Value)->ag->ah->Prop}:∀(es:List MapEntry) (l:List (Int × AV)) (j:Nat),es.length=l.length->(∀(j:Nat) e p,es[j]?=some e->l[j]?=some p->e.key=.agg #[.int kd p.1]/\V k e.val p.2) ->
 (∀a v j,iu l n=some a->V k v a->K (some (j,v)) k O)->(iu l n=none->K none k O)->eE P (Instr.findAsking kt (.agg #[.int kd n]) es j) k O K Kp
 |[],[],j,_,_,_,h=>by rw[Instr.findAsking];exact aj (h rfl)
 | e ::es,p::l,j,hl,hv,h1,h2=>by
   obtain⟨e1,e2⟩:=hv 0 e p rfl rfl;rw[Instr.findAsking,e1];refine af (Ci L M ht ha ?_);cases hp:(n==p.1)with
   |true=>simp only[if_true];exact aj (h1 p.2 _ _ (by simp[iu,hp]) e2)
   | false=>
     simp only[Bool.false_eq_true,if_false];have e3:iu (p::l) n=iu l n:=by simp[iu,hp]
     rw[e3]at h1 h2;exact ny es l (j+1) (by simpa using hl) (λj e p he hp=>hv (j+1) e p (by simpa using he) (by simpa using hp)) h1 h2
 |[],_::_,_,h,_,_,_=>by simp at h
 |_::_,[],_,h,_,_,_=>by simp at h
theorem qS{n:Int}{K:Option (Nat × Value)->ag->ah->Prop}{es:List MapEntry}{l:List (Int × AV)}(hl:es.length=l.length)(hv:∀(j:Nat) e p,es[j]?=some e->l[j]?=some p->e.key=.agg #[.int kd p.1]/\V k e.val p.2)
 (h1:∀a v j,iu l n=some a->V k v a->K (some (j,v)) k O) (h2:iu l n=none->K none k O):eE P (Instr.findKey kt (.agg #[.int kd n]) es) k O K Kp:=by
 obtain⟨f,g1,g2,g3,g4⟩:=M.hk;unfold Instr.findKey;refine af (fG g1 ?_);cases es with
 | nil=>
   cases l with
   |nil=>exact aj (h2 rfl)
   |cons p l=>simp at hl
 | cons e es=>
   have:Instr.findNow (.struct #[f]) (.agg #[.int kd n]) (e::es) 0=none:=by simp[Instr.findNow,Instr.sameNow]
   rw[this];exact ny L M ht ha _ l 0 hl hv h1 h2
omit M ht ha
theorem V.uZ{k:ag}{v:Value}{kd:IntKind}{n:Int}(h:V k v (uZ kd n)):v=.agg #[.int kd n]:=by
 cases h with
 | agg c l h1 h2=>
   have h1:c.size=1:=h1
   have hc:c=#[c[0]]:=by
    apply Array.ext
    . simp[h1]
    . intro i hi hi'
      have:i=0:=by simp at hi';exact hi'
      subst this;rfl
   have:=h2 0 c[0] (.lit (.int kd n)) (by simp[h1]) rfl
   rw[hc];generalize c[0]=u at this;cases this;rfl
theorem Dr{σ:aa}(hr:Rel k O σ){b:Nat}{l:List (Int × AV)}(hb:σ b=some (mapA kd l)):∃es clock,O b=some (.obj (.map es clock))/\es.toList.length=l.length/\∀(j:Nat) e p,es.toList[j]?=some e->l[j]?=some p->e.key=.agg #[.int kd p.1]/\V k e.val p.2:=by
 obtain⟨x,h1,h2⟩:=hr.1 b _ hb (by simp[mapA]);unfold mapA at h2;cases h2 with
 | map es clock m g1 g2=>
   refine⟨es,clock,h1,by simpa using g1,λj e p he hp=>?_⟩;obtain⟨q1,q2⟩:=g2 j e (aN.uZ kd p.1,p.2) (by simpa using he) (by simp[hp]);exact⟨q1.uZ,q2⟩
variable{o:Oper}{env:Env}{σ:aa}{K Kq:AV->aa->Prop}
theorem Cj(M:EC P mt kt et ft kd)(ht:L.tt ft=some i)(ha:i.agg=false){ie:TI}{x ix:Operand}{b:Nat}{l:List (Int × AV)}{n:Int}(ho:o.op=.lookup mt x ix true)(hte:L.tt et=some ie)(hx:ap env x=.map b)(hi:ap env ix=uZ kd n)(hb:σ b=some (mapA kd l))
 (hK:K (.c9 [(iu l n).getD (lO ie.zero),.lit (.bool (iu l n).isSome)]) σ):aG P o env σ K Kq:=
 aG.val (s:=λρ=>Instr.lookup mt (ρ x) (ρ ix) true) (λρ=>by simp[execOp,ho]) λk O ρ hρ hr=>by
  have h1:=hρ x (by simp[ho,Op.operands]);have h2:=hρ ix (by simp[ho,Op.operands]);rw[hx]at h1;rw[hi]at h2;rw[h2.uZ];generalize ρ x=vx at h1;cases h1;obtain⟨es,clock,e1,e2,e3⟩:=Dr hr hb;unfold Instr.lookup;refine af (fG M.hm ?_);simp only;refine af (s:=getObj b) ⟨_,e1,rfl,aj ?_⟩;refine af (aj ?_);refine af (pq L M ht ha ?_);refine af (qS L M ht ha e2 e3 (λa v j hl hv=>?_) (λhl=>?_))
  . simp only
    refine af (aj ?_);simp only[if_true];refine aj (.here ⟨.refl k,_,σ,.c9 _ _ rfl (λi u a' hu ha'=>?_),hr,hK⟩);rw[hl]at ha'
    match i with
    |0=>simp at hu ha';subst hu;subst ha';exact hv
    |1=>simp at hu ha';subst hu;subst ha';exact .lit _
    |i+2=>simp at ha'
  . simp only
    refine af (cX L hte ?_);refine af (aj ?_);simp only[if_true];refine aj (.here ⟨.refl k,_,σ,.c9 _ _ rfl (λi u a' hu ha'=>?_),hr,hK⟩);rw[hl]at ha'
    match i with
    |0=>simp at hu ha';subst hu;subst ha';exact .lO k _
    |1=>simp at hu ha';subst hu;subst ha';exact .lit _
    |i+2=>simp at ha'
theorem wn(M:EC P mt kt et ft kd)(ht:L.tt ft=some i)(ha:i.agg=false){x ix y:Operand}{b:Nat}{l:List (Int × AV)}{n:Int}{a:AV}(ho:o.op=.mapUpdate mt x ix y)(hx:ap env x=.map b)(hi:ap env ix=uZ kd n)(hy:ap env y=a)(hb:σ b=some (mapA kd l))(hn:iu l n=none)
 (hK:K (.lit undef) (σ.set b (mapA kd (l++[(n,a)])))):aG P o env σ K Kq:=λk O ρ hρ hr=>by
 have h1:=hρ x (by simp[ho,Op.operands])
 have h2:=hρ ix (by simp[ho,Op.operands])
 have h3:=hρ y (by simp[ho,Op.operands])
 rw[hx]at h1;rw[hi]at h2;rw[hy]at h3;have he:execOp ρ o=(do Instr.mapUpdate mt (ρ x) (ρ ix) (ρ y);pure .skip):=by simp[execOp,ho]
 rw[he,h2.uZ];generalize ρ x=vx at h1;cases h1;obtain⟨es,clock,e1,e2,e3⟩:=Dr hr hb;unfold Instr.mapUpdate;refine af (af (fG M.hm ?_));simp only;refine af (s:=getObj b) ⟨_,e1,rfl,aj ?_⟩;simp only;refine af (pq L M ht ha ?_);refine af (qS L M ht ha e2 e3 (λa v j hl hv=>by rw[hn]at hl;cases hl) (λ_=>?_))
 simp only;refine⟨⟨_,e1,rfl⟩,rfl,aj ?_⟩;refine⟨undef,.inr ⟨rfl,rfl⟩,.here ⟨.refl k,.lit undef,_,.lit _,hr.set (.map _ _ _ ?_ (λj e p hj hp=>?_)),hK⟩⟩
 . simp;simpa using e2
 . rw [Array.getElem?_push]at hj
   rw[List.map_append]at hp
   by_cases hjl:j=es.size
   . rw[if_pos hjl]at hj
     have hle:l.length=es.size:=by rw[<-e2];simp
     rw[List.getElem?_append_right (by simp;omega)]at hp
     simp only[Option.some.injEq]at hj;subst hj;have:j-(l.map λp=>(aN.uZ kd p.1,p.2)).length=0:=by simp;omega
     rw[this]at hp;simp at hp;subst hp;exact⟨h2.uZ ▸ h2,h3⟩
   . rw[if_neg hjl]at hj
     have hlt:j<es.size:=(Array.getElem?_eq_some_iff.1 hj).1;have hle:l.length=es.size:=by rw[<-e2];simp
     rw[List.getElem?_append_left (by simp;omega),List.getElem?_map]at hp
     obtain⟨q,hq,rfl⟩:=Option.map_eq_some_iff.1 hp;obtain⟨g1,g2⟩:=e3 j e q (by simpa using hj) hq
     refine⟨?_,g2⟩;rw[g1]
     exact .agg _ _ rfl λi u a hu ha=>by
      match i with
      |0=>simp at hu ha;subst hu;subst ha;exact .lit _
      |i+1=>simp at ha
theorem Ck{mt:Nat}(kd:IntKind)(ho:o.op=.makeMap mt none)(hK:∀b,σ b=none->K (.map b) (σ.set b (mapA kd []))):aG P o env σ K Kq:=
 aG.val (s:=λρ=>Instr.makeMap mt none) (λρ=>by simp[execOp,ho]) λk O ρ hρ hr=>by
  unfold Instr.makeMap;simp only;refine af (s:=newObj _) ⟨rfl,λr hr'=>aj ?_⟩;exact .here ⟨.made hr'.2.2,_,_,.map r,(hr.mono (.made hr'.2.2)).set (.map _ _ _ rfl λj e p hj=>by simp at hj),hK r (hr.isNone hr'.1 hr'.2.2)⟩
end
section
variable{P:Program}(L:iE P){o:Oper}{env:Env}{σ:aa}{K:AV->aa->Prop}{Kp:AV->aa->Prop}
theorem Cl{i:TI}{d:TypeDesc}(h:di P i d=true)(hk:i.kind=.iface):∃ms,d=.interface ms:=by cases d<;>simp_all [di]
theorem nY{op:BinOp}{t t2:Nat}{x:Operand}{i:TI}{isNil:Bool}(ho:o.op=.binOp op t x (.const .nilIface) t2)(ht:L.tt t=some i)(hk:i.kind=.iface)
 (hx:(ap env x=.lit .nilIface/\isNil=true)\/(∃d a,ap env x=.nI d a)/\isNil=false){b:Bool}(hop:(op=.eql/\b=isNil)\/(op=.neq/\b=!isNil)) (hK:K (.lit (.bool b)) σ):aG P o env σ K Kp:=
 aG.val (s:=λρ=>do eqGuard op t x (.const .nilIface) (ρ x) (ρ (.const .nilIface));binOp op t (ρ x) (ρ (.const .nilIface))) (λρ=>by simp[execOp,ho]) λk O ρ hρ hr=>by
  have h1:=hρ x (by simp[ho,Op.operands])
  have h2:=hρ (.const .nilIface) (by simp[ho,Op.operands])
  have e2:ρ (.const .nilIface)=.nilIface:=by simp only[ap]at h2;generalize ρ (.const .nilIface)=w at h2;cases h2;rfl
  have e1:(ρ x=.nilIface/\isNil=true)\/∃d v,ρ x=.iface d v/\isNil=false:=by
   rcases hx with⟨e,h⟩|⟨⟨d,a,e⟩,h⟩<;>rw[e]at h1
   . generalize ρ x=w at h1;cases h1;exact .inl ⟨rfl,h⟩
   . generalize ρ x=w at h1;cases h1;exact .inr ⟨_,_,rfl,h⟩
  rw[e2]
  have hg:eqGuard op t x (.const .nilIface) (ρ x) .nilIface=pure ():=by rcases e1 with⟨e1,_⟩|⟨d,v,e1,_⟩<;>rw[e1]<;>rcases hop with⟨rfl,_⟩|⟨rfl,_⟩<;>simp[eqGuard]
  rw[hg];refine af (aj ?_)
  have fin:∀{s:Sem Value},s=(do pure (.bool b))->eE P s k O (λv k' O'=>l8 k' O' λk2 O2=>k.Le k2/\∃a σ',V k2 v a/\Rel k2 O2 σ'/\K a σ') (λv k' O'=>k.Le k'/\∃a σ',V k' v a/\Rel k' O' σ'/\Kp a σ'):=λe=>by rw[e];exact aj (.here ⟨.refl k,_,σ,.lit _,hr,hK⟩)
  have heq:∀(R:Bool->ag->ah->Prop) (Rp:Value->ag->ah->Prop),R isNil k O->eE P (Op.equal t (ρ x) .nilIface) k O R Rp:=λR Rp hR=>by
   show eE P (Op.equalIn (9999+1) t (ρ x) .nilIface) k O R Rp;rw[Op.equalIn];refine af (aB L ht λd _ hd=>?_)
   obtain⟨ms,rfl⟩:=Cl hd hk
   rcases e1 with⟨e1,rfl⟩|⟨d,v,e1,rfl⟩<;>rw[e1]<;>exact aj hR
  rcases e1 with⟨e1,e3⟩|⟨d,v,e1,e3⟩<;>rw[e1]at heq ⊢<;>rcases hop with⟨rfl,rfl⟩|⟨rfl,rfl⟩
  . exact af (s:=Op.equal t .nilIface .nilIface) (heq _ _ (fin rfl))
  . exact af (s:=Op.equal t .nilIface .nilIface) (heq _ _ (fin rfl))
  . exact af (s:=Op.equal t (.iface d v) .nilIface) (heq _ _ (fin rfl))
  . exact af (s:=Op.equal t (.iface d v) .nilIface) (heq _ _ (fin rfl))
end
end Go.aN
