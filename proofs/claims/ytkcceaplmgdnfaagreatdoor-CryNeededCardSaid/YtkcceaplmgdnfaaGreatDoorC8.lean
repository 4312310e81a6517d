import Derived.KernelRfl
import Derived.Test.YtkcceaplmgdnfaaGreatDoorC7
set_option linter.all false
namespace Go.bQ
open Go.Conc
section
variable{P:acD}(L:iZ P){m:Mo}
def aA.start{f:FuncId}{fn:Func}{args:acw}{σ:aa}{b:abT}{body:Code}(mu:acr)(hold:ace)(k:Nat)(c:P.funcs[f]?=some fn)(hb:fn.body=some body)(e:args.length=k)(d:nZ fn k=true)(a:kO hold body=true)
 (h:bs L m f fn.ntmps none mu hold 1000 [.code body] ⟨dt args,σ,[],.no⟩ (RJ L m fn.results.toList (ny b))):aA P m f args σ b:=by
 simp only[nZ,zj]at d;refine aA.thaw (aA.intro L c hb (by simp_all) ?_ (Go.bs L mu hold 1000 (by simpa[jI]using a) h))
 simp_all
variable{fid n:Nat}{ro:acf}{hold:ace}{s:St}{K:abK}{k:acm}
def ab.run(mu:acr){todo:acm}(h:bs L m fid n ro mu hold 1000 todo s K):ab P m fid n ro hold todo s K:=λa=>Go.bs L mu hold 1000 a h
def ar{f:FuncId}{fn:Func}{args:acw}{σ:aa}{b:abT}(c:P.funcs[f]?=some fn)(hb:fn.body.isSome=true)(a:(fn.name==  "runtime.NumGoroutine")=false)(h:aA P m f args σ b):
 bZ P m (.fn (.func f) [] []) args σ b:=.func c hb a (by simpa using h)
def dZ{f:FuncId}{fn:Func}{first cap args args':acw}{σ:aa}{b:abT}(c:P.funcs[f]?=some fn)(hb:fn.body.isSome=true)(a:(fn.name==  "runtime.NumGoroutine")=false)(d:first++args++cap=args')(h:aA P m f args' σ b):
 bZ P m (.fn (.func f) first cap) args σ b:=.func c hb a (d ▸ h)
def ab.loop{c:Code}(N:Nat)(I:Nat->St->Prop)(g:I 0 s)
 (h:∀b i s,i<=N->I i s->(∀s',i<N->I (i+1) s'->ab P m fid n ro hold (.inLoop b::k) s' K)->ab P m fid n ro hold (.code c::.inLoop b::k) s K):ab P m fid n ro hold (.code (.loop c)::k) s K:=λe=>by
 have d:∀b,jI hold (.code c::.inLoop b::k)=true:=λb=>by simpa[jI,kO]using e
 refine Go.loop (λa s=>∃i,a=N-i/\i<=N/\I i s) N ⟨0,by simp,by omega,g⟩ ?_;rintro b a s ⟨i,rfl,j,l⟩ o;exact h b i s j l (λs' p f _=>o (N-(i+1)) s' (by omega) ⟨i+1,rfl,by omega,f⟩) (d b)
def ab.weaken{todo:acm}{σ:aa}(h:ab P m fid n ro hold todo {s with σ} K)(b:σ.Le s.σ):ab P m fid n ro hold todo s K:=λa=>(h a).weaken b
def J9:Option Code->Bool
 |none=>true
 |some .ret=>true
 |some (.exit _)=>true
 |_=>false
def ab.rangeFunc{f:acE}{params:Array Tmp}{assign body:Code}(i:Operand.ok n f=true)
 (h:jI hold [.code assign,.code body]=true->∀r l,s.σ r=none->s.σ l=none->r≠l->bZ P m (an s.env f) [.fn (.yield l) [] []] ((s.σ.set r (.raw (.deferred (some [])))).set l (.loop ⟨.ready,none,fid,n,s.env,params,assign,body,r⟩))
   (fun res σ'=>match res with
     |.val _=>∃a,σ' l=some (.loop a)/\a.state≠.busy/\J9 a.pending=true/\ab P m fid n none hold ((a.pending.map Item.code).toList++k) {s with σ:=σ'.del l,D:=.mark r::s.D} K
     |.panic v=>K (.panic v) {s with σ:=σ',D:=.mark r::s.D})):ab P m fid n none hold (.code (.rangeFunc f params assign body)::k) s K:=λd=>by
 have j:jI hold [.code assign,.code body]=true:=by
  simp only[jI,ZY,kO,zj]at d ⊢
  simp_all
 refine Go.rangeFunc i λr l a b c=>(h j r l a b c).mono λres σ' e=>?_
 cases res with
 |panic v=>exact e
 |val v=>obtain⟨o,p,q,g,t⟩:=e;refine⟨o,p,q,t ?_⟩;simp only[jI,ZY,zj,List.all_append]at d ⊢;refine⟨?_,d.2⟩;unfold J9 at g;split at g<;>rename_i u<;>simp_all [kO]
def bZ.wX{l:Nat}{args:acw}{σ:aa}{c:abT}{a:oU}{fn:Func}(b:jI hold [.code a.assign,.code a.body]=true)(d:P.funcs[a.fn]?=some fn)(e:σ l=some (.loop a))(f:args.length=a.params.size)
 (h:ab P m a.fn a.n (some l) hold [.code a.assign,.beginRound,.code a.body] ⟨mX a.env a.params.toList args,σ,[],.no⟩ (J0 l c)):bZ P m (.fn (.yield l) [] []) args σ c:=
 .yield d e f (h (by simp only[jI,ZY,zj]at b ⊢;simp_all))
def ab.beginRound{l:Nat}{a:oU}(c:s.σ l=some (.loop a))(ha:a.state=.ready)(h:ab P m fid n (some l) hold k {s with σ:=s.σ.set l (.loop {a with state:=.busy})} K):ab P m fid n (some l) hold (.beginRound::k) s K:=λb=>.beginRound c ha (h (by simpa[jI,kO]using b))
def ab.freeze{todo:acm}{env a:Env}{σ σ':aa}{D:acz}{rc:Rec}(b:Nat)(l:acw)(hb:σ b=some (.cells l))(c:∀t,Fz b l (env t) (a t))(e:J3 b l σ σ')
 (h:ab P m fid n ro hold todo ⟨a,σ',D,rc⟩ K):ab P m fid n ro hold todo ⟨env,σ,D,rc⟩ K:=λd=>Go.freeze b l hb c e (h d)
end
def aa.le_refl(σ:aa):σ.Le σ:=λ_ _ h=>h
def aa.le_trans{a b c:aa}(h:a.Le b)(d:b.Le c):a.Le c:=λx y e=>d x y (h x y e)
def aa.rH{σ0 σ:aa}{b:Nat}{x:ga}(h:σ0.Le σ)(hb:σ b=none):σ0.Le (σ.set b x):=λc y a=>by
 by_cases e:c=b
 . subst e;have:=h _ _ a;simp_all
 . simp only[aa.set,e,if_false];exact h _ _ a
def aa.fj{σ0 σ:aa}{b:Nat}{x:ga}(h:σ0.Le σ)(hb:σ0 b=none):σ0.Le (σ.set b x):=λc y a=>by
 by_cases e:c=b
 . simp_all
 . simp only[aa.set,e,if_false];exact h _ _ a
def aa.lD{σ0 σ:aa}{b:Nat}(h:σ0.Le σ)(hb:σ0 b=none):σ0.Le (σ.del b):=λc y a=>by
 by_cases e:c=b
 . simp_all
 . simp only[aa.del,e,if_false];exact h _ _ a
def aa.aN{σ:aa}{b c:Nat}{x:ga}(h:(σ.set b x) c=none):c≠b/\b≠c/\σ c=none:=by
 by_cases e:c=b
 . subst e;simp[aa.set]at h
 . simp only[aa.set,e,if_false]at h
   grind
@[simp] theorem aa.ak(σ:aa)(b:Nat)(x:ga):(σ.set b x) b=some x:=by simp[aa.set]
def aa.ai(σ:aa){b c:Nat}(x:ga)(h:c≠b):(σ.set b x) c=σ c:=by simp[aa.set,h]
@[simp] theorem aa.set_set(σ:aa)(b:Nat)(x y:ga):(σ.set b x).set b y=σ.set b y:=by funext c;by_cases e:c=b<;>simp[aa.set,e]
section
variable{P:acD}(L:iZ P)(m:Mo)(fid n f:Nat)(ro:acf)(mu:acr)(hold:ace)
def stepW(ops:acd)(is:acr)(k:acm)(dst:ach)(s:St)(K:abK)(x:Out):Prop:=rE x (λa b=>bs L m fid n ro mu hold f (.inRegion ops is::k) {s with env:=bc s.env dst a,σ:=b} K) (λa b=>K (.panic a) {s with σ:=b})
def Ka(ops:acd)(is:acr)(k:acm)(dst:ach)(s:St)(K:abK)(σ:aa)(x:acn):Prop:=stepW L m fid n f ro mu hold ops is k dst s K (.opt x σ)
def bR(ops:acd)(is:acr)(k:acm)(dst:ach)(s:St)(K:abK)(σ:aa)(c:acw):Prop:=stepW L m fid n f ro mu hold ops is k dst s K (.new σ c)
def uX(ops:acd)(i:Nat)(is:acr)(k:acm)(o:Oper)(s:St)(K:abK)(x:Option Bool):Prop:=
 HE x (if py L o=true then rE (A8 L mu o s.env s.σ) (λa b=>bs L m fid n ro mu hold f (.inRegion ops is::k) {s with env:=bc s.env o.dst a,σ:=b} K) (λa b=>K (.panic a) {s with σ:=b})
        else if uW o.op=true then Oe (P:=P) m o s.env s.σ (λa b=>ab P m fid n ro hold (.inRegion ops is::k) {s with env:=bc s.env o.dst a,σ:=b} K) (λa b=>∀env,K (.panic a) {s with env,σ:=b})
        else ab P m fid n ro hold (.inRegion ops (i::is)::k) s K) (bs L m fid n ro mu hold f (.inRegion ops is::k) {s with env:=bc s.env o.dst (.lit (.tuple #[]))} K)
def aG(a b:Code)(k:acm)(s:St)(K:abK)(x:Bool):Prop:=uU x (bs L m fid n ro mu hold f (.code a::k) s K) (bs L m fid n ro mu hold f (.code b::k) s K)
def QE(P:acD)(m:Mo)(fid n:Nat)(ro:acf)(hold:ace)(k:acm)(s:St)(K:abK):abP:=λenv σ=>ab P m fid n ro hold k {s with env,σ} K
def QF(s:St)(K:abK):abU:=λv σ=>∀env,K (.panic v) {s with env,σ}
variable{L m fid n f ro mu hold}{s:St}{K:abK}{k:acm}{ops:acd}{i:Nat}{is:acr}{dst:ach}{σ:aa}
@[simp] theorem SZ{env:Env}:QE P m fid n ro hold k s K env σ=ab P m fid n ro hold k {s with env,σ} K:=propext ZL
@[simp] theorem S3{v:AV}:QF s K v σ=∀env,K (.panic v) {s with env,σ}:=propext ZL
@[simp] theorem S4{a:AV}:stepW L m fid n f ro mu hold ops is k dst s K (.ok a σ)=bs L m fid n ro mu hold f (.inRegion ops is::k) {s with env:=bc s.env dst a,σ:=σ} K:=propext ZL
@[simp] theorem QG{p:Prop}{x:Out}:stepW L m fid n f ro mu hold ops is k dst s K (.iA p x)=(p/\stepW L m fid n f ro mu hold ops is k dst s K x):=propext ZL
@[simp] theorem RV{c:acw}:stepW L m fid n f ro mu hold ops is k dst s K (.new σ c)=bR L m fid n f ro mu hold ops is k dst s K σ c:=propext ZL
@[simp] theorem RX{x:acn}:stepW L m fid n f ro mu hold ops is k dst s K (.opt x σ)=Ka L m fid n f ro mu hold ops is k dst s K σ x:=propext ZL
@[simp] theorem RY{a:AV}:Ka L m fid n f ro mu hold ops is k dst s K σ (some a)=bs L m fid n ro mu hold f (.inRegion ops is::k) {s with env:=bc s.env dst a,σ:=σ} K:=propext ZL
@[simp] theorem RZ:Ka L m fid n f ro mu hold ops is k dst s K σ none=False:=propext ZL
@[simp] theorem Vd{c:Prop}[Decidable c]{x:acn}:Ka L m fid n f ro mu hold ops is k dst s K σ (if c then x else none)=(c/\Ka L m fid n f ro mu hold ops is k dst s K σ x):=by by_cases h:c<;>simp[h]
def bR.intro{c:acw}(h:∀b,σ b=none->bs L m fid n ro mu hold f (.inRegion ops is::k) {s with env:=bc s.env dst (.ref b 0),σ:=σ.set b (.cells c)} K):bR L m fid n f ro mu hold ops is k dst s K σ c:=h
@[simp] theorem S5{o:Oper}:uX L m fid n f ro mu hold ops i is k o s K (some true)=(if py L o=true then stepW L m fid n f ro mu hold ops is k o.dst s K (A8 L mu o s.env s.σ)
   else if uW o.op=true then Oe (P:=P) m o s.env s.σ (λa σ'=>ab P m fid n ro hold (.inRegion ops is::k) {s with env:=bc s.env o.dst a,σ:=σ'} K) (λa σ'=>∀env,K (.panic a) {s with env,σ:=σ'})
   else ab P m fid n ro hold (.inRegion ops (i::is)::k) s K):=by unfold uX;rw[nB,oa];rfl
@[simp] theorem R1{o:Oper}:uX L m fid n f ro mu hold ops i is k o s K (some false)=bs L m fid n ro mu hold f (.inRegion ops is::k) {s with env:=bc s.env o.dst (.lit (.tuple #[]))} K:=by unfold uX;rw[nB,mz]
def uX.intro{o:Oper}{x:Bool}(a:x=true->uX L m fid n f ro mu hold ops i is k o s K (some true))(b:x=false->uX L m fid n f ro mu hold ops i is k o s K (some false)):uX L m fid n f ro mu hold ops i is k o s K (some x):=by cases x with|true=>exact a rfl|false=>exact b rfl
@[simp] theorem QH{a b:Code}:aG L m fid n f ro mu hold a b k s K true=bs L m fid n ro mu hold f (.code a::k) s K:=by unfold aG;rw[oa]
@[simp] theorem PL{a b:Code}:aG L m fid n f ro mu hold a b k s K false=bs L m fid n ro mu hold f (.code b::k) s K:=by unfold aG;rw[mz]
@[simp] theorem R2{a b:Code}{x:Bool}:aG L m fid n f ro mu hold a b k s K (!x)=aG L m fid n f ro mu hold b a k s K x:=by cases x<;>simp
def aG.intro{a b:Code}{x:Bool}(c:x=true->bs L m fid n ro mu hold f (.code a::k) s K)(d:x=false->bs L m fid n ro mu hold f (.code b::k) s K):aG L m fid n f ro mu hold a b k s K x:=⟨c,d⟩
@[simp] theorem S6 :bs L m fid n ro mu hold (f+1) ([]) s K=K (.leave none) s:=propext ZL
@[simp] theorem S7 :bs L m fid n ro mu hold (f+1) (.code .ret::k) s K=K (.leave (some .ret)) s:=propext ZL
@[simp] theorem R3 :bs L m fid n ro mu hold (f+1) (.code .skip::k) s K=bs L m fid n ro mu hold f k s K:=propext ZL
@[simp] theorem QI{l:Nat}:bs L m fid n ro mu hold (f+1) (.code (.label l)::k) s K=bs L m fid n ro mu hold f k s K:=propext ZL
@[simp] theorem Og{id:Nat}:bs L m fid n ro mu hold (f+1) (.inBlock id::k) s K=bs L m fid n ro mu hold f k s K:=propext ZL
@[simp] theorem S8{a b:Code}:bs L m fid n ro mu hold (f+1) (.code (.seq a b)::k) s K=bs L m fid n ro mu hold f (.code a::.code b::k) s K:=propext ZL
@[simp] theorem QJ{id:Nat}{c:Code}:bs L m fid n ro mu hold (f+1) (.code (.block id c)::k) s K=bs L m fid n ro mu hold f (.code c::.inBlock id::k) s K:=propext ZL
@[simp] theorem QK{c:Code}:bs L m fid n ro mu hold (f+1) (.code (.scope c)::k) s K=bs L m fid n ro mu hold f (.code c::.inScope c::k) s K:=propext ZL
@[simp] theorem R4{id:Nat}:bs L m fid n ro mu hold (f+1) (.code (.exit id)::k) s K=(match exitTo id k with
   |some k'=>bs L m fid n ro mu hold f k' s K
   |none=>K (.leave (some (.exit id))) s):=propext ZL
@[simp] theorem R5{c:acE}{a b:Code}:bs L m fid n ro mu hold (f+1) (.code (.cond c a b)::k) s K=(Operand.ok n c=true/\(match an s.env c with
   |.lit (.bool x)=>aG L m fid n f ro mu hold a b k s K x
   |_=>False)):=propext ZL
@[simp] theorem PM{id:Nat}:bs L m fid n ro mu hold (f+1) (.code (.region id ops false)::k) s K=bs L m fid n ro mu hold f (.inRegion ops (List.range ops.size)::k) s K:=propext ZL
@[simp] theorem R6{id:Nat}:bs L m fid n ro mu hold (f+1) (.code (.region id ops true)::k) s K=(match hold.find? λe=>e.id==id with
   |some ⟨_,p⟩=>im L m mu ops n (QF s K) p s.env s.σ (QE P m fid n ro hold k s K)
   |none=>ab P m fid n ro hold (.code (.region id ops true)::k) s K):=propext ZL
@[simp] theorem Kb :bs L m fid n ro mu hold (f+1) (.inRegion ops []::k) s K=bs L m fid n ro mu hold f k s K:=propext ZL
@[simp] theorem NY :bs L m fid n ro mu hold (f+1) (.inRegion ops (i::is)::k) s K=(match ops[i]? with
   |some o=>Oper.ok n o=true/\uX L m fid n f ro mu hold ops i is k o s K (wV ops n s.env o)
   |none=>ab P m fid n ro hold (.inRegion ops (i::is)::k) s K):=propext ZL
@[simp] theorem R7{c:Code}:bs L m fid n ro mu hold (f+1) (.code (.loop c)::k) s K=ab P m fid n ro hold (.code (.loop c)::k) s K:=propext ZL
@[simp] theorem PN{c:Code}:bs L m fid n ro mu hold (f+1) (.inLoop c::k) s K=ab P m fid n ro hold (.inLoop c::k) s K:=propext ZL
@[simp] theorem Kc{x:acE}{a:Array Tmp}{c d:Code}:bs L m fid n ro mu hold (f+1) (.code (.rangeFunc x a c d)::k) s K=ab P m fid n ro hold (.code (.rangeFunc x a c d)::k) s K:=propext ZL
@[simp] theorem JK :bs L m fid n ro mu hold (f+1) (.beginRound::k) s K=ab P m fid n ro hold (.beginRound::k) s K:=propext ZL
end
section
variable{P:acD}(L:iZ P)(m:Mo)(n:Nat)(mu:acr)(ops:acd)(Kp:abU)(R:abP)
def wY(lt:Bool)(σ:aa)(p:jD)(S:acr)(env:Env):Prop:=A9 L mu ops n lt σ (λa=>im L m mu ops n Kp p a σ R) .mk S env
def Cx(lt:Bool)(σ:aa)(p:jD)(S:acr)(dst:ach)(env:Env)(x:acn):Prop:=yR x λa=>wY L m n mu ops Kp R lt σ p S (bc env dst a)
def NZ(lt:Bool)(σ:aa)(p:jD)(S:acr)(o:Oper)(env:Env)(x:Option Bool):Prop:=HE x (Cx L m n mu ops Kp R lt σ p S o.dst env (EI L mu lt o env σ)) (wY L m n mu ops Kp R lt σ p S (bc env o.dst (.lit (.tuple #[]))))
def uY(p:jD)(dst:ach)(env:Env)(x:Out):Prop:=rE x (λa b=>im L m mu ops n Kp p (bc env dst a) b R) Kp
def S9(p:jD)(dst:ach)(env:Env)(σ:aa)(x:acn):Prop:=uY L m n mu ops Kp R p dst env (.opt x σ)
def vA(p:jD)(dst:ach)(env:Env)(σ:aa)(c:acw):Prop:=uY L m n mu ops Kp R p dst env (.new σ c)
def PO(i:Nat)(p:jD)(o:Oper)(env:Env)(σ:aa)(x:Option Bool):Prop:=
 HE x (if py L o=true then rE (A8 L mu o env σ) (λa b=>im L m mu ops n Kp p (bc env o.dst a) b R) Kp else
    if uW o.op=true then Oe (P:=P) m o env σ (λa b=>aM P m ops n Kp p (bc env o.dst a) b R) Kp else ji P m ops n Kp i env σ (λenv σ=>aM P m ops n Kp p env σ R)) (im L m mu ops n Kp p (bc env o.dst (.lit (.tuple #[]))) σ R)
variable{L m n mu ops Kp R}{i:Nat}{lt:Bool}{env:Env}{σ:aa}{p q:jD}{S:acr}{dst:ach}
@[simp] theorem R8:im L m mu ops n Kp .done env σ R=R env σ:=propext ZL
@[simp] theorem R9:im L m mu ops n Kp (.take S lt p) env σ R=wY L m n mu ops Kp R lt σ p S env:=propext ZL
@[simp] theorem Ta:im L m mu ops n Kp (.one i p) env σ R=(match ops[i]? with|some o=>Oper.ok n o=true/\PO L m n mu ops Kp R i p o env σ (wV ops n env o)|none=>False):=propext ZL
@[simp] theorem Sa:im L m mu ops n Kp (.both i p q) env σ R=((match ops[i]? with|some o=>Oper.ok n o=true/\PO L m n mu ops Kp R i p o env σ (wV ops n env o)|none=>False)/\im L m mu ops n Kp q env σ R):=propext ZL
@[simp] theorem Sb:wY L m n mu ops Kp R lt σ p [] env=im L m mu ops n Kp p env σ R:=propext ZL
@[simp] theorem QL:wY L m n mu ops Kp R lt σ p (i::S) env=(match ops[i]? with|some o=>(Oper.ok n o && o.dst.isSome)=true/\NZ L m n mu ops Kp R lt σ p S o env (wV ops n env o)|none=>False):=propext ZL
@[simp] theorem Sc{a:AV}:Cx L m n mu ops Kp R lt σ p S dst env (some a)=wY L m n mu ops Kp R lt σ p S (bc env dst a):=by unfold Cx;rw[HB]
@[simp] theorem Sd:Cx L m n mu ops Kp R lt σ p S dst env none=False:=by unfold Cx;rw[HC]
@[simp] theorem Ve{c:Prop}[Decidable c]{x:acn}:Cx L m n mu ops Kp R lt σ p S dst env (if c then x else none)=(c/\Cx L m n mu ops Kp R lt σ p S dst env x):=by by_cases h:c<;>simp[h]
@[simp] theorem Tb{o:Oper}:NZ L m n mu ops Kp R lt σ p S o env (some true)=Cx L m n mu ops Kp R lt σ p S o.dst env (EI L mu lt o env σ):=by unfold NZ;rw[nB,oa]
@[simp] theorem Se{o:Oper}:NZ L m n mu ops Kp R lt σ p S o env (some false)=wY L m n mu ops Kp R lt σ p S (bc env o.dst (.lit (.tuple #[]))):=by unfold NZ;rw[nB,mz]
def NZ.intro{o:Oper}{x:Bool}(a:x=true->NZ L m n mu ops Kp R lt σ p S o env (some true))(b:x=false->NZ L m n mu ops Kp R lt σ p S o env (some false)):NZ L m n mu ops Kp R lt σ p S o env (some x):=by cases x with|true=>exact a rfl|false=>exact b rfl
@[simp] theorem Tc{a:AV}:uY L m n mu ops Kp R p dst env (.ok a σ)=im L m mu ops n Kp p (bc env dst a) σ R:=propext ZL
@[simp] theorem QM{c:Prop}{x:Out}:uY L m n mu ops Kp R p dst env (.iA c x)=(c/\uY L m n mu ops Kp R p dst env x):=propext ZL
@[simp] theorem Sf{c:acw}:uY L m n mu ops Kp R p dst env (.new σ c)=vA L m n mu ops Kp R p dst env σ c:=propext ZL
@[simp] theorem Sg{x:acn}:uY L m n mu ops Kp R p dst env (.opt x σ)=S9 L m n mu ops Kp R p dst env σ x:=propext ZL
@[simp] theorem Si{a:AV}:S9 L m n mu ops Kp R p dst env σ (some a)=im L m mu ops n Kp p (bc env dst a) σ R:=propext ZL
def vA.intro{c:acw}(h:∀b,σ b=none->im L m mu ops n Kp p (bc env dst (.ref b 0)) (σ.set b (.cells c)) R):vA L m n mu ops Kp R p dst env σ c:=h
@[simp] theorem Td{o:Oper}:PO L m n mu ops Kp R i p o env σ (some true)=(if py L o=true then uY L m n mu ops Kp R p o.dst env (A8 L mu o env σ)else
   if uW o.op=true then Oe (P:=P) m o env σ (λa σ'=>aM P m ops n Kp p (bc env o.dst a) σ' R) Kp else ji P m ops n Kp i env σ (λenv σ=>aM P m ops n Kp p env σ R)):=by unfold PO;rw[nB,oa];rfl
@[simp] theorem Sj{o:Oper}:PO L m n mu ops Kp R i p o env σ (some false)=im L m mu ops n Kp p (bc env o.dst (.lit (.tuple #[]))) σ R:=by unfold PO;rw[nB,mz]
end
@[simp] theorem QN{l c:acw}(h:c.length=l.length):aJ l 0 c=c:=by unfold aJ;simp[h]
@[simp high] theorem EK{l:acw}{off:Nat}{v:AV}(h:off<l.length):aJ l off [v]=l.set off v:=by unfold aJ;rw[List.set_eq_take_append_cons_drop,if_pos h];simp
attribute [simp] EI vz kI wO A8 py wV uW Oe Od EH Function.comp_def
def oc(P:acD)(t:TypeId)(name:String)(f:FuncId)(a a':AV):Prop:=∀k O v (K:FuncId × Value->abX) Kp,V k v a->(∀r,V k r a'->K (f,r) k O)->dI P (method (P.types.size+Made.depth) t v name) k O K Kp
section
variable{P:acD}{m:Mo}{fid n:Nat}{ro:acf}{hold:ace}{s:St}{K:abK}{k:acm}
def qU{name:String}{recv:Value}{c a:abY}:Go.invoke (.fn (.method name) c) (#[recv]++a)=callMethod recv name a:=by
 have b:(#[recv]++a)[0]?=some recv:=by grind
 have d:(#[recv]++a).extract 1 (#[recv]++a).size=a:=by simp_all
 simp only[Go.invoke,b,d]
def ab.invoke{ops:acd}{i:Nat}{is:acr}{o:Oper}{recv:acE}{name:String}{args:abQ}{B:abW}{t f:Nat}{a a':AV}{fn:Func}(N:ops[i]?=some o)(C:o.op=.call ⟨.invoke recv name,args,B⟩)(hg:o.guard=none)(D:Oper.ok n o=true)
 (W:an s.env recv=.lZ t a) (X:oc P t name f a a') (Y:P.funcs[f]?=some fn) (hb:fn.body.isSome=true) (E:(fn.name==  "runtime.NumGoroutine")=false)
 (h:aA P m f (a'::args.toList.map (an s.env)) s.σ (λr σ'=>match r with|.val x=>ab P m fid n ro hold (.inRegion ops is::k) {s with env:=bc s.env o.dst x,σ:=σ'} K|.panic v=>K (.panic v) {s with σ:=σ'})):
 ab P m fid n ro hold (.inRegion ops (i::is)::k) s K:=λF Q kk O tmps defs kind cs Z d R=>by
 have hw:bW ops n s.env o:=by unfold bW;simp_all
 refine T.nW (λw=>dQ N (gY d.size d.env hw) (.inr λc e=>by simp_all) w) (dN ?_)
 have g:∀x∈o.op.operands,V kk (Frame.eval ⟨fid,tmps,.inRegion ops (i::is)::k,defs,.run,kind,ro⟩ x) (an s.env x):=λx S=>by
  refine V.eval d.env d.size x ?_;simp only[Oper.ok,zj,ZH]at D
  grind
 have y:=g recv (by simp_all)
 rw[W]at y;have l:=Vs.ofArray (k:=kk) (ρ:=Frame.eval ⟨fid,tmps,.inRegion ops (i::is)::k,defs,.run,kind,ro⟩) (env:=s.env) (xs:=args) (λx S=>g x (by simp_all))
 generalize hq:Frame.eval _ recv=cf at y;cases y with
 | lZ _ v _ H=>
   simp only[execOp,C,resolve,hq];refine af (ag ?_);rw[qU];unfold callMethod;simp only;refine af (bo ?_);refine af (X kk O v _ _ H λr I=>?_)
   simp only[callFunc];refine af (bo ?_);rw[Y];have J:fn.body.isNone=false:=by cases S:fn.body<;>simp_all
   simp only[E,J,zR,if_false];refine ag λ_=>⟨by simp,?_⟩
   have e:#[r]++args.map (Frame.eval ⟨fid,tmps,.inRegion ops (i::is)::k,defs,.run,kind,ro⟩)=(r::(args.map (Frame.eval ⟨fid,tmps,.inRegion ops (i::is)::k,defs,.run,kind,ro⟩)).toList).toArray:=by simp
   rw[e];refine h Q kk O _ ⟨fid,tmps,.inRegion ops (i::is)::k,defs,.run,kind,ro⟩ (fP s.rc cs) .normal (by simp) (.cons I ⟨by grind,λj v a y ha=>l.2 j v a (by grind) ha⟩) d.rel ?_ ?_
   . intro z A L U σ' b p q M
     obtain⟨u,e1,e2⟩:=d.put (fid:=fid) (ro:=ro) (rest:=is) (kk:=k) b N p q;show T P m Q z A (G (Frame.finish ⟨fid,tmps,.inRegion ops (i::is)::k,defs,.run,kind,ro⟩ L) (fP s.rc cs));rw[e1];exact M (by simpa[jI,kO]using F) Q z A u defs kind cs Z e2 (R.mono b)
   . intro z A L U σ' b p q M
     exact R.panic z A tmps defs {s with σ:=σ'} _ L U b ⟨d.size,d.env.mono b,q,d.ds.mono b,d.rc.mono b⟩ p M
def bX{ops:acd}{env:Env}{o:Oper}(a:o.guard=none):bW ops n env o:=by unfold bW;simp_all
def ab.defer{ops:acd}{i:Nat}{is:acr}{o:Oper}{fo:acE}{args:abQ}{a:abW}{f:Fn}{first cap:acw}(b:ro=none)(j:ops[i]?=some o)(c:o.op=.defer ⟨.value fo,args,a⟩)(l:o.guard=none)(d:Oper.ok n o=true)
 (e:an s.env fo=.fn f first cap) (h:ab P m fid n ro hold (.inRegion ops is::k) {s with env:=bc s.env o.dst .cE,D:=.call f cap (first++args.toList.map (an s.env))::s.D} K):ab P m fid n ro hold (.inRegion ops (i::is)::k) s K:=
 λg=>Go.defer b j c (bX l) d e (h (by simpa[jI,kO]using g))
end
def Gm(F a:ack)(σ σ':aa):Prop:=∀b x,¬F b->σ b=some x->σ' b=some x/\¬a b
def bp:AV->acf
 |.sl _ _ (.tok b _)=>some b
 |_=>none
def aa.off(σ:aa)(a:AV):aa:=match bp a with|some b=>σ.del b|none=>σ
def Tok.here{σ0 σ:aa}{a:AV}{kk:Nat}{es:acw}(h:Tok σ0 σ a kk es):Tok (σ.off a) σ a kk es/\σ0.Le (σ.off a):=by
 obtain⟨d,g⟩:=h;rcases g with⟨rfl,rfl⟩|rfl|⟨b,e,k,rfl,i⟩
 . exact⟨⟨aa.le_refl _,.inl ⟨rfl,rfl⟩⟩,d⟩
 . exact⟨⟨aa.le_refl _,.inr (.inl rfl)⟩,d⟩
 . refine⟨⟨λc x f=>?_,.inr (.inr ⟨b,e,by simp[aa.off,bp,aa.del],rfl,i⟩)⟩,λc x f=>?_⟩
   . simp only[aa.off,bp,aa.del]at f
     simp_all
   . have j:c≠b:=λe=>by simp_all
     simp only[aa.off,bp,aa.del,j,if_false];exact d c x f
def Tok.base{σ0 c σ:aa}{a:AV}{kk:Nat}{es:acw}(h:Tok c σ a kk es)(d:σ0.Le c):Tok σ0 σ a kk es:=by
 obtain⟨f,g⟩:=h;refine⟨aa.le_trans d f,?_⟩;rcases g with h|h|⟨b,e,k,i,j⟩
 . exact .inl h
 . simp_all
 . refine .inr (.inr ⟨b,e,?_,i,j⟩)
   cases hb:σ0 b with
   |none=>rfl
   |some x=>have:=d b x hb;simp_all
def Tok.beside{σ0 σ:aa}{a:AV}{kk:Nat}{es:acw}(h:Tok σ0 σ a kk es){b:Nat}{x:ga}(hb:σ0 b=none)(ht:bp a≠some b):Tok σ0 (σ.set b x) a kk es:=by
 obtain⟨d,f⟩:=h;refine⟨aa.fj d hb,?_⟩;rcases f with h|h|⟨c,e,g,rfl,i⟩
 . exact .inl h
 . simp_all
 . refine .inr (.inr ⟨c,e,g,rfl,?_⟩)
   have j:c≠b:=λe=>ht (by simp[bp,e])
   rw[aa.ai _ _ j];exact i
def Tok.aV{σ0 σ:aa}{a:AV}{kk:Nat}{es:acw}(h:Tok σ0 σ a kk es){b:Nat}(hb:bp a=some b):σ0 b=none/\∃e,σ b=some (.tail e):=by
 obtain⟨f,d⟩:=h;rcases d with⟨rfl,rfl⟩|rfl|⟨c,e,g,rfl,i⟩
 . cases hb
 . cases hb
 . simp only[bp,kn]at hb
   simp_all
def Tok.cells{σ0 σ:aa}{a:AV}{kk:Nat}{es:acw}(h:Tok σ0 σ a kk es):a.cells=[a]/\a.flat=true:=by
 obtain⟨_,b⟩:=h;rcases b with⟨rfl,rfl⟩|rfl|⟨c,e,d,rfl,f⟩<;>exact⟨rfl,rfl⟩
def aa.dO{σ:aa}{a:AV}{b:Nat}(h:bp a≠some b):σ.off a b=σ b:=by
 unfold aa.off;cases d:bp a with
 |none=>rfl
 | some c=>
   have:b≠c:=λe=>h (by rw[d,e])
   simp[aa.del,this]
def aa.QO{σ:aa}{a:AV}{b:Nat}{x:ga}(h:σ.off a b=some x):σ b=some x:=by
 unfold aa.off at h;cases d:bp a with
 |none=>simp_all
 | some c=>
   rw[d]at h;simp only[aa.del]at h
   simp_all
def eM:AV->acf
 |.gW b _ _ _=>some b
 |_=>none
def aa.Ba(σ:aa)(a:AV):aa:=match eM a with|some b=>σ.del b|none=>σ
def aa.qo{σ:aa}{a:AV}{b:Nat}(h:eM a≠some b):σ.Ba a b=σ b:=by
 unfold aa.Ba;cases d:eM a with
 |none=>rfl
 | some c=>
   have:b≠c:=λe=>h (by rw[d,e])
   simp[aa.del,this]
def aa.Oh{σ:aa}{a:AV}:(σ.Ba a).Le σ:=λb x h=>by
 unfold aa.Ba at h;cases d:eM a with
 |none=>rw[d]at h;exact h
 | some c=>
   rw[d]at h;simp only[aa.del]at h;split at h
   . cases h
   . exact h
def cq.cells{σ0 σ:aa}{a:AV}{kk:Nat}{es:acw}(h:cq σ0 σ a kk es):a.cells=[a]/\a.flat=true:=by
 obtain⟨_,b⟩:=h;rcases b with⟨_,rfl|rfl⟩|⟨c,cap,rest,rfl,_⟩<;>exact⟨rfl,rfl⟩
def cq.lE{σ0 σ:aa}{a:AV}{kk:Nat}{es:acw}(h:cq σ0 σ a kk es){b:Nat}(hb:eM a=some b):σ0 b=none/\∃l,σ b=some (.cells l):=by
 obtain⟨g,d⟩:=h;rcases d with⟨_,rfl|rfl⟩|⟨c,cap,rest,rfl,e,_,_,f,_⟩
 . cases hb
 . cases hb
 . simp only[eM,kn]at hb
   subst hb;exact⟨e,_,f⟩
def cq.here{σ0 σ:aa}{a:AV}{kk:Nat}{es:acw}(h:cq σ0 σ a kk es):cq (σ.Ba a) σ a kk es/\σ0.Le (σ.Ba a):=by
 obtain⟨d,e⟩:=h;refine⟨⟨aa.Oh,?_⟩,λc x f=>?_⟩
 . rcases e with h|⟨b,cap,rest,rfl,m,i,j,k,l⟩
   . exact .inl h
   . exact .inr ⟨b,cap,rest,rfl,by simp[aa.Ba,eM,aa.del],i,j,k,l⟩
 . by_cases g:eM a=some c
   . have:=(cq.lE ⟨d,e⟩ g).1
     rw[f]at this;cases this
   . rw[aa.qo g];exact d c x f
def cq.base{σ0 c σ:aa}{a:AV}{kk:Nat}{es:acw}(h:cq c σ a kk es)(d:σ0.Le c):cq σ0 σ a kk es:=by
 obtain⟨e,f⟩:=h;refine⟨aa.le_trans d e,?_⟩;rcases f with h|⟨b,cap,rest,rfl,g,i,j,k,l⟩
 . exact .inl h
 . refine .inr ⟨b,cap,rest,rfl,?_,i,j,k,l⟩
   cases hb:σ0 b with
   |none=>rfl
   |some x=>have:=d b x hb;rw[g]at this;cases this
def cq.keep{σ0 σ d σ':aa}{a:AV}{kk:Nat}{es:acw}(h:cq σ0 σ a kk es)(e:d.Le σ')(hb:∀b,eM a=some b->σ' b=σ b/\d b=none):cq d σ' a kk es:=by
 obtain⟨l,f⟩:=h;refine⟨e,?_⟩;rcases f with h|⟨c,cap,rest,rfl,m,g,i,j,k⟩
 . exact .inl h
 . exact .inr ⟨c,cap,rest,rfl,(hb c rfl).2,g,i,by rw[(hb c rfl).1];exact j,k⟩
inductive Wl:acw->acw->Prop
 |nil:Wl [] []
 |cons {a a':AV}{l l':acw}:a.W a'->Wl l l'->Wl (a::l) (a'::l')
def Wl.len{l a:acw}(h:Wl l a):l.length=a.length:=by
 induction h with
 |nil=>rfl
 |cons _ _ b=>simp[b]
def Wl.at{l c:acw}(h:Wl l c):∀{i:Nat}{a':AV},c[i]?=some a'->∃a,l[i]?=some a/\a.W a':=by
 induction h with
 |nil=>simp_all
 |@cons a b l c d e f=>grind
def Vs.zE{k:ah}{c:acg}{l e:acw}(h:Vs k c l)(f:Wl l e):Vs k c e:=⟨by rw[h.1,f.len],λi v a g ha=>by obtain⟨b,hb,d⟩:=f.at ha;exact d k v (h.2 i v b g hb)⟩
def aA.zE{P:acD}{m:Mo}{f:FuncId}{args args':acw}{σ:aa}{b:abT}(h:aA P m f args' σ b)(d:Wl args args'):aA P m f args σ b:=λQ k O a c rest kind e g i j l=>h Q k O a c rest kind e (g.zE d) i j l
def cu{P:acD}{m:Mo}{f:FuncId}{fn:Func}{args args':acw}{σ:aa}{b:abT}(c:P.funcs[f]?=some fn)(hb:fn.body.isSome=true)(a:(fn.name==  "runtime.NumGoroutine")=false)(d:Wl args args')(h:aA P m f args' σ b):
 bZ P m (.fn (.func f) [] []) args σ b:=ar c hb a (h.zE d)
def ah.Kd(k:ah)(r:Nat)(c:abY)(f:Nat->abV):ah:={k with cell:=λb j=>if b=r/\f j=none then c[j]? else k.cell b j}
def EL{k:ah}{O:aj}{r:Nat}{c:abY}{e:TypeId}{f:Nat->abV}(p:O r=some (.obj (.cells c e (0,0))))(B:k.sh r=some (e,c.size))(C:∀i v,f i=some v->c[i]?=some v):kH k O (k.Kd r c f) (O.set r (.part f)):=λw h=>by
 have y:=h.obj _ _ p
 have D:∀j,k.cell r j=none:=λj=>by
  cases q:k.cell r j with
  |none=>rfl
  |some v=>exact(h.apart _ _ _ q (.inl ⟨_,p⟩)).elim
 have t:k.Le (k.Kd r c f):=⟨λb i v l=>by
  have:¬(b=r/\f i=none):=λx=>by simp_all
  simpa[ah.Kd,this]using l,λ_ _ h=>h⟩
 have n:∀b,b≠r->(O.set r (.part f)) b=O b:=λb hb=>by simp[aj.set,hb]
 have d:(O.set r (.part f)) r=some (.part f):=by simp[aj.set]
 refine⟨⟨λb i v l z=>?_,λb i v l=>?_,h.sh,λb o hb=>?_,λb m hb=>?_,λb g hb=>?_⟩,⟨t,ZF _,λ_ _ _=>rfl,λ_ _ _ _ c _ h=>⟨c,h,rfl,λ_ _=>rfl⟩,λ_ _ _ _ c _ h=>⟨c,h,rfl,λ_ _=>rfl⟩,λ_ _=>rfl,λb x A=>?_,λb i v l=>?_,λ_ _ h=>.inl h,by simp,rfl,rfl,rfl,by simp,λb g hb=>?_⟩⟩
 . by_cases hb:b=r
   . subst hb
     rcases z with⟨o,s⟩|⟨m,s,E⟩|⟨g,s,E⟩
     . simp_all
     . simp_all
     . rw[d]at s;cases s
       simp only[ah.Kd,true_and]at l
       simp_all
   . have u:k.cell b i=some v:=by simpa[ah.Kd,hb]using l
     exact h.apart b i v u (by simpa[aS,aj.set,hb]using z)
 . by_cases hb:b=r/\f i=none
   . obtain⟨rfl,F⟩:=hb
     simp only[ah.Kd,F,and_self,if_true]at l;simp[World.cell?,y,l]
   . exact h.cell b i v (by simpa only[ah.Kd,hb,if_false]using l)
 . by_cases a:b=r
   . simp_all
   . exact h.obj b o (by simp_all)
 . by_cases a:b=r
   . simp_all
   . exact h.tail b m (by simp_all)
 . by_cases a:b=r
   . subst a;rw[d]at hb;cases hb
     exact⟨c,e,y,B,C⟩
   . exact h.part b g (by simp_all)
 . by_cases a:b=r
   . subst a;exact .inl ⟨_,p,trivial⟩
   . rw[n b a]at A;exact .inl ⟨x,A,.refl x⟩
 . by_cases hb:b=r/\f i=none
   . obtain⟨rfl,_⟩:=hb;exact .inr (.inl (.inl ⟨_,p⟩))
   . exact .inl (by simpa only[ah.Kd,hb,if_false]using l)
 grind
section
variable{P:acD}{m:Mo}{Q:abz}{k:ah}{O:aj}{g:aco}{σ:aa}
def T.part{r:Nat}{c:abY}{e:TypeId}{f:Nat->abV}(d:O r=some (.obj (.cells c e (0,0))))(p:∀i v,f i=some v->c[i]?=some v)(b:g.status=.running)
 (h:∀k' O',k.Le k'->k'.sh r=some (e,c.size)->(∀j v,f j=none->c[j]?=some v->k'.cell r j=some v)->O'=O.set r (.part f)->T P m Q k' O' g):T P m Q k O g:=by
 by_cases a:∃w,Sat k O w
 . obtain⟨w,l⟩:=a
   have q:=(jY (k:=k) d w l).2.le;have o:=EL (k:=k.eD r (e,c.size)) (f:=f) d (by simp[ah.eD]) p;have n:(k.eD r (e,c.size)).Le ((k.eD r (e,c.size)).Kd r c f):=(o w (jY (k:=k) d w l).1).2.le;exact .ghost (jY d) (.ghost o (h _ _ (q.trans n) (by simp[ah.Kd,ah.eD]) (λj v s t=>by simp[ah.Kd,s,t]) rfl))
 . exact .step (λ_ _ _=>False) b (λ_ _ _ h=>h.elim) λw l=>absurd ⟨w,l⟩ a
def T.PQ{b:Nat}{l:acw}{hole:acr}{f:Nat->abV}(r:Rel k O σ)(hb:σ b=some (.cells l))(w:∀i v,f i=some v->l[i]?=some (.lit v))(E:∀i,f i=none↔i∉hole)(o:g.status=.running)
 (h:∀k' O',k.Le k'->(∀off,V k' (.pointer (some ⟨b,off,none⟩)) (.kp b l hole off))->Rel k' O' (σ.set b (.part f))->T P m Q k' O' g):T P m Q k O g:=by
 obtain⟨y,x,z⟩:=r.1 b _ hb (by simp);cases z with
 | cells c e _ F s A=>
   refine T.part (f:=f) x (λi v B=>?_) o λk' O' n p G q=>?_
   . have C:=w i v B
     have d:i<c.size:=by grind
     have t:=s i c[i] _ (by simp[d]) C;have:c[i]=v:=by generalize c[i]=u at t;cases t;rfl
     grind
   . refine h k' O' n (λoff=>.kp b off c.size e l hole (λj=>c.getD j undef) p (by omega) (λj H D=>?_) (λj a D ha=>?_)) ?_
     . have d:j<c.size:=by omega
       refine⟨?_,?_⟩
       . simp_all
       . simp only[Array.getD,d,dif_pos]
         exact A j _ (by simp[d])
     . have d:j<c.size:=by grind
       simp only[Array.getD,d,dif_pos];exact(s j _ a (by simp[d]) ha).mono n
     . rw[q]
       exact(r.mono n).set (.part f)
def aA.share{f:FuncId}{args:acw}{j KF0:abT}(h:aA P m f args σ KF0)
 (u:∀r σ',KF0 r σ'->j r σ'\/∃b l hole F,r=.val (.ref b 0)/\σ' b=some (.cells l)/\(∀i v,F i=some v->l[i]?=some (.lit v))/\(∀i,F i=none↔i∉hole)/\j (.val (.kp b l hole 0)) (σ'.set b (.part F))):aA P m f args σ j:=by
 intro Q k O a c rest kind w x y z H;refine h Q k O a c rest kind w x y (λA B C D σ' d s t n=>?_) (λA B C D σ' d s t n=>?_)
 . rcases u _ _ n with n|⟨b,l,hole,F,e,hb,E,G,o⟩
   . grind
   . cases e
     cases s;exact T.PQ t hb E G (by cases kind<;>rfl) λI J g p q=>z _ _ _ _ _ (d.trans g) (p 0) q o
 grind
end
structure HF(P:acD)(mt kt et:Nat){κ:Type}[BEq κ](ka:κ->AV)(kv:κ->Value):Prop where
 hm:P.underlying mt=some (.map kt et)
 hk:∃fs,P.underlying kt=some (.struct fs)
 val:∀{k:ah}{v:Value}{n:κ},V k v (ka n)->v=kv n
 Cd:∀{k:ah}{O:aj}{Kp:abB}{b:Bool}{n:κ}{K:abE},K () k O->dI P (Instr.checkKey b 10000 kt (kv n)) k O K Kp
 eq:∀{k:ah}{O:aj}{Kp:abB}{a b:κ}{K:abD},K (a==b) k O->dI P (Op.equal kt (kv a) (kv b)) k O K Kp
section
variable{κ:Type}[BEq κ]{ka:κ->AV}{kv:κ->Value}
def mY(ka:κ->AV)(l:List (κ × AV)):ga:=.map (l.map λp=>(ka p.1,p.2))
def dp(l:List (κ × AV))(n:κ):acn:=(l.find? λp=>n==p.1).map (·.2)
variable{P:acD}(L:iZ P){k:ah}{O:aj}{Kp:abB}{mt kt et:Nat}
def cC{K:TypeDesc->abX}{t:Nat}{d:TypeDesc}(a:P.underlying t=some d)(h:K d k O):dI P (underlying t) k O K Kp:=by unfold underlying;refine af (bo ?_);rw[a];exact h
def oV(M:HF P mt kt et ka kv){n:κ}{K:Option (Nat × Value)->abX}:∀(es:List MapEntry) (l:List (κ × AV)) (j:Nat),es.length=l.length->(∀(j:Nat) e p,es[j]?=some e->l[j]?=some p->V k e.key (ka p.1)/\V k e.val p.2) ->
 (∀a v j,dp l n=some a->V k v a->K (some (j,v)) k O)->(dp l n=none->K none k O)->dI P (Instr.findAsking kt (kv n) es j) k O K Kp
 |[],[],j,_,_,_,h=>by rw[Instr.findAsking];exact ag (h rfl)
 | e ::es,p::l,j,o,d,b,f=>by
   obtain⟨g,i⟩:=d 0 e p rfl rfl;rw[Instr.findAsking,M.val g];refine af (M.eq ?_);cases c:(n==p.1)with
   |true=>simp only[if_true];exact ag (b p.2 _ _ (by simp[dp,c]) i)
   | false=>
     simp only[zR,if_false];have m:dp (p::l) n=dp l n:=by simp[dp,c]
     rw[m]at b f;exact oV M es l (j+1) (by simp_all) (λj e p q c=>d (j+1) e p (by simp_all) (by simp_all)) b f
 |[],_::_,_,h,_,_,_=>by simp at h
 |_::_,[],_,h,_,_,_=>by simp at h
def su(M:HF P mt kt et ka kv){n:κ}{K:Option (Nat × Value)->abX}{es:List MapEntry}{l:List (κ × AV)}(b:es.length=l.length)(d:∀(j:Nat) e p,es[j]?=some e->l[j]?=some p->V k e.key (ka p.1)/\V k e.val p.2)
 (f:∀a v j,dp l n=some a->V k v a->K (some (j,v)) k O) (c:dp l n=none->K none k O):dI P (Instr.findKey kt (kv n) es) k O K Kp:=by
 obtain⟨fs,g⟩:=M.hk;unfold Instr.findKey;refine af (cC g ?_);cases es with
 | nil=>
   cases l with
   |nil=>exact ag (c rfl)
   |cons p l=>simp at b
 | cons e es=>
   have:Instr.findNow (.struct fs) (kv n) (e::es) 0=none:=by simp[Instr.findNow,Instr.sameNow]
   rw[this];exact oV M _ l 0 b d f c
omit [BEq κ] in
def Gn{σ:aa}(c:Rel k O σ){b:Nat}{l:List (κ × AV)}(hb:σ b=some (mY ka l)):∃es clock,O b=some (.obj (.map es clock))/\es.toList.length=l.length/\∀(j:Nat) e p,es.toList[j]?=some e->l[j]?=some p->V k e.key (ka p.1)/\V k e.val p.2:=by
 obtain⟨x,d,a⟩:=c.1 b _ hb (by simp[mY]);unfold mY at a;cases a with
 | map es clock m f g=>
   refine⟨es,clock,d,by simpa using f,λj e p h i=>?_⟩;exact g j e (ka p.1,p.2) (by simpa using h) (by simp[i])
variable{o:Oper}{env:Env}{σ:aa}{K Kq:abU}
def wZ(M:HF P mt kt et ka kv){p:TI}{x m:acE}{b:Nat}{l:List (κ × AV)}{n:κ}{two:Bool}(y:o.op=.lookup mt x m two)(q:L.tt et=some p)(z:an env x=.map b)(hi:an env m=ka n)(hb:σ b=some (mY ka l))
 (e:K (if two then .cB [(dp l n).getD (ly p.zero),.lit (.bool (dp l n).isSome)]else(dp l n).getD (ly p.zero)) σ):aI P o env σ K Kq:=
 aI.val (s:=λf=>Instr.lookup mt (f x) (f m) two) (λf=>by simp[execOp,y]) λk O f g h=>by
  have r:=g x (by simp_all);have w:=g m (by simp_all);rw[z]at r;rw[hi]at w;rw[M.val w];generalize f x=F at r;cases r;obtain⟨es,clock,A,B,C⟩:=Gn h hb;unfold Instr.lookup;refine af (cC M.hm ?_);simp only;refine af (s:=getObj b) ⟨_,A,rfl,ag ?_⟩;refine af (ag ?_);refine af (M.Cd ?_);refine af (su M B C (λa v j t D=>?_) (λt=>?_))
  . simp only
    refine af (ag ?_);rw[t]at e;cases two with
    |false=>exact ag (.here ⟨.refl k,_,σ,D,h,e⟩)
    |true=>
    refine ag (.here ⟨.refl k,_,σ,.cB _ _ rfl (λi u E d c=>?_),h,e⟩)
    match i with
    |0=>simp_all
    |1=>simp at d c;subst d;subst c;exact .lit _
    |i+2=>simp at c
  . simp only
    refine af (cR L q ?_);refine af (ag ?_);rw[t]at e;cases two with
    |false=>exact ag (.here ⟨.refl k,_,σ,.ly k _,h,e⟩)
    |true=>
    refine ag (.here ⟨.refl k,_,σ,.cB _ _ rfl (λi u E d c=>?_),h,e⟩)
    match i with
    |0=>simp at d c;subst d;subst c;exact .ly k _
    |1=>simp at d c;subst d;subst c;exact .lit _
    |i+2=>simp at c
def qV(M:HF P mt kt et ka kv){x f y:acE}{b:Nat}{l:List (κ × AV)}{n:κ}{a:AV}(r:o.op=.mapUpdate mt x f y)(t:an env x=.map b)(hi:an env f=ka n)(u:an env y=a)(hb:σ b=some (mY ka l))(F:dp l n=none)
 (w:K (.lit undef) (σ.set b (mY ka (l++[(n,a)])))):aI P o env σ K Kq:=λk O d c m=>by
 have g:=c x (by simp_all);have h:=c f (by simp_all);have z:=c y (by simp_all);rw[t]at g;rw[hi]at h;rw[u]at z;have A:execOp d o=(do Instr.mapUpdate mt (d x) (d f) (d y);pure .skip):=by simp[execOp,r]
 rw[A];have i:=h;rw[M.val h]at i ⊢;generalize d x=G at g;cases g;obtain⟨es,clock,q,B,C⟩:=Gn m hb;unfold Instr.mapUpdate;refine af (af (cC M.hm ?_));simp only;refine af (s:=getObj b) ⟨_,q,rfl,ag ?_⟩;simp only;refine af (M.Cd ?_);refine af (su M B C (λa v j H I=>by simp_all) (λ_=>?_));simp only;refine⟨⟨_,q,rfl⟩,rfl,ag ?_⟩;refine⟨undef,.inr ⟨rfl,rfl⟩,.here ⟨.refl k,.lit undef,_,.lit _,m.set (.map _ _ _ ?_ (λj e p D E=>?_)),w⟩⟩
 . simp_all
 . rw[Array.getElem?_push]at D
   rw[ZI]at E
   grind
omit [BEq κ] in
def uZ{mt:Nat}(ka:κ->AV)(f:o.op=.makeMap mt none)(g:∀b,σ b=none->K (.map b) (σ.set b (mY ka []))):aI P o env σ K Kq:=
 aI.val (s:=λc=>Instr.makeMap mt none) (λc=>by simp[execOp,f]) λk O c h d=>by
  unfold Instr.makeMap;simp only;refine af (s:=newObj _) ⟨rfl,λr a=>ag ?_⟩;exact .here ⟨.made a.2.2,_,_,.map r,(d.mono (.made a.2.2)).set (.map _ _ _ rfl λj e p i=>by simp at i),g r (d.isNone a.1 a.2.2)⟩
end
structure Ke(P:acD)(mt kt et ft:Nat)(kd:IntKind):Prop where
 hm:P.underlying mt=some (.map kt et)
 hk:∃f,P.underlying kt=some (.struct #[f])/\(f.name≠ "_")/\f.type=ft/\f.offset=0
 hf:P.underlying ft=some (.int kd)
 hs:P.stoodInHeld kt=false
structure Cy(P:acD)(mt kt et ft:Nat)(kd:IntKind):Prop where
 hm:P.underlying mt=some (.map kt et)
 hk:∃f g,P.underlying kt=some (.struct #[f,g])/\(f.name≠ "_"/\g.name≠ "_")/\(f.type=ft/\g.type=ft)/\f.offset=0/\g.offset=1
 hf:P.underlying ft=some (.int kd)
 hs:P.stoodInHeld kt=false
def HG(kd:IntKind)(n:Int):AV:=.agg [.lit (.int kd n)]
def pz(kd:IntKind)(p:Int × Int):AV:=.agg [.lit (.int kd p.1),.lit (.int kd p.2)]
abbrev mapA(kd:IntKind)(l:abI):ga:=mY (HG kd) l
abbrev Gp(l:abI)(n:Int):acn:=dp l n
section
variable{P:acD}(L:iZ P){k:ah}{O:aj}{Kp:abB}{mt kt et ft:Nat}{kd:IntKind}
def gZ{K:abB}{i:TI}{v:Value}{c:abY}{o:Nat}(ht:L.tt ft=some i)(ha:i.agg=false)(a:c[o]?=some v)(h:K v k O):dI P (part ft c o) k O K Kp:=by unfold part;refine af (qf L ht ?_);rw[ha,a];exact ag h
def V.HG{k:ah}{v:Value}{kd:IntKind}{n:Int}(h:V k v (HG kd n)):v=.agg #[.int kd n]:=by
 cases h with
 | agg c l a b=>
   obtain⟨c⟩:=c
   match c,a with
   |[x],_=>have:=b 0 x (.lit (.int kd n)) rfl rfl;cases this;rfl
def V.pz{k:ah}{v:Value}{kd:IntKind}{n:Int × Int}(h:V k v (pz kd n)):v=.agg #[.int kd n.1,.int kd n.2]:=by
 cases h with
 | agg c l b a=>
   obtain⟨c⟩:=c
   match c,b with
   |[x,y],_=>have d:=a 0 x (.lit (.int kd n.1)) rfl rfl;have e:=a 1 y (.lit (.int kd n.2)) rfl rfl;cases d;cases e;rfl
variable{i:TI}(ht:L.tt ft=some i)(ha:i.agg=false)
include ht ha
def Ke.key(M:Ke P mt kt et ft kd):HF P mt kt et (bQ.HG kd) (λn=>.agg #[.int kd n]) where
 hm:=M.hm
 hk:=let ⟨f,h,_⟩:=M.hk;⟨_,h⟩
 val:=V.HG
 Cd {k O Kp b n K} h:=by obtain⟨f,d,e,g,i⟩:=M.hk;show dI P (Instr.checkKey b (9998+1+1) kt (.agg #[.int kd n])) k O K Kp;rw[Instr.checkKey];refine af (cC d ?_);simp only[aaJ,aaH,aaO];rw[if_pos e,g,i];refine af (af (af (gZ L ht ha rfl ?_)));rw[Instr.checkKey];refine af (af (cC M.hf ?_));exact ag (ag (ag (ag h)))
 eq {k O Kp a b K} h:=by
  obtain⟨f,d,e,g,i⟩:=M.hk;show dI P (Op.equalIn (9998+1+1) kt (.agg #[.int kd a]) (.agg #[.int kd b])) k O K Kp;rw[Op.equalIn];refine af (cC d ?_);refine af (bo ?_);rw[M.hs];simp only[zR,if_false,aaJ,aaH,aaO];rw[if_pos e,g,i];refine af (af (af (gZ L ht ha (v:=.int kd a) rfl ?_)));refine af (gZ L ht ha (v:=.int kd b) rfl ?_);refine af ?_;rw[Op.equalIn];refine af (cC M.hf ?_);simp only[if_true];refine ag ?_;cases c:(a==b)with
  |true=>rw[c]at h;exact ag (ag (ag h))
  |false=>rw[c]at h;exact ag (ag (ag h))
def Cy.key(M:Cy P mt kt et ft kd):HF P mt kt et (bQ.pz kd) (λn=>.agg #[.int kd n.1,.int kd n.2]) where
 hm:=M.hm
 hk:=let ⟨f,g,h,_⟩:=M.hk;⟨_,h⟩
 val:=V.pz
 Cd {k O Kp b n K} h:=by
  obtain⟨f,g,m,⟨o,c⟩,⟨p,d⟩,q,i⟩:=M.hk;show dI P (Instr.checkKey b (9998+1+1) kt (.agg #[.int kd n.1,.int kd n.2])) k O K Kp;rw[Instr.checkKey];refine af (cC m ?_);simp only[aaJ,aaH,aaO];rw[if_pos o,if_pos c,p,q,d,i];refine af (af (af (gZ L ht ha rfl ?_)));rw[Instr.checkKey];refine af (af (cC M.hf ?_));refine ag (ag ?_);refine af (af (gZ L ht ha rfl ?_));refine af (af (cC M.hf ?_));exact ag (ag (ag (ag h)))
 eq {k O Kp a b K} h:=by
  obtain⟨f,g,m,⟨o,c⟩,⟨p,d⟩,q,i⟩:=M.hk;show dI P (Op.equalIn (9998+1+1) kt (.agg #[.int kd a.1,.int kd a.2]) (.agg #[.int kd b.1,.int kd b.2])) k O K Kp;rw[Op.equalIn];refine af (cC m ?_);refine af (bo ?_);rw[M.hs];simp only[zR,if_false,aaJ,aaH,aaO];rw[if_pos o,if_pos c,p,q,d,i];refine af (af (af (gZ L ht ha (v:=.int kd a.1) rfl ?_)));refine af (gZ L ht ha (v:=.int kd b.1) rfl ?_);refine af ?_;rw[Op.equalIn];refine af (cC M.hf ?_);simp only[if_true];refine ag ?_;have e:(a==b)=(a.1==b.1 && a.2==b.2):=rfl;rw[e]at h;cases j:(a.1==b.1)with
  |false=>rw[j]at h;exact ag (ag (ag h))
  | true=>
    rw[j]at h;refine ag ?_;refine af (af (gZ L ht ha (v:=.int kd a.2) rfl ?_));refine af (gZ L ht ha (v:=.int kd b.2) rfl ?_);refine af ?_;refine af (cC M.hf ?_);simp only[if_true];refine ag ?_;cases l:(a.2==b.2)with
    |true=>rw[l]at h;exact ag (ag (ag h))
    |false=>rw[l]at h;exact ag (ag (ag h))
end
section
variable{P:acD}(L:iZ P){o:Oper}{env:Env}{σ:aa}{K:abU}{Kp:abU}
def EM{i:TI}{d:TypeDesc}(h:dF P i d=true)(a:i.kind=.iface):∃ms,d=.interface ms:=by cases d<;>simp_all [dF]
def gJ{op:BinOp}{t z:Nat}{x:acE}{i:TI}{isNil:Bool}(A:o.op=.binOp op t x (.const .nilIface) z)(ht:L.tt t=some i)(B:i.kind=.iface)
 (C:(an env x=.lit .nilIface/\isNil=true)\/(∃d a,an env x=.lZ d a)/\isNil=false){b:Bool}(l:(op=.eql/\b=isNil)\/(op=.neq/\b=!isNil)) (D:K (.lit (.bool b)) σ):aI P o env σ K Kp:=
 aI.val (s:=λc=>do eqGuard op t x (.const .nilIface) (c x) (c (.const .nilIface));binOp op t (c x) (c (.const .nilIface))) (λc=>by simp[execOp,A]) λk O c m E=>by
  have n:=m x (by simp_all)
  have q:=m (.const .nilIface) (by simp_all)
  have F:c (.const .nilIface)=.nilIface:=by simp only[an]at q;generalize c (.const .nilIface)=w at q;cases q;rfl
  have f:(c x=.nilIface/\isNil=true)\/∃d v,c x=.iface d v/\isNil=false:=by
   rcases C with⟨e,h⟩|⟨⟨d,a,e⟩,h⟩<;>rw[e]at n
   . generalize c x=w at n;cases n;simp_all
   . generalize c x=w at n;cases n;simp_all
  rw[F]
  have G:eqGuard op t x (.const .nilIface) (c x) .nilIface=pure ():=by rcases f with⟨f,_⟩|⟨d,v,f,_⟩<;>rw[f]<;>rcases l with⟨rfl,_⟩|⟨rfl,_⟩<;>simp[eqGuard]
  rw[G];refine af (ag ?_)
  have fin:∀{s:Sem Value},s=(do pure (.bool b))->dI P s k O (λv p r=>mq p r λu H=>k.Le u/\∃a g,V u v a/\Rel u H g/\K a g) (λv p r=>k.Le p/\∃a g,V p v a/\Rel p r g/\Kp a g):=λe=>by rw[e];exact ag (.here ⟨.refl k,_,σ,.lit _,E,D⟩)
  have j:∀(R:abD) (y:abB),R isNil k O->dI P (Op.equal t (c x) .nilIface) k O R y:=λR y I=>by
   show dI P (Op.equalIn (9999+1) t (c x) .nilIface) k O R y;rw[Op.equalIn];refine af (aF L ht λd _ hd=>?_)
   obtain⟨ms,rfl⟩:=EM hd B
   rcases f with⟨f,rfl⟩|⟨d,v,f,rfl⟩<;>rw[f]<;>exact ag I
  rcases f with⟨f,J⟩|⟨d,v,f,J⟩<;>rw[f]at j ⊢<;>rcases l with⟨rfl,rfl⟩|⟨rfl,rfl⟩
  . exact af (s:=Op.equal t .nilIface .nilIface) (j _ _ (fin rfl))
  . exact af (s:=Op.equal t .nilIface .nilIface) (j _ _ (fin rfl))
  . exact af (s:=Op.equal t (.iface d v) .nilIface) (j _ _ (fin rfl))
  . exact af (s:=Op.equal t (.iface d v) .nilIface) (j _ _ (fin rfl))
end
