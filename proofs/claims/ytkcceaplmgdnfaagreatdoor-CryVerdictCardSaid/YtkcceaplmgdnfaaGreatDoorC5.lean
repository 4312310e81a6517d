import Derived.KernelRfl
import Derived.Test.YtkcceaplmgdnfaaGreatDoorC4
set_option linter.all false
namespace Go.cG
open Go.Conc
abbrev adv:=List Entry
section
variable{P:adS}(L:jo P){m:Mo}
def aA.start{f:FuncId}{fn:Func}{args:adL}{σ:aa}{b:adl}{body:Code}(mu:adH)(hold:adv)(k:Nat)(c:P.funcs[f]?=some fn)(hb:fn.body=some body)(e:args.length=k)(d:oC fn k=true)(a:lg hold body=true)
 (h:bx L m f fn.ntmps none mu hold 1000 [.code body] ⟨dw args,σ,[],.no⟩ (SN L m fn.results.toList (nK b))):aA P m f args σ b:=by
 simp only[oC,zj]at d;refine aA.thaw (aA.intro L c hb (by simp_all) ?_ (Go.bx L mu hold 1000 (by simpa[jS]using a) h))
 simp_all
variable{fid n:Nat}{ro:adw}{hold:adv}{s:St}{K:ada}{k:adD}
def af.run(mu:adH){todo:adD}(h:bx L m fid n ro mu hold 1000 todo s K):af P m fid n ro hold todo s K:=λa=>Go.bx L mu hold 1000 a h
def ar{f:FuncId}{fn:Func}{args:adL}{σ:aa}{b:adl}(c:P.funcs[f]?=some fn)(hb:fn.body.isSome=true)(a:(fn.name==  "runtime.NumGoroutine")=false)(h:aA P m f args σ b):
 bI P m (.fn (.func f) [] []) args σ b:=.func c hb a (by simpa using h)
def dp{f:FuncId}{fn:Func}{first cap args args':adL}{σ:aa}{b:adl}(c:P.funcs[f]?=some fn)(hb:fn.body.isSome=true)(a:(fn.name==  "runtime.NumGoroutine")=false)(d:first++args++cap=args')(h:aA P m f args' σ b):
 bI P m (.fn (.func f) first cap) args σ b:=.func c hb a (d ▸ h)
def af.loop{c:Code}(N:Nat)(I:Nat->St->Prop)(g:I 0 s)
 (h:∀b i s,i<=N->I i s->(∀s',i<N->I (i+1) s'->af P m fid n ro hold (.inLoop b::k) s' K)->af P m fid n ro hold (.code c::.inLoop b::k) s K):af P m fid n ro hold (.code (.loop c)::k) s K:=λe=>by
 have d:∀b,jS hold (.code c::.inLoop b::k)=true:=λb=>by simpa[jS,lg]using e
 refine Go.loop (λa s=>∃i,a=N-i/\i<=N/\I i s) N ⟨0,by simp,by omega,g⟩ ?_;rintro b a s ⟨i,rfl,j,l⟩ o;exact h b i s j l (λs' p f _=>o (N-(i+1)) s' (by omega) ⟨i+1,rfl,by omega,f⟩) (d b)
def K4:Option Code->Bool
 |none=>true
 |some .ret=>true
 |some (.exit _)=>true
 |_=>false
def af.rangeFunc{f:adT}{params:Array Tmp}{assign body:Code}(i:Operand.ok n f=true)
 (h:jS hold [.code assign,.code body]=true->∀r l,s.σ r=none->s.σ l=none->r≠l->bI P m (ao s.env f) [.fn (.yield l) [] []] ((s.σ.set r (.raw (.deferred (some [])))).set l (.loop ⟨.ready,none,fid,n,s.env,params,assign,body,r⟩))
   (fun res σ'=>match res with
     |.val _=>∃a,σ' l=some (.loop a)/\a.state≠.busy/\K4 a.pending=true/\af P m fid n none hold ((a.pending.map Item.code).toList++k) {s with σ:=σ'.del l,D:=.mark r::s.D} K
     |.panic v=>K (.panic v) {s with σ:=σ',D:=.mark r::s.D})):af P m fid n none hold (.code (.rangeFunc f params assign body)::k) s K:=λd=>by
 have j:jS hold [.code assign,.code body]=true:=by
  simp only[jS,abj,lg,zj]at d ⊢
  simp_all
 refine Go.rangeFunc i λr l a b c=>(h j r l a b c).mono λres σ' e=>?_
 cases res with
 |panic v=>exact e
 |val v=>obtain⟨o,p,q,g,t⟩:=e;refine⟨o,p,q,t ?_⟩;simp only[jS,abj,zj,List.all_append]at d ⊢;refine⟨?_,d.2⟩;unfold K4 at g;split at g<;>rename_i u<;>simp_all [lg]
def bI.uF{l:Nat}{args:adL}{σ:aa}{c:adl}{a:nG}{fn:Func}(b:jS hold [.code a.assign,.code a.body]=true)(d:P.funcs[a.fn]?=some fn)(e:σ l=some (.loop a))(f:args.length=a.params.size)
 (h:af P m a.fn a.n (some l) hold [.code a.assign,.beginRound,.code a.body] ⟨lO a.env a.params.toList args,σ,[],.no⟩ (KW l c)):bI P m (.fn (.yield l) [] []) args σ c:=
 .yield d e f (h (by simp only[jS,abj,zj]at b ⊢;simp_all))
def af.beginRound{l:Nat}{a:nG}(c:s.σ l=some (.loop a))(ha:a.state=.ready)(h:af P m fid n (some l) hold k {s with σ:=s.σ.set l (.loop {a with state:=.busy})} K):af P m fid n (some l) hold (.beginRound::k) s K:=λb=>.beginRound c ha (h (by simpa[jS,lg]using b))
def af.freeze{todo:adD}{env a:Env}{σ σ':aa}{D:adO}{rc:Rec}(b:Nat)(l:adL)(hb:σ b=some (.cells l))(c:∀t,Fz b l (env t) (a t))(e:OT b l σ σ')
 (h:af P m fid n ro hold todo ⟨a,σ',D,rc⟩ K):af P m fid n ro hold todo ⟨env,σ,D,rc⟩ K:=λd=>Go.freeze b l hb c e (h d)
end
def aa.le_refl(σ:aa):σ.Le σ:=λ_ _ h=>h
def aa.le_trans{a b c:aa}(h:a.Le b)(h':b.Le c):a.Le c:=λx y e=>h' x y (h x y e)
def aa.pZ{σ0 σ:aa}{b:Nat}{x:gn}(h:σ0.Le σ)(hb:σ b=none):σ0.Le (σ.set b x):=λc y a=>by
 by_cases e:c=b
 . subst e;have:=h _ _ a;simp_all
 . simp only[aa.set,e,Rp];exact h _ _ a
def aa.fC{σ0 σ:aa}{b:Nat}{x:gn}(h:σ0.Le σ)(hb:σ0 b=none):σ0.Le (σ.set b x):=λc y a=>by
 by_cases e:c=b
 . simp_all
 . simp only[aa.set,e,Rp];exact h _ _ a
def aa.lR{σ0 σ:aa}{b:Nat}(h:σ0.Le σ)(hb:σ0 b=none):σ0.Le (σ.del b):=λc y a=>by
 by_cases e:c=b
 . simp_all
 . simp only[aa.del,e,Rp];exact h _ _ a
def aa.aP{σ:aa}{b c:Nat}{x:gn}(h:(σ.set b x) c=none):c≠b/\b≠c/\σ c=none:=by
 by_cases e:c=b
 . subst e;simp[aa.set]at h
 . simp only[aa.set,e,Rp]at h
   grind
@[simp] theorem aa.an(σ:aa)(b:Nat)(x:gn):(σ.set b x) b=some x:=by simp[aa.set]
def aa.ai(σ:aa){b c:Nat}(x:gn)(h:c≠b):(σ.set b x) c=σ c:=by simp[aa.set,h]
@[simp] theorem aa.set_set(σ:aa)(b:Nat)(x y:gn):(σ.set b x).set b y=σ.set b y:=by funext c;by_cases e:c=b<;>simp[aa.set,e]
section
variable{P:adS}(L:jo P)(m:Mo)(fid n f:Nat)(ro:adw)(mu:adH)(hold:adv)
def stepW(ops:adu)(is:adH)(k:adD)(dst:ady)(s:St)(K:ada)(x:Out):Prop:=se x (λa b=>bx L m fid n ro mu hold f (.inRegion ops is::k) {s with env:=bd s.env dst a,σ:=b} K) (λa b=>K (.panic a) {s with σ:=b})
def K5(ops:adu)(is:adH)(k:adD)(dst:ady)(s:St)(K:ada)(σ:aa)(x:adE):Prop:=stepW L m fid n f ro mu hold ops is k dst s K (.opt x σ)
def bK(ops:adu)(is:adH)(k:adD)(dst:ady)(s:St)(K:ada)(σ:aa)(c:adL):Prop:=stepW L m fid n f ro mu hold ops is k dst s K (.new σ c)
def uu(ops:adu)(i:Nat)(is:adH)(k:adD)(o:Oper)(s:St)(K:ada)(x:Option Bool):Prop:=
 Iv x (if pY L o=true then se (BD L mu o s.env s.σ) (λa b=>bx L m fid n ro mu hold f (.inRegion ops is::k) {s with env:=bd s.env o.dst a,σ:=b} K) (λa b=>K (.panic a) {s with σ:=b})
        else if vE o.op=true then Pa (P:=P) m o s.env s.σ (λa b=>af P m fid n ro hold (.inRegion ops is::k) {s with env:=bd s.env o.dst a,σ:=b} K) (λa b=>∀env,K (.panic a) {s with env,σ:=b})
        else af P m fid n ro hold (.inRegion ops (i::is)::k) s K) (bx L m fid n ro mu hold f (.inRegion ops is::k) {s with env:=bd s.env o.dst (.lit (.tuple #[]))} K)
def aH(a b:Code)(k:adD)(s:St)(K:ada)(x:Bool):Prop:=vC x (bx L m fid n ro mu hold f (.code a::k) s K) (bx L m fid n ro mu hold f (.code b::k) s K)
def RD(P:adS)(m:Mo)(fid n:Nat)(ro:adw)(hold:adv)(k:adD)(s:St)(K:ada):adh:=λenv σ=>af P m fid n ro hold k {s with env,σ} K
def RE(s:St)(K:ada):adm:=λv σ=>∀env,K (.panic v) {s with env,σ}
variable{L m fid n f ro mu hold}{s:St}{K:ada}{k:adD}{ops:adu}{i:Nat}{is:adH}{dst:ady}{σ:aa}
@[simp] theorem T6{env:Env}:RD P m fid n ro hold k s K env σ=af P m fid n ro hold k {s with env,σ} K:=propext aaR
@[simp] theorem T7{v:AV}:RE s K v σ=∀env,K (.panic v) {s with env,σ}:=propext aaR
@[simp] theorem T8{a:AV}:stepW L m fid n f ro mu hold ops is k dst s K (.ok a σ)=bx L m fid n ro mu hold f (.inRegion ops is::k) {s with env:=bd s.env dst a,σ:=σ} K:=propext aaR
@[simp] theorem RF{p:Prop}{x:Out}:stepW L m fid n f ro mu hold ops is k dst s K (.iK p x)=(p/\stepW L m fid n f ro mu hold ops is k dst s K x):=propext aaR
@[simp] theorem S5{c:adL}:stepW L m fid n f ro mu hold ops is k dst s K (.new σ c)=bK L m fid n f ro mu hold ops is k dst s K σ c:=propext aaR
@[simp] theorem S6{x:adE}:stepW L m fid n f ro mu hold ops is k dst s K (.opt x σ)=K5 L m fid n f ro mu hold ops is k dst s K σ x:=propext aaR
@[simp] theorem S7{a:AV}:K5 L m fid n f ro mu hold ops is k dst s K σ (some a)=bx L m fid n ro mu hold f (.inRegion ops is::k) {s with env:=bd s.env dst a,σ:=σ} K:=propext aaR
@[simp] theorem S8:K5 L m fid n f ro mu hold ops is k dst s K σ none=False:=propext aaR
@[simp] theorem Wc{c:Prop}[Decidable c]{x:adE}:K5 L m fid n f ro mu hold ops is k dst s K σ (if c then x else none)=(c/\K5 L m fid n f ro mu hold ops is k dst s K σ x):=by by_cases h:c<;>simp[h]
def bK.intro{c:adL}(h:∀b,σ b=none->bx L m fid n ro mu hold f (.inRegion ops is::k) {s with env:=bd s.env dst (.ref b 0),σ:=σ.set b (.cells c)} K):bK L m fid n f ro mu hold ops is k dst s K σ c:=h
@[simp] theorem T9{o:Oper}:uu L m fid n f ro mu hold ops i is k o s K (some true)=(if pY L o=true then stepW L m fid n f ro mu hold ops is k o.dst s K (BD L mu o s.env s.σ)
   else if vE o.op=true then Pa (P:=P) m o s.env s.σ (λa σ'=>af P m fid n ro hold (.inRegion ops is::k) {s with env:=bd s.env o.dst a,σ:=σ'} K) (λa σ'=>∀env,K (.panic a) {s with env,σ:=σ'})
   else af P m fid n ro hold (.inRegion ops (i::is)::k) s K):=by unfold uu;rw[nN,oD];rfl
@[simp] theorem S9{o:Oper}:uu L m fid n f ro mu hold ops i is k o s K (some false)=bx L m fid n ro mu hold f (.inRegion ops is::k) {s with env:=bd s.env o.dst (.lit (.tuple #[]))} K:=by unfold uu;rw[nN,mO]
def uu.intro{o:Oper}{x:Bool}(a:x=true->uu L m fid n f ro mu hold ops i is k o s K (some true))(b:x=false->uu L m fid n f ro mu hold ops i is k o s K (some false)):uu L m fid n f ro mu hold ops i is k o s K (some x):=by cases x with|true=>exact a rfl|false=>exact b rfl
@[simp] theorem RG{a b:Code}:aH L m fid n f ro mu hold a b k s K true=bx L m fid n ro mu hold f (.code a::k) s K:=by unfold aH;rw[oD]
@[simp] theorem QL{a b:Code}:aH L m fid n f ro mu hold a b k s K false=bx L m fid n ro mu hold f (.code b::k) s K:=by unfold aH;rw[mO]
@[simp] theorem Ta{a b:Code}{x:Bool}:aH L m fid n f ro mu hold a b k s K (!x)=aH L m fid n f ro mu hold b a k s K x:=by cases x<;>simp
def aH.intro{a b:Code}{x:Bool}(c:x=true->bx L m fid n ro mu hold f (.code a::k) s K)(d:x=false->bx L m fid n ro mu hold f (.code b::k) s K):aH L m fid n f ro mu hold a b k s K x:=⟨c,d⟩
@[simp] theorem Ua :bx L m fid n ro mu hold (f+1) ([]) s K=K (.leave none) s:=propext aaR
@[simp] theorem Ub :bx L m fid n ro mu hold (f+1) (.code .ret::k) s K=K (.leave (some .ret)) s:=propext aaR
@[simp] theorem Tb :bx L m fid n ro mu hold (f+1) (.code .skip::k) s K=bx L m fid n ro mu hold f k s K:=propext aaR
@[simp] theorem RH{l:Nat}:bx L m fid n ro mu hold (f+1) (.code (.label l)::k) s K=bx L m fid n ro mu hold f k s K:=propext aaR
@[simp] theorem Pd{id:Nat}:bx L m fid n ro mu hold (f+1) (.inBlock id::k) s K=bx L m fid n ro mu hold f k s K:=propext aaR
@[simp] theorem Uc{a b:Code}:bx L m fid n ro mu hold (f+1) (.code (.seq a b)::k) s K=bx L m fid n ro mu hold f (.code a::.code b::k) s K:=propext aaR
@[simp] theorem RI{id:Nat}{c:Code}:bx L m fid n ro mu hold (f+1) (.code (.block id c)::k) s K=bx L m fid n ro mu hold f (.code c::.inBlock id::k) s K:=propext aaR
@[simp] theorem RJ{c:Code}:bx L m fid n ro mu hold (f+1) (.code (.scope c)::k) s K=bx L m fid n ro mu hold f (.code c::.inScope c::k) s K:=propext aaR
@[simp] theorem Tc{id:Nat}:bx L m fid n ro mu hold (f+1) (.code (.exit id)::k) s K=(match exitTo id k with
   |some k'=>bx L m fid n ro mu hold f k' s K
   |none=>K (.leave (some (.exit id))) s):=propext aaR
@[simp] theorem Td{c:adT}{a b:Code}:bx L m fid n ro mu hold (f+1) (.code (.cond c a b)::k) s K=(Operand.ok n c=true/\(match ao s.env c with
   |.lit (.bool x)=>aH L m fid n f ro mu hold a b k s K x
   |_=>False)):=propext aaR
@[simp] theorem QM{id:Nat}:bx L m fid n ro mu hold (f+1) (.code (.region id ops false)::k) s K=bx L m fid n ro mu hold f (.inRegion ops (List.range ops.size)::k) s K:=propext aaR
@[simp] theorem Te{id:Nat}:bx L m fid n ro mu hold (f+1) (.code (.region id ops true)::k) s K=(match hold.find? λe=>e.id==id with
   |some ⟨_,p⟩=>iB L m mu ops n (RE s K) p s.env s.σ (RD P m fid n ro hold k s K)
   |none=>af P m fid n ro hold (.code (.region id ops true)::k) s K):=propext aaR
@[simp] theorem K6 :bx L m fid n ro mu hold (f+1) (.inRegion ops []::k) s K=bx L m fid n ro mu hold f k s K:=propext aaR
@[simp] theorem OU :bx L m fid n ro mu hold (f+1) (.inRegion ops (i::is)::k) s K=(match ops[i]? with
   |some o=>Oper.ok n o=true/\uu L m fid n f ro mu hold ops i is k o s K (xA ops n s.env o)
   |none=>af P m fid n ro hold (.inRegion ops (i::is)::k) s K):=propext aaR
@[simp] theorem Tf{c:Code}:bx L m fid n ro mu hold (f+1) (.code (.loop c)::k) s K=af P m fid n ro hold (.code (.loop c)::k) s K:=propext aaR
@[simp] theorem QN{c:Code}:bx L m fid n ro mu hold (f+1) (.inLoop c::k) s K=af P m fid n ro hold (.inLoop c::k) s K:=propext aaR
@[simp] theorem K7{x:adT}{a:Array Tmp}{c d:Code}:bx L m fid n ro mu hold (f+1) (.code (.rangeFunc x a c d)::k) s K=af P m fid n ro hold (.code (.rangeFunc x a c d)::k) s K:=propext aaR
@[simp] theorem KH :bx L m fid n ro mu hold (f+1) (.beginRound::k) s K=af P m fid n ro hold (.beginRound::k) s K:=propext aaR
end
section
variable{P:adS}(L:jo P)(m:Mo)(n:Nat)(mu:adH)(ops:adu)(Kp:adm)(R:adh)
def xC(lt:Bool)(σ:aa)(p:jN)(S:adH)(env:Env):Prop:=BE L mu ops n lt σ (λa=>iB L m mu ops n Kp p a σ R) .mk S env
def C6(lt:Bool)(σ:aa)(p:jN)(S:adH)(dst:ady)(env:Env)(x:adE):Prop:=zr x λa=>xC L m n mu ops Kp R lt σ p S (bd env dst a)
def OV(lt:Bool)(σ:aa)(p:jN)(S:adH)(o:Oper)(env:Env)(x:Option Bool):Prop:=Iv x (C6 L m n mu ops Kp R lt σ p S o.dst env (Fv L mu lt o env σ)) (xC L m n mu ops Kp R lt σ p S (bd env o.dst (.lit (.tuple #[]))))
def vF(p:jN)(dst:ady)(env:Env)(x:Out):Prop:=se x (λa b=>iB L m mu ops n Kp p (bd env dst a) b R) Kp
def Ud(p:jN)(dst:ady)(env:Env)(σ:aa)(x:adE):Prop:=vF L m n mu ops Kp R p dst env (.opt x σ)
def uG(p:jN)(dst:ady)(env:Env)(σ:aa)(c:adL):Prop:=vF L m n mu ops Kp R p dst env (.new σ c)
def QO(i:Nat)(p:jN)(o:Oper)(env:Env)(σ:aa)(x:Option Bool):Prop:=
 Iv x (if pY L o=true then se (BD L mu o env σ) (λa b=>iB L m mu ops n Kp p (bd env o.dst a) b R) Kp else
    if vE o.op=true then Pa (P:=P) m o env σ (λa b=>aM P m ops n Kp p (bd env o.dst a) b R) Kp else jz P m ops n Kp i env σ (λenv σ=>aM P m ops n Kp p env σ R)) (iB L m mu ops n Kp p (bd env o.dst (.lit (.tuple #[]))) σ R)
variable{L m n mu ops Kp R}{i:Nat}{lt:Bool}{env:Env}{σ:aa}{p q:jN}{S:adH}{dst:ady}
@[simp] theorem Tg:iB L m mu ops n Kp .done env σ R=R env σ:=propext aaR
@[simp] theorem Ti:iB L m mu ops n Kp (.take S lt p) env σ R=xC L m n mu ops Kp R lt σ p S env:=propext aaR
@[simp] theorem Ue:iB L m mu ops n Kp (.one i p) env σ R=(match ops[i]? with|some o=>Oper.ok n o=true/\QO L m n mu ops Kp R i p o env σ (xA ops n env o)|none=>False):=propext aaR
@[simp] theorem Tj:iB L m mu ops n Kp (.both i p q) env σ R=((match ops[i]? with|some o=>Oper.ok n o=true/\QO L m n mu ops Kp R i p o env σ (xA ops n env o)|none=>False)/\iB L m mu ops n Kp q env σ R):=propext aaR
@[simp] theorem Tl:xC L m n mu ops Kp R lt σ p [] env=iB L m mu ops n Kp p env σ R:=propext aaR
@[simp] theorem RK:xC L m n mu ops Kp R lt σ p (i::S) env=(match ops[i]? with|some o=>(Oper.ok n o && o.dst.isSome)=true/\OV L m n mu ops Kp R lt σ p S o env (xA ops n env o)|none=>False):=propext aaR
@[simp] theorem Tm{a:AV}:C6 L m n mu ops Kp R lt σ p S dst env (some a)=xC L m n mu ops Kp R lt σ p S (bd env dst a):=by unfold C6;rw[It]
@[simp] theorem Tn:C6 L m n mu ops Kp R lt σ p S dst env none=False:=by unfold C6;rw[Iu]
@[simp] theorem We{c:Prop}[Decidable c]{x:adE}:C6 L m n mu ops Kp R lt σ p S dst env (if c then x else none)=(c/\C6 L m n mu ops Kp R lt σ p S dst env x):=by by_cases h:c<;>simp[h]
@[simp] theorem Uf{o:Oper}:OV L m n mu ops Kp R lt σ p S o env (some true)=C6 L m n mu ops Kp R lt σ p S o.dst env (Fv L mu lt o env σ):=by unfold OV;rw[nN,oD]
@[simp] theorem Tp{o:Oper}:OV L m n mu ops Kp R lt σ p S o env (some false)=xC L m n mu ops Kp R lt σ p S (bd env o.dst (.lit (.tuple #[]))):=by unfold OV;rw[nN,mO]
def OV.intro{o:Oper}{x:Bool}(a:x=true->OV L m n mu ops Kp R lt σ p S o env (some true))(b:x=false->OV L m n mu ops Kp R lt σ p S o env (some false)):OV L m n mu ops Kp R lt σ p S o env (some x):=by cases x with|true=>exact a rfl|false=>exact b rfl
@[simp] theorem Ug{a:AV}:vF L m n mu ops Kp R p dst env (.ok a σ)=iB L m mu ops n Kp p (bd env dst a) σ R:=propext aaR
@[simp] theorem RL{c:Prop}{x:Out}:vF L m n mu ops Kp R p dst env (.iK c x)=(c/\vF L m n mu ops Kp R p dst env x):=propext aaR
@[simp] theorem Tq{c:adL}:vF L m n mu ops Kp R p dst env (.new σ c)=uG L m n mu ops Kp R p dst env σ c:=propext aaR
@[simp] theorem Tr{x:adE}:vF L m n mu ops Kp R p dst env (.opt x σ)=Ud L m n mu ops Kp R p dst env σ x:=propext aaR
@[simp] theorem Ts{a:AV}:Ud L m n mu ops Kp R p dst env σ (some a)=iB L m mu ops n Kp p (bd env dst a) σ R:=propext aaR
def uG.intro{c:adL}(h:∀b,σ b=none->iB L m mu ops n Kp p (bd env dst (.ref b 0)) (σ.set b (.cells c)) R):uG L m n mu ops Kp R p dst env σ c:=h
@[simp] theorem Uh{o:Oper}:QO L m n mu ops Kp R i p o env σ (some true)=(if pY L o=true then vF L m n mu ops Kp R p o.dst env (BD L mu o env σ)else
   if vE o.op=true then Pa (P:=P) m o env σ (λa σ'=>aM P m ops n Kp p (bd env o.dst a) σ' R) Kp else jz P m ops n Kp i env σ (λenv σ=>aM P m ops n Kp p env σ R)):=by unfold QO;rw[nN,oD];rfl
@[simp] theorem Tt{o:Oper}:QO L m n mu ops Kp R i p o env σ (some false)=iB L m mu ops n Kp p (bd env o.dst (.lit (.tuple #[]))) σ R:=by unfold QO;rw[nN,mO]
end
@[simp] theorem RN{l c:adL}(h:c.length=l.length):aK l 0 c=c:=by unfold aK;simp[h]
@[simp high] theorem Fx{l:adL}{off:Nat}{v:AV}(h:off<l.length):aK l off [v]=l.set off v:=by unfold aK;rw[List.set_eq_take_append_cons_drop,aaB h];simp
attribute [simp] Fv wo kT xv BD pY xA vE Pa O9 Fu Function.comp_def
def oE(P:adS)(t:TypeId)(name:String)(f:FuncId)(a a':AV):Prop:=∀k O v (K:FuncId × Value->adp) Kp,V k v a->(∀r,V k r a'->K (f,r) k O)->dK P (method (P.types.size+Made.depth) t v name) k O K Kp
section
variable{P:adS}{m:Mo}{fid n:Nat}{ro:adw}{hold:adv}{s:St}{K:ada}{k:adD}
def rK{name:String}{recv:Value}{c a:adq}:Go.invoke (.fn (.method name) c) (#[recv]++a)=callMethod recv name a:=by
 have b:(#[recv]++a)[0]?=some recv:=by grind
 have d:(#[recv]++a).extract 1 (#[recv]++a).size=a:=by simp_all
 simp only[Go.invoke,b,d]
def af.invoke{ops:adu}{i:Nat}{is:adH}{o:Oper}{recv:adT}{name:String}{args:adi}{B:ado}{t f:Nat}{a a':AV}{fn:Func}(N:ops[i]?=some o)(C:o.op=.call ⟨.invoke recv name,args,B⟩)(hg:o.guard=none)(D:Oper.ok n o=true)
 (W:ao s.env recv=.lM t a) (X:oE P t name f a a') (Y:P.funcs[f]?=some fn) (hb:fn.body.isSome=true) (E:(fn.name==  "runtime.NumGoroutine")=false)
 (h:aA P m f (a'::args.toList.map (ao s.env)) s.σ (λr σ'=>match r with|.val x=>af P m fid n ro hold (.inRegion ops is::k) {s with env:=bd s.env o.dst x,σ:=σ'} K|.panic v=>K (.panic v) {s with σ:=σ'})):
 af P m fid n ro hold (.inRegion ops (i::is)::k) s K:=λF Q kk O tmps defs kind cs Z d R=>by
 have hw:bV ops n s.env o:=by unfold bV;simp_all
 refine T.oz (λw=>dT N (ij d.size d.env hw) (.inr λc e=>by simp_all) w) (dP ?_)
 have g:∀x∈o.op.operands,V kk (Frame.eval ⟨fid,tmps,.inRegion ops (i::is)::k,defs,.run,kind,ro⟩ x) (ao s.env x):=λx S=>by
  refine V.eval d.env d.size x ?_;simp only[Oper.ok,zj,aaK]at D
  grind
 have y:=g recv (by simp_all)
 rw[W]at y;have l:=Vs.ofArray (k:=kk) (ρ:=Frame.eval ⟨fid,tmps,.inRegion ops (i::is)::k,defs,.run,kind,ro⟩) (env:=s.env) (xs:=args) (λx S=>g x (by simp_all))
 generalize hq:Frame.eval _ recv=cf at y;cases y with
 | lM _ v _ H=>
   simp only[execOp,C,resolve,hq];refine ag (ah ?_);rw[rK];unfold callMethod;simp only;refine ag (bo ?_);refine ag (X kk O v _ _ H λr I=>?_)
   simp only[callFunc];refine ag (bo ?_);rw[Y];have J:fn.body.isNone=false:=by cases S:fn.body<;>simp_all
   simp only[E,J,LK,Rp];refine ah λ_=>⟨by simp,?_⟩
   have e:#[r]++args.map (Frame.eval ⟨fid,tmps,.inRegion ops (i::is)::k,defs,.run,kind,ro⟩)=(r::(args.map (Frame.eval ⟨fid,tmps,.inRegion ops (i::is)::k,defs,.run,kind,ro⟩)).toList).toArray:=by simp
   rw[e];refine h Q kk O _ ⟨fid,tmps,.inRegion ops (i::is)::k,defs,.run,kind,ro⟩ (fU s.rc cs) .normal (by simp) (.cons I ⟨by grind,λj v a y ha=>l.2 j v a (by grind) ha⟩) d.rel ?_ ?_
   . intro z A L U σ' b p q M
     obtain⟨u,e1,e2⟩:=d.put (fid:=fid) (ro:=ro) (rest:=is) (kk:=k) b N p q;show T P m Q z A (G (Frame.finish ⟨fid,tmps,.inRegion ops (i::is)::k,defs,.run,kind,ro⟩ L) (fU s.rc cs));rw[e1];exact M (by simpa[jS,lg]using F) Q z A u defs kind cs Z e2 (R.mono b)
   . intro z A L U σ' b p q M
     exact R.panic z A tmps defs {s with σ:=σ'} _ L U b ⟨d.size,d.env.mono b,q,d.ds.mono b,d.rc.mono b⟩ p M
def bW{ops:adu}{env:Env}{o:Oper}(a:o.guard=none):bV ops n env o:=by unfold bV;simp_all
def af.defer{ops:adu}{i:Nat}{is:adH}{o:Oper}{fo:adT}{args:adi}{a:ado}{f:Fn}{first cap:adL}(b:ro=none)(j:ops[i]?=some o)(c:o.op=.defer ⟨.value fo,args,a⟩)(l:o.guard=none)(d:Oper.ok n o=true)
 (e:ao s.env fo=.fn f first cap) (h:af P m fid n ro hold (.inRegion ops is::k) {s with env:=bd s.env o.dst .cD,D:=.call f cap (first++args.toList.map (ao s.env))::s.D} K):af P m fid n ro hold (.inRegion ops (i::is)::k) s K:=
 λg=>Go.defer b j c (bW l) d e (h (by simpa[jS,lg]using g))
end
def Hi(F a:adC)(σ σ':aa):Prop:=∀b x,¬F b->σ b=some x->σ' b=some x/\¬a b
def bp:AV->adw
 |.sl _ _ (.tok b _)=>some b
 |_=>none
def aa.off(σ:aa)(a:AV):aa:=match bp a with|some b=>σ.del b|none=>σ
def Tok.here{σ0 σ:aa}{a:AV}{kk:Nat}{es:adL}(h:Tok σ0 σ a kk es):Tok (σ.off a) σ a kk es/\σ0.Le (σ.off a):=by
 obtain⟨d,g⟩:=h;rcases g with⟨rfl,rfl⟩|rfl|⟨b,e,k,rfl,i⟩
 . exact⟨⟨aa.le_refl _,.inl ⟨rfl,rfl⟩⟩,d⟩
 . exact⟨⟨aa.le_refl _,.inr (.inl rfl)⟩,d⟩
 . refine⟨⟨λc x f=>?_,.inr (.inr ⟨b,e,by simp[aa.off,bp,aa.del],rfl,i⟩)⟩,λc x f=>?_⟩
   . simp only[aa.off,bp,aa.del]at f
     simp_all
   . have j:c≠b:=λe=>by simp_all
     simp only[aa.off,bp,aa.del,j,Rp];exact d c x f
def Tok.base{σ0 c σ:aa}{a:AV}{kk:Nat}{es:adL}(h:Tok c σ a kk es)(d:σ0.Le c):Tok σ0 σ a kk es:=by
 obtain⟨f,g⟩:=h;refine⟨aa.le_trans d f,?_⟩;rcases g with h|h|⟨b,e,k,i,j⟩
 . exact .inl h
 . simp_all
 . refine .inr (.inr ⟨b,e,?_,i,j⟩)
   cases hb:σ0 b with
   |none=>rfl
   |some x=>have:=d b x hb;simp_all
def Tok.beside{σ0 σ:aa}{a:AV}{kk:Nat}{es:adL}(h:Tok σ0 σ a kk es){b:Nat}{x:gn}(hb:σ0 b=none)(ht:bp a≠some b):Tok σ0 (σ.set b x) a kk es:=by
 obtain⟨d,f⟩:=h;refine⟨aa.fC d hb,?_⟩;rcases f with h|h|⟨c,e,g,rfl,i⟩
 . exact .inl h
 . simp_all
 . refine .inr (.inr ⟨c,e,g,rfl,?_⟩)
   have j:c≠b:=λe=>ht (by simp[bp,e])
   rw[aa.ai _ _ j];exact i
def Tok.aY{σ0 σ:aa}{a:AV}{kk:Nat}{es:adL}(h:Tok σ0 σ a kk es){b:Nat}(hb:bp a=some b):σ0 b=none/\∃e,σ b=some (.tail e):=by
 obtain⟨f,d⟩:=h;rcases d with⟨rfl,rfl⟩|rfl|⟨c,e,g,rfl,i⟩
 . cases hb
 . cases hb
 . simp only[bp,kn]at hb
   simp_all
def Tok.cells{σ0 σ:aa}{a:AV}{kk:Nat}{es:adL}(h:Tok σ0 σ a kk es):a.cells=[a]/\a.flat=true:=by
 obtain⟨_,b⟩:=h;rcases b with⟨rfl,rfl⟩|rfl|⟨c,e,d,rfl,f⟩<;>exact⟨rfl,rfl⟩
def aa.dQ{σ:aa}{a:AV}{b:Nat}(h:bp a≠some b):σ.off a b=σ b:=by
 unfold aa.off;cases d:bp a with
 |none=>rfl
 | some c=>
   have:b≠c:=λe=>h (by rw[d,e])
   simp[aa.del,this]
def aa.RO{σ:aa}{a:AV}{b:Nat}{x:gn}(h:σ.off a b=some x):σ b=some x:=by
 unfold aa.off at h;cases d:bp a with
 |none=>simp_all
 | some c=>
   rw[d]at h;simp only[aa.del]at h
   simp_all
def eU:AV->adw
 |.ib b _ _ _=>some b
 |_=>none
def aa.BF(σ:aa)(a:AV):aa:=match eU a with|some b=>σ.del b|none=>σ
def aa.qS{σ:aa}{a:AV}{b:Nat}(h:eU a≠some b):σ.BF a b=σ b:=by
 unfold aa.BF;cases d:eU a with
 |none=>rfl
 | some c=>
   have:b≠c:=λe=>h (by rw[d,e])
   simp[aa.del,this]
def aa.Pe{σ:aa}{a:AV}:(σ.BF a).Le σ:=λb x h=>by
 unfold aa.BF at h;cases d:eU a with
 |none=>rw[d]at h;exact h
 | some c=>
   rw[d]at h;simp only[aa.del]at h;split at h
   . cases h
   . exact h
def cJ.cells{σ0 σ:aa}{a:AV}{kk:Nat}{es:adL}(h:cJ σ0 σ a kk es):a.cells=[a]/\a.flat=true:=by
 obtain⟨_,b⟩:=h;rcases b with⟨_,rfl|rfl⟩|⟨c,cap,rest,rfl,_⟩<;>exact⟨rfl,rfl⟩
def cJ.lS{σ0 σ:aa}{a:AV}{kk:Nat}{es:adL}(h:cJ σ0 σ a kk es){b:Nat}(hb:eU a=some b):σ0 b=none/\∃l,σ b=some (.cells l):=by
 obtain⟨g,d⟩:=h;rcases d with⟨_,rfl|rfl⟩|⟨c,cap,rest,rfl,e,_,_,f,_⟩
 . cases hb
 . cases hb
 . simp only[eU,kn]at hb
   subst hb;exact⟨e,_,f⟩
def cJ.here{σ0 σ:aa}{a:AV}{kk:Nat}{es:adL}(h:cJ σ0 σ a kk es):cJ (σ.BF a) σ a kk es/\σ0.Le (σ.BF a):=by
 obtain⟨d,e⟩:=h;refine⟨⟨aa.Pe,?_⟩,λc x f=>?_⟩
 . rcases e with h|⟨b,cap,rest,rfl,m,i,j,k,l⟩
   . exact .inl h
   . exact .inr ⟨b,cap,rest,rfl,by simp[aa.BF,eU,aa.del],i,j,k,l⟩
 . by_cases g:eU a=some c
   . have:=(cJ.lS ⟨d,e⟩ g).1
     rw[f]at this;cases this
   . rw[aa.qS g];exact d c x f
def cJ.base{σ0 c σ:aa}{a:AV}{kk:Nat}{es:adL}(h:cJ c σ a kk es)(d:σ0.Le c):cJ σ0 σ a kk es:=by
 obtain⟨e,f⟩:=h;refine⟨aa.le_trans d e,?_⟩;rcases f with h|⟨b,cap,rest,rfl,g,i,j,k,l⟩
 . exact .inl h
 . refine .inr ⟨b,cap,rest,rfl,?_,i,j,k,l⟩
   cases hb:σ0 b with
   |none=>rfl
   |some x=>have:=d b x hb;rw[g]at this;cases this
def cJ.keep{σ0 σ d σ':aa}{a:AV}{kk:Nat}{es:adL}(h:cJ σ0 σ a kk es)(e:d.Le σ')(hb:∀b,eU a=some b->σ' b=σ b/\d b=none):cJ d σ' a kk es:=by
 obtain⟨l,f⟩:=h;refine⟨e,?_⟩;rcases f with h|⟨c,cap,rest,rfl,m,g,i,j,k⟩
 . exact .inl h
 . exact .inr ⟨c,cap,rest,rfl,(hb c rfl).2,g,i,by rw[(hb c rfl).1];exact j,k⟩
inductive Wl:adL->adL->Prop
 |nil:Wl [] []
 |cons {a a':AV}{l l':adL}:a.W a'->Wl l l'->Wl (a::l) (a'::l')
def Wl.refl:∀(l:adL),Wl l l
 |[]=>.nil
 |a::l=>.cons (.refl a) (Wl.refl l)
def Wl.len{l a:adL}(h:Wl l a):l.length=a.length:=by
 induction h with
 |nil=>rfl
 |cons _ _ b=>simp[b]
def Wl.at{l c:adL}(h:Wl l c):∀{i:Nat}{a':AV},c[i]?=some a'->∃a,l[i]?=some a/\a.W a':=by
 induction h with
 |nil=>simp_all
 |@cons a b l c d e f=>grind
def Vs.xD{k:aj}{c:adx}{l e:adL}(h:Vs k c l)(f:Wl l e):Vs k c e:=⟨by rw[h.1,f.len],λi v a g ha=>by obtain⟨b,hb,d⟩:=f.at ha;exact d k v (h.2 i v b g hb)⟩
def aA.xD{P:adS}{m:Mo}{f:FuncId}{args args':adL}{σ:aa}{b:adl}(h:aA P m f args' σ b)(d:Wl args args'):aA P m f args σ b:=λQ k O a c rest kind e g i j l=>h Q k O a c rest kind e (g.xD d) i j l
def bP{P:adS}{m:Mo}{f:FuncId}{fn:Func}{args args':adL}{σ:aa}{b:adl}(c:P.funcs[f]?=some fn)(hb:fn.body.isSome=true)(a:(fn.name==  "runtime.NumGoroutine")=false)(d:Wl args args')(h:aA P m f args' σ b):
 bI P m (.fn (.func f) [] []) args σ b:=ar c hb a (h.xD d)
def aj.K8(k:aj)(r:Nat)(c:adq)(f:Nat->adn):aj:={k with cell:=λb j=>if b=r/\f j=none then c[j]? else k.cell b j}
def Fy{k:aj}{O:ak}{r:Nat}{c:adq}{e:TypeId}{f:Nat->adn}(p:O r=some (.obj (.cells c e (0,0))))(B:k.sh r=some (e,c.size))(C:∀i v,f i=some v->c[i]?=some v):kS k O (k.K8 r c f) (O.set r (.part f)):=λw h=>by
 have y:=h.obj _ _ p
 have D:∀j,k.cell r j=none:=λj=>by
  cases q:k.cell r j with
  |none=>rfl
  |some v=>exact(h.apart _ _ _ q (.inl ⟨_,p⟩)).elim
 have t:k.Le (k.K8 r c f):=⟨λb i v l=>by
  have:¬(b=r/\f i=none):=λx=>by simp_all
  simpa[aj.K8,this]using l,λ_ _ h=>h⟩
 have n:∀b,b≠r->(O.set r (.part f)) b=O b:=λb hb=>by simp[ak.set,hb]
 have d:(O.set r (.part f)) r=some (.part f):=by simp[ak.set]
 refine⟨⟨λb i v l z=>?_,λb i v l=>?_,h.sh,λb o hb=>?_,λb m hb=>?_,λb g hb=>?_⟩,⟨t,aaE _,λ_ _ _=>rfl,λ_ _ _ _ c _ h=>⟨c,h,rfl,λ_ _=>rfl⟩,λ_ _ _ _ c _ h=>⟨c,h,rfl,λ_ _=>rfl⟩,λ_ _=>rfl,λb x A=>?_,λb i v l=>?_,λ_ _ h=>.inl h,by simp,rfl,rfl,rfl,by simp,λb g hb=>?_⟩⟩
 . by_cases hb:b=r
   . subst hb
     rcases z with⟨o,s⟩|⟨m,s,E⟩|⟨g,s,E⟩
     . simp_all
     . simp_all
     . rw[d]at s;cases s
       simp only[aj.K8,true_and]at l
       simp_all
   . have u:k.cell b i=some v:=by simpa[aj.K8,hb]using l
     exact h.apart b i v u (by simpa[aV,ak.set,hb]using z)
 . by_cases hb:b=r/\f i=none
   . obtain⟨rfl,F⟩:=hb
     simp only[aj.K8,F,and_self,aaA]at l;simp[World.cell?,y,l]
   . exact h.cell b i v (by simpa only[aj.K8,hb,Rp]using l)
 . by_cases a:b=r
   . simp_all
   . exact h.obj b o (by simp_all)
 . by_cases a:b=r
   . simp_all
   . exact h.tail b m (by simp_all)
 . by_cases a:b=r
   . subst a;rw[d]at hb;cases hb
     exact⟨c,e,y,B,C⟩
   . exact h.part b g (by simp_all)
 . by_cases a:b=r
   . subst a;exact .inl ⟨_,p,trivial⟩
   . rw[n b a]at A;exact .inl ⟨x,A,.refl x⟩
 . by_cases hb:b=r/\f i=none
   . obtain⟨rfl,_⟩:=hb;exact .inr (.inl (.inl ⟨_,p⟩))
   . exact .inl (by simpa only[aj.K8,hb,Rp]using l)
 grind
section
variable{P:adS}{m:Mo}{Q:acP}{k:aj}{O:ak}{g:adF}{σ:aa}
def T.part{r:Nat}{c:adq}{e:TypeId}{f:Nat->adn}(d:O r=some (.obj (.cells c e (0,0))))(p:∀i v,f i=some v->c[i]?=some v)(b:g.status=.running)
 (h:∀k' O',k.Le k'->k'.sh r=some (e,c.size)->(∀j v,f j=none->c[j]?=some v->k'.cell r j=some v)->O'=O.set r (.part f)->T P m Q k' O' g):T P m Q k O g:=by
 by_cases a:∃w,Sat k O w
 . obtain⟨w,l⟩:=a
   have q:=(km (k:=k) d w l).2.le;have o:=Fy (k:=k.eH r (e,c.size)) (f:=f) d (by simp[aj.eH]) p;have n:(k.eH r (e,c.size)).Le ((k.eH r (e,c.size)).K8 r c f):=(o w (km (k:=k) d w l).1).2.le;exact .ghost (km d) (.ghost o (h _ _ (q.trans n) (by simp[aj.K8,aj.eH]) (λj v s t=>by simp[aj.K8,s,t]) rfl))
 . exact .step (λ_ _ _=>False) b (λ_ _ _ h=>h.elim) λw l=>absurd ⟨w,l⟩ a
def T.QP{b:Nat}{l:adL}{hole:adH}{f:Nat->adn}(r:Rel k O σ)(hb:σ b=some (.cells l))(w:∀i v,f i=some v->l[i]?=some (.lit v))(E:∀i,f i=none↔i∉hole)(o:g.status=.running)
 (h:∀k' O',k.Le k'->(∀off,V k' (.pointer (some ⟨b,off,none⟩)) (.kp b l hole off))->Rel k' O' (σ.set b (.part f))->T P m Q k' O' g):T P m Q k O g:=by
 obtain⟨y,x,z⟩:=r.1 b _ hb (by simp);cases z with
 | cells c e _ F s A=>
   refine T.part (f:=f) x (λi v B=>?_) o λk' O' n p G q=>?_
   . have C:=w i v B
     have d:i<c.size:=by grind
     have t:=s i c[i] _ (by simp[d]) C;have:c[i]=v:=by generalize c[i]=u at t;cases t;rfl
     grind
   . refine h k' O' n (λoff=>.kp b off c.size e l hole (λj=>c.getD j undef) p (by omega) (λj H D=>?_) (λj a D ha=>?_)) ?_
     . have d:j<c.size:=by omega
       refine⟨?_,?_⟩
       . simp_all
       . simp only[Array.getD,d,dif_pos]
         exact A j _ (by simp[d])
     . have d:j<c.size:=by grind
       simp only[Array.getD,d,dif_pos];exact(s j _ a (by simp[d]) ha).mono n
     . rw[q]
       exact(r.mono n).set (.part f)
def aA.share{f:FuncId}{args:adL}{j KF0:adl}(h:aA P m f args σ KF0)
 (u:∀r σ',KF0 r σ'->j r σ'\/∃b l hole F,r=.val (.ref b 0)/\σ' b=some (.cells l)/\(∀i v,F i=some v->l[i]?=some (.lit v))/\(∀i,F i=none↔i∉hole)/\j (.val (.kp b l hole 0)) (σ'.set b (.part F))):aA P m f args σ j:=by
 intro Q k O a c rest kind w x y z H;refine h Q k O a c rest kind w x y (λA B C D σ' d s t n=>?_) (λA B C D σ' d s t n=>?_)
 . rcases u _ _ n with n|⟨b,l,hole,F,e,hb,E,G,o⟩
   . grind
   . cases e
     cases s;exact T.QP t hb E G (by cases kind<;>rfl) λI J g p q=>z _ _ _ _ _ (d.trans g) (p 0) q o
 grind
end
structure Iw(P:adS)(mt kt et:Nat){κ:Type}[BEq κ](ka:κ->AV)(kv:κ->Value):Prop where
 hm:P.underlying mt=some (.map kt et)
 hk:∃fs,P.underlying kt=some (.struct fs)
 val:∀{k:aj}{v:Value}{n:κ},V k v (ka n)->v=kv n
 C7:∀{k:aj}{O:ak}{Kp:acR}{b:Bool}{n:κ}{K:acU},K () k O->dK P (Instr.checkKey b 10000 kt (kv n)) k O K Kp
 eq:∀{k:aj}{O:ak}{Kp:acR}{a b:κ}{K:acT},K (a==b) k O->dK P (Op.equal kt (kv a) (kv b)) k O K Kp
section
variable{κ:Type}[BEq κ]{ka:κ->AV}{kv:κ->Value}
def ns(ka:κ->AV)(l:List (κ × AV)):gn:=.map (l.map λp=>(ka p.1,p.2))
def du(l:List (κ × AV))(n:κ):adE:=(l.find? λp=>n==p.1).map (·.2)
variable{P:adS}(L:jo P){k:aj}{O:ak}{Kp:acR}{mt kt et:Nat}
def cC{K:TypeDesc->adp}{t:Nat}{d:TypeDesc}(a:P.underlying t=some d)(h:K d k O):dK P (underlying t) k O K Kp:=by unfold underlying;refine ag (bo ?_);rw[a];exact h
def pz(M:Iw P mt kt et ka kv){n:κ}{K:Option (Nat × Value)->adp}:∀(es:List MapEntry) (l:List (κ × AV)) (j:Nat),es.length=l.length->(∀(j:Nat) e p,es[j]?=some e->l[j]?=some p->V k e.key (ka p.1)/\V k e.val p.2) ->
 (∀a v j,du l n=some a->V k v a->K (some (j,v)) k O)->(du l n=none->K none k O)->dK P (Instr.findAsking kt (kv n) es j) k O K Kp
 |[],[],j,_,_,_,h=>by rw[Instr.findAsking];exact ah (h rfl)
 | e ::es,p::l,j,o,d,b,f=>by
   obtain⟨g,i⟩:=d 0 e p rfl rfl;rw[Instr.findAsking,M.val g];refine ag (M.eq ?_);cases c:(n==p.1)with
   |true=>simp only[aaA];exact ah (b p.2 _ _ (by simp[du,c]) i)
   | false=>
     simp only[LK,Rp];have m:du (p::l) n=du l n:=by simp[du,c]
     rw[m]at b f;exact pz M es l (j+1) (by simp_all) (λj e p q c=>d (j+1) e p (by simp_all) (by simp_all)) b f
 |[],_::_,_,h,_,_,_=>by simp at h
 |_::_,[],_,h,_,_,_=>by simp at h
def sZ(M:Iw P mt kt et ka kv){n:κ}{K:Option (Nat × Value)->adp}{es:List MapEntry}{l:List (κ × AV)}(b:es.length=l.length)(d:∀(j:Nat) e p,es[j]?=some e->l[j]?=some p->V k e.key (ka p.1)/\V k e.val p.2)
 (f:∀a v j,du l n=some a->V k v a->K (some (j,v)) k O) (c:du l n=none->K none k O):dK P (Instr.findKey kt (kv n) es) k O K Kp:=by
 obtain⟨fs,g⟩:=M.hk;unfold Instr.findKey;refine ag (cC g ?_);cases es with
 | nil=>
   cases l with
   |nil=>exact ah (c rfl)
   |cons p l=>simp at b
 | cons e es=>
   have:Instr.findNow (.struct fs) (kv n) (e::es) 0=none:=by simp[Instr.findNow,Instr.sameNow]
   rw[this];exact pz M _ l 0 b d f c
omit [BEq κ] in
def Hj{σ:aa}(c:Rel k O σ){b:Nat}{l:List (κ × AV)}(hb:σ b=some (ns ka l)):∃es clock,O b=some (.obj (.map es clock))/\es.toList.length=l.length/\∀(j:Nat) e p,es.toList[j]?=some e->l[j]?=some p->V k e.key (ka p.1)/\V k e.val p.2:=by
 obtain⟨x,d,a⟩:=c.1 b _ hb (by simp[ns]);unfold ns at a;cases a with
 | map es clock m f g=>
   refine⟨es,clock,d,by simpa using f,λj e p h i=>?_⟩;exact g j e (ka p.1,p.2) (by simpa using h) (by simp[i])
variable{o:Oper}{env:Env}{σ:aa}{K Kq:adm}
def xE(M:Iw P mt kt et ka kv){p:TI}{x m:adT}{b:Nat}{l:List (κ × AV)}{n:κ}{two:Bool}(y:o.op=.lookup mt x m two)(q:L.tt et=some p)(z:ao env x=.map b)(hi:ao env m=ka n)(hb:σ b=some (ns ka l))
 (e:K (if two then .ck [(du l n).getD (lN p.zero),.lit (.bool (du l n).isSome)]else(du l n).getD (lN p.zero)) σ):aJ P o env σ K Kq:=
 aJ.val (s:=λf=>Instr.lookup mt (f x) (f m) two) (λf=>by simp[execOp,y]) λk O f g h=>by
  have r:=g x (by simp_all);have w:=g m (by simp_all);rw[z]at r;rw[hi]at w;rw[M.val w];generalize f x=F at r;cases r;obtain⟨es,clock,A,B,C⟩:=Hj h hb;unfold Instr.lookup;refine ag (cC M.hm ?_);simp only;refine ag (s:=getObj b) ⟨_,A,rfl,ah ?_⟩;refine ag (ah ?_);refine ag (M.C7 ?_);refine ag (sZ M B C (λa v j t D=>?_) (λt=>?_))
  . simp only
    refine ag (ah ?_);rw[t]at e;cases two with
    |false=>exact ah (.here ⟨.refl k,_,σ,D,h,e⟩)
    |true=>
    refine ah (.here ⟨.refl k,_,σ,.ck _ _ rfl (λi u E d c=>?_),h,e⟩)
    match i with
    |0=>simp_all
    |1=>simp at d c;subst d;subst c;exact .lit _
    |i+2=>simp at c
  . simp only
    refine ag (cT L q ?_);refine ag (ah ?_);rw[t]at e;cases two with
    |false=>exact ah (.here ⟨.refl k,_,σ,.lN k _,h,e⟩)
    |true=>
    refine ah (.here ⟨.refl k,_,σ,.ck _ _ rfl (λi u E d c=>?_),h,e⟩)
    match i with
    |0=>simp at d c;subst d;subst c;exact .lN k _
    |1=>simp at d c;subst d;subst c;exact .lit _
    |i+2=>simp at c
def rL(M:Iw P mt kt et ka kv){x f y:adT}{b:Nat}{l:List (κ × AV)}{n:κ}{a:AV}(r:o.op=.mapUpdate mt x f y)(t:ao env x=.map b)(hi:ao env f=ka n)(u:ao env y=a)(hb:σ b=some (ns ka l))(F:du l n=none)
 (w:K (.lit undef) (σ.set b (ns ka (l++[(n,a)])))):aJ P o env σ K Kq:=λk O d c m=>by
 have g:=c x (by simp_all);have h:=c f (by simp_all);have z:=c y (by simp_all);rw[t]at g;rw[hi]at h;rw[u]at z;have A:execOp d o=(do Instr.mapUpdate mt (d x) (d f) (d y);pure .skip):=by simp[execOp,r]
 rw[A];have i:=h;rw[M.val h]at i ⊢;generalize d x=G at g;cases g;obtain⟨es,clock,q,B,C⟩:=Hj m hb;unfold Instr.mapUpdate;refine ag (ag (cC M.hm ?_));simp only;refine ag (s:=getObj b) ⟨_,q,rfl,ah ?_⟩;simp only;refine ag (M.C7 ?_);refine ag (sZ M B C (λa v j H I=>by simp_all) (λ_=>?_));simp only;refine⟨⟨_,q,rfl⟩,rfl,ah ?_⟩;refine⟨undef,.inr ⟨rfl,rfl⟩,.here ⟨.refl k,.lit undef,_,.lit _,m.set (.map _ _ _ ?_ (λj e p D E=>?_)),w⟩⟩
 . simp_all
 . rw[Array.getElem?_push]at D
   rw[aaN]at E
   grind
omit [BEq κ] in
def vG{mt:Nat}(ka:κ->AV)(f:o.op=.makeMap mt none)(g:∀b,σ b=none->K (.map b) (σ.set b (ns ka []))):aJ P o env σ K Kq:=
 aJ.val (s:=λc=>Instr.makeMap mt none) (λc=>by simp[execOp,f]) λk O c h d=>by
  unfold Instr.makeMap;simp only;refine ag (s:=newObj _) ⟨rfl,λr a=>ah ?_⟩;exact .here ⟨.made a.2.2,_,_,.map r,(d.mono (.made a.2.2)).set (.map _ _ _ rfl λj e p i=>by simp at i),g r (d.isNone a.1 a.2.2)⟩
end
structure K9(P:adS)(mt kt et ft:Nat)(kd:IntKind):Prop where
 hm:P.underlying mt=some (.map kt et)
 hk:∃f,P.underlying kt=some (.struct #[f])/\(f.name≠ "_")/\f.type=ft/\f.offset=0
 hf:P.underlying ft=some (.int kd)
 hs:P.stoodInHeld kt=false
structure C8(P:adS)(mt kt et ft:Nat)(kd:IntKind):Prop where
 hm:P.underlying mt=some (.map kt et)
 hk:∃f g,P.underlying kt=some (.struct #[f,g])/\(f.name≠ "_"/\g.name≠ "_")/\(f.type=ft/\g.type=ft)/\f.offset=0/\g.offset=1
 hf:P.underlying ft=some (.int kd)
 hs:P.stoodInHeld kt=false
def Ix(kd:IntKind)(n:Int):AV:=.agg [.lit (.int kd n)]
def p9(kd:IntKind)(p:Int × Int):AV:=.agg [.lit (.int kd p.1),.lit (.int kd p.2)]
abbrev mapA(kd:IntKind)(l:acY):gn:=ns (Ix kd) l
abbrev Hk(l:acY)(n:Int):adE:=du l n
section
variable{P:adS}(L:jo P){k:aj}{O:ak}{Kp:acR}{mt kt et ft:Nat}{kd:IntKind}
def ik{K:acR}{i:TI}{v:Value}{c:adq}{o:Nat}(ht:L.tt ft=some i)(ha:i.agg=false)(a:c[o]?=some v)(h:K v k O):dK P (part ft c o) k O K Kp:=by unfold part;refine ag (qN L ht ?_);rw[ha,a];exact ah h
def V.Ix{k:aj}{v:Value}{kd:IntKind}{n:Int}(h:V k v (Ix kd n)):v=.agg #[.int kd n]:=by
 cases h with
 | agg c l a b=>
   obtain⟨c⟩:=c
   match c,a with
   |[x],_=>have:=b 0 x (.lit (.int kd n)) rfl rfl;cases this;rfl
def V.p9{k:aj}{v:Value}{kd:IntKind}{n:Int × Int}(h:V k v (p9 kd n)):v=.agg #[.int kd n.1,.int kd n.2]:=by
 cases h with
 | agg c l b a=>
   obtain⟨c⟩:=c
   match c,b with
   |[x,y],_=>have d:=a 0 x (.lit (.int kd n.1)) rfl rfl;have e:=a 1 y (.lit (.int kd n.2)) rfl rfl;cases d;cases e;rfl
variable{i:TI}(ht:L.tt ft=some i)(ha:i.agg=false)
include ht ha
def K9.key(M:K9 P mt kt et ft kd):Iw P mt kt et (cG.Ix kd) (λn=>.agg #[.int kd n]) where
 hm:=M.hm
 hk:=let ⟨f,h,_⟩:=M.hk;⟨_,h⟩
 val:=V.Ix
 C7 {k O Kp b n K} h:=by obtain⟨f,d,e,g,i⟩:=M.hk;show dK P (Instr.checkKey b (9998+1+1) kt (.agg #[.int kd n])) k O K Kp;rw[Instr.checkKey];refine ag (cC d ?_);simp only[abY,abV,aci];rw[aaB e,g,i];refine ag (ag (ag (ik L ht ha rfl ?_)));rw[Instr.checkKey];refine ag (ag (cC M.hf ?_));exact ah (ah (ah (ah h)))
 eq {k O Kp a b K} h:=by
  obtain⟨f,d,e,g,i⟩:=M.hk;show dK P (Op.equalIn (9998+1+1) kt (.agg #[.int kd a]) (.agg #[.int kd b])) k O K Kp;rw[Op.equalIn];refine ag (cC d ?_);refine ag (bo ?_);rw[M.hs];simp only[LK,Rp,abY,abV,aci];rw[aaB e,g,i];refine ag (ag (ag (ik L ht ha (v:=.int kd a) rfl ?_)));refine ag (ik L ht ha (v:=.int kd b) rfl ?_);refine ag ?_;rw[Op.equalIn];refine ag (cC M.hf ?_);simp only[aaA];refine ah ?_;cases c:(a==b)with
  |true=>rw[c]at h;exact ah (ah (ah h))
  |false=>rw[c]at h;exact ah (ah (ah h))
def C8.key(M:C8 P mt kt et ft kd):Iw P mt kt et (cG.p9 kd) (λn=>.agg #[.int kd n.1,.int kd n.2]) where
 hm:=M.hm
 hk:=let ⟨f,g,h,_⟩:=M.hk;⟨_,h⟩
 val:=V.p9
 C7 {k O Kp b n K} h:=by
  obtain⟨f,g,m,⟨o,c⟩,⟨p,d⟩,q,i⟩:=M.hk;show dK P (Instr.checkKey b (9998+1+1) kt (.agg #[.int kd n.1,.int kd n.2])) k O K Kp;rw[Instr.checkKey];refine ag (cC m ?_);simp only[abY,abV,aci];rw[aaB o,aaB c,p,q,d,i];refine ag (ag (ag (ik L ht ha rfl ?_)));rw[Instr.checkKey];refine ag (ag (cC M.hf ?_));refine ah (ah ?_);refine ag (ag (ik L ht ha rfl ?_));refine ag (ag (cC M.hf ?_));exact ah (ah (ah (ah h)))
 eq {k O Kp a b K} h:=by
  obtain⟨f,g,m,⟨o,c⟩,⟨p,d⟩,q,i⟩:=M.hk;show dK P (Op.equalIn (9998+1+1) kt (.agg #[.int kd a.1,.int kd a.2]) (.agg #[.int kd b.1,.int kd b.2])) k O K Kp;rw[Op.equalIn];refine ag (cC m ?_);refine ag (bo ?_);rw[M.hs];simp only[LK,Rp,abY,abV,aci];rw[aaB o,aaB c,p,q,d,i];refine ag (ag (ag (ik L ht ha (v:=.int kd a.1) rfl ?_)));refine ag (ik L ht ha (v:=.int kd b.1) rfl ?_);refine ag ?_;rw[Op.equalIn];refine ag (cC M.hf ?_);simp only[aaA];refine ah ?_;have e:(a==b)=(a.1==b.1 && a.2==b.2):=rfl;rw[e]at h;cases j:(a.1==b.1)with
  |false=>rw[j]at h;exact ah (ah (ah h))
  | true=>
    rw[j]at h;refine ah ?_;refine ag (ag (ik L ht ha (v:=.int kd a.2) rfl ?_));refine ag (ik L ht ha (v:=.int kd b.2) rfl ?_);refine ag ?_;refine ag (cC M.hf ?_);simp only[aaA];refine ah ?_;cases l:(a.2==b.2)with
    |true=>rw[l]at h;exact ah (ah (ah h))
    |false=>rw[l]at h;exact ah (ah (ah h))
end
section
variable{P:adS}(L:jo P){o:Oper}{env:Env}{σ:aa}{K:adm}{Kp:adm}
def FA{i:TI}{d:TypeDesc}(h:dH P i d=true)(a:i.kind=.iface):∃ms,d=.interface ms:=by cases d<;>simp_all [dH]
def dU{op:BinOp}{t z:Nat}{x:adT}{i:TI}{isNil:Bool}(A:o.op=.binOp op t x (.const .nilIface) z)(ht:L.tt t=some i)(B:i.kind=.iface)
 (C:(ao env x=.lit .nilIface/\isNil=true)\/(∃d a,ao env x=.lM d a)/\isNil=false){b:Bool}(l:(op=.eql/\b=isNil)\/(op=.neq/\b=!isNil)) (D:K (.lit (.bool b)) σ):aJ P o env σ K Kp:=
 aJ.val (s:=λc=>do eqGuard op t x (.const .nilIface) (c x) (c (.const .nilIface));binOp op t (c x) (c (.const .nilIface))) (λc=>by simp[execOp,A]) λk O c m E=>by
  have n:=m x (by simp_all)
  have q:=m (.const .nilIface) (by simp_all)
  have F:c (.const .nilIface)=.nilIface:=by simp only[ao]at q;generalize c (.const .nilIface)=w at q;cases q;rfl
  have f:(c x=.nilIface/\isNil=true)\/∃d v,c x=.iface d v/\isNil=false:=by
   rcases C with⟨e,h⟩|⟨⟨d,a,e⟩,h⟩<;>rw[e]at n
   . generalize c x=w at n;cases n;simp_all
   . generalize c x=w at n;cases n;simp_all
  rw[F]
  have G:eqGuard op t x (.const .nilIface) (c x) .nilIface=pure ():=by rcases f with⟨f,_⟩|⟨d,v,f,_⟩<;>rw[f]<;>rcases l with⟨rfl,_⟩|⟨rfl,_⟩<;>simp[eqGuard]
  rw[G];refine ag (ah ?_)
  have fin:∀{s:Sem Value},s=(do pure (.bool b))->dK P s k O (λv p r=>mL p r λu H=>k.Le u/\∃a g,V u v a/\Rel u H g/\K a g) (λv p r=>k.Le p/\∃a g,V p v a/\Rel p r g/\Kp a g):=λe=>by rw[e];exact ah (.here ⟨.refl k,_,σ,.lit _,E,D⟩)
  have j:∀(R:acT) (y:acR),R isNil k O->dK P (Op.equal t (c x) .nilIface) k O R y:=λR y I=>by
   show dK P (Op.equalIn (9999+1) t (c x) .nilIface) k O R y;rw[Op.equalIn];refine ag (aG L ht λd _ hd=>?_)
   obtain⟨ms,rfl⟩:=FA hd B
   rcases f with⟨f,rfl⟩|⟨d,v,f,rfl⟩<;>rw[f]<;>exact ah I
  rcases f with⟨f,J⟩|⟨d,v,f,J⟩<;>rw[f]at j ⊢<;>rcases l with⟨rfl,rfl⟩|⟨rfl,rfl⟩
  . exact ag (s:=Op.equal t .nilIface .nilIface) (j _ _ (fin rfl))
  . exact ag (s:=Op.equal t .nilIface .nilIface) (j _ _ (fin rfl))
  . exact ag (s:=Op.equal t (.iface d v) .nilIface) (j _ _ (fin rfl))
  . exact ag (s:=Op.equal t (.iface d v) .nilIface) (j _ _ (fin rfl))
end
def qa(k:aj)(O:ak)(B:Nat)(a:Touch):Prop:=
 match a.loc with
 |.cell b=>b.block<B/\¬aV O b.block b.off/\(k.cell b.block b.off=none\/a.write=false)
 |.obj r=>r<B/\∀o,O r≠some (.obj o)
 |_=>True
def aj.bot:aj:=⟨λ_ _=>none,λ_=>none⟩
def ak.bot:ak:=λ_=>none
def aj.join(k k':aj):aj:=⟨λb i=>match k.cell b i with|some v=>some v|none=>k'.cell b i,λb=>match k.sh b with|some s=>some s|none=>k'.sh b⟩
def aj.s8(k k':aj):k.Le (k.join k'):=⟨λb i v h=>by simp[aj.join,h],λb s h=>by simp[aj.join,h]⟩
def aj.xH{k k':aj}{O O':ak}{w:World}(h:Sat k O w)(h':Sat k' O' w):k'.Le (k.join k'):=⟨λb i v a=>by
 simp only[aj.join];cases q:k.cell b i with
 |none=>exact a
 | some u=>
   have:=h.cell b i u q;rw[h'.cell b i v a]at this
   simp_all,λb s c=>by
 simp only[aj.join];cases q:k.sh b with
 |none=>exact c
 | some u=>
   have:=h.sh b u q;rw[h'.sh b s c]at this
   simp_all⟩
def aj.nP{k k':aj}{b i:Nat}{v:Value}(h:(k.join k').cell b i=some v):k.cell b i=some v\/k'.cell b i=some v:=by
 simp only[aj.join]at h
 grind
def aj.Hl{k k':aj}{b:Nat}{s:TypeId × Nat}(h:(k.join k').sh b=some s):k.sh b=some s\/k'.sh b=some s:=by
 simp only[aj.join]at h
 grind
def aV.own{O:ak}{b i:Nat}(h:aV O b i):∃x,O b=some x:=by rcases h with⟨o,h⟩|⟨n,h,_⟩|⟨f,h,_⟩<;>exact⟨_,h⟩
def dY{O:ak}{b i:Nat}(h:O b=none):¬aV O b i:=λa=>by
 obtain⟨x,c⟩:=a.own
 simp_all
structure Base where
 Shun:Loc->Prop
 N0:Nat
 lk:Nat
 la:Addr
 W0:World
def Iy(Z:Base)(t:Trace)(i n:Nat):Prop:=if i=Z.lk then n<Z.N0\/∃p,Z.N0<=p/\t.act? p=some (.mark (.releaseMerge Z.la))/\t.heard p/\Before t n p else Knows t i n
def Iy.app{Z:Base}{t:Trace}{i n:Nat}(h:Iy Z t i n)(u:Trace):Iy Z (t++u) i n:=by
 unfold Iy at *;split at h
 . next e=>
   rw[aaB e];rcases h with h|⟨p,c,a,d,f⟩
   . exact .inl h
   have b:=lt_of_act? a;exact .inr ⟨p,c,by rw[act?_old b];exact a,(heard_old b).2 d,f.app u⟩
 . next e=>rw[aay e];exact h.app u
def oH{Z:Base}{t:Trace}{i n:Nat}(hi:i≠Z.lk):Iy Z t i n↔Knows t i n:=by unfold Iy;simp_all
def Wq(Z:Base)(t:Trace)(i:Nat)(k:aj)(O:ak)(B:Nat):Prop:=∀n a,touchAt t n=some a->a.loc.isMemory=true->Iy Z t i n\/qa k O B a
structure cB(Z:Base)(kk:adN)(OO:adM)(J M:adC)(w:World)(t:Trace):Prop where
 sat:∀i,Sat (kk i) (OO i) w
 jA:∀i j b x,i≠j->OO i b=some x->OO j b=none
 nQ:∀i j b n v,i≠j->(kk j).cell b n=some v -> ¬aV (OO i) b n
 BG:∀i,Wq Z t i (kk i) (OO i) w.heap.size
 clean:∀said,¬Race said t
 seen:∀op∈t,op.act.low w.heap.size
 acc:∀n a,touchAt t n=some a->a.loc.isMemory=true->Knows t 0 n\/(∃j,J j/\Knows t j n)\/(∃p,M p/\Before t n p)\/(Z.Shun a.loc/\a.kind=.atomic/\(t.counts n->n<Z.N0))
 n0:Z.N0<=t.size
 xI:∀n g,n<Z.N0->t.g? n=some g->g≠0->t.counts n->∃j,t.g? j=some 0/\HappensBefore t n j
 lT:∀a,Z.Shun (.cell a)->a.block<w.heap.size/\∀i,¬aV (OO i) a.block a.off/\(kk i).cell a.block a.off=none
 pD:∀r,Z.Shun (.obj r)->r<w.heap.size/\∀i o,OO i r≠some (.obj o)
 zt:wZ Z.W0 w
 mine:∀i b x,OO i b=some x->Z.W0.heap.size<=b
def bR{α:Type}(f:Nat->α)(i:Nat)(x:α):Nat->α:=λj=>if j=i then x else f j
def au{α:Type}(f:Nat->α)(i:Nat)(x:α):bR f i x i=x:=by simp[bR]
def az{α:Type}(f:Nat->α){i j:Nat}(x:α)(h:j≠i):bR f i x j=f j:=by simp[bR,h]
def kg{k:aj}{O:ak}{B:Nat}{e:Event}{b:Touch}(a:jm k O B e)(hb:(MemAct.ofEvent e).touch?=some b):
 (∃ad,b.loc=.cell ad/\(aV O ad.block ad.off\/B<=ad.block\/(b.write=false/\∃v,k.cell ad.block ad.off=some v)))\/∃r,b.loc=.obj r/\((∃o,O r=some (.obj o))\/B<=r):=by
 obtain⟨loc,wr,c⟩:=e;cases loc with
 | cell ad=>
   simp only[jm]at a;simp only[MemAct.ofEvent,MemAct.touch?,kn]at hb
   grind
 |obj r=>simp only[jm]at a;cases wr<;>cases c<;>simp only[MemAct.ofEvent,MemAct.touch?,kn,reduceCtorEq]at hb<;>subst hb<;>exact .inr ⟨r,rfl,a⟩
 |mark m=>simp only[jm]at a;cases m<;>simp_all [j9,nk,MemAct.ofEvent,MemAct.touch?]
 |_=>simp[jm]at a
def vH{k:aj}{O:ak}{B b:Nat}{e:Event}(c:jm k O B e)(a:jf b e):(MemAct.ofEvent e).low b:=by
 obtain⟨loc,wr,d⟩:=e;cases loc with
 |cell f=>simpa[MemAct.ofEvent,MemAct.low,Loc.low,jf]using a
 |obj r=>simp only[jf]at a;cases wr<;>cases d<;>simpa[MemAct.ofEvent,MemAct.low,Loc.low]using a
 |mark m=>simp only[jm]at c;cases m<;>simp_all [j9,nk,MemAct.ofEvent,MemAct.low,jf]
 |_=>simp[jm]at c
def sf{t u:Trace}{n:Nat}(a:n<t.size):(t++u).counts n↔t.counts n:=by unfold Trace.counts;rw[act?_old a,heard_old a]
section
variable{Z:Base}{kk:adN}{OO:adM}{J M:adC}{w:World}{t:Trace}
def cB.C9(h:cB Z kk OO J M w t)(u:Trace):∀n g,n<Z.N0->(t++u).g? n=some g->g≠0->(t++u).counts n->∃j,(t++u).g? j=some 0/\HappensBefore (t++u) n j:=λn g c d i e=>by
 have a:n<t.size:=aaU c h.n0;rw[g?_old a]at d;rw[sf a]at e;obtain⟨j,f,hb⟩:=h.xI n g c d i e
 have b:j<t.size:=by
  unfold Trace.g? at f
  grind
 exact⟨j,by rw[g?_old b];exact f,hb_app u hb⟩
def cB.own(h:cB Z kk OO J M w t){i:Nat}(X:i≠Z.lk)(hJ:i=0\/J i){k':aj}{O':ak}{w':World}{es:ads}{fn:FuncId}{pos:String}(d:Eff (kk i) (OO i) w k' O' w' es.toList)(hs:Sat k' O' w'):
 cB Z (bR kk i k') (bR OO i O') J M w' (t++MemOp.ofEvents i fn pos es):=by
 have D:∀op∈MemOp.ofEvents i fn pos es,op.g=i/\∃e∈es.toList,op.act=.ofEvent e:=λop B=>by
  obtain⟨e,d,rfl⟩:=zR B
  grind
 have Y:∀b n,aV O' b n->aV (OO i) b n\/w.heap.size<=b:=d.Fg
 have ax:∀j,j≠i->Sat (kk j) (OO j) w':=λj k=>by
  have hold:∀b,b<w.heap.size->OO j b≠none->w'.heap[b]?=w.heap[b]?:=λb hb W=>by
   cases q:OO j b with
   |none=>simp_all
   |some x=>exact d.keep b hb (h.jA j i b x k q)
  refine⟨(h.sat j).apart,λb n v K=>?_,λb s hs=>?_,λb o N=>?_,λb n W=>?_,λb f W=>?_⟩
  . have hb:=(h.sat j).qM K
    have hc:=(h.sat j).cell b n v K;have Q:=h.nQ i j b n v (za k) K;cases q:OO i b with
    |none=>have:=d.keep b hb q;simpa only[World.cell?,this]using hc
    | some x=>
      cases x with
      |obj o=>exact absurd (.inl ⟨o,q⟩) Q
      | tail m=>
        have a9:n<m:=Nat.lt_of_not_le λhh=>Q (.inr (.inl ⟨m,q,hh⟩))
        obtain⟨c,e,l,_⟩:=(h.sat i).tail b m q;obtain⟨c',R,P,h4⟩:=d.tail b m hb q c e l;simp only[World.cell?,l,R]at hc ⊢
        simp_all
      | part f=>
        have a9:f n=none:=abk λhh=>Q (.inr (.inr ⟨f,q,hh⟩))
        obtain⟨c,e,l,_⟩:=(h.sat i).part b f q;obtain⟨c',R,P,h4⟩:=d.part b f hb q c e l;simp only[World.cell?,l,R]at hc ⊢
        simp_all
  . have hb:=(h.sat j).KL hs
    rw[d.shape b hb];exact(h.sat j).sh b s hs
  . rw[hold b ((h.sat j).uy N) (by grind)];exact(h.sat j).obj b o N
  . rw[hold b ((h.sat j).uy W) (by grind)];exact(h.sat j).tail b n W
  . rw[hold b ((h.sat j).uy W) (by grind)];exact(h.sat j).part b f W
 have a8:∀j b x,OO j b=some x->b<w.heap.size:=λj b x A=>(h.sat j).uy A
 have a7:∀j b n v,(kk j).cell b n=some v->b<w.heap.size:=λj b n v K=>(h.sat j).qM K
 refine⟨λj=>?_,λa b c x C A=>?_,λa b c n v C K=>?_,λj=>?_,λsaid=>?_,λop B=>?_,λn a ha hm=>?_,by simp;exact aaG h.n0 (abu _ _),h.C9 _,λa ha=>?_,λr hr=>?_,h.zt.step (by rw[d.os];exact .refl _) d.output d.size (λb hb=>d.keep b (aaU hb h.zt.size) (Option.eq_none_iff_forall_ne_some.2 λx A=>by have:=h.mine i b x A;omega)),λj b x A=>?_⟩
 . by_cases k:j=i
   . subst k;rw[au,au];exact hs
   . rw[az _ _ k,az _ _ k];simp_all
 . by_cases ha:a=i
   . subst ha
     rw[au]at A;rw[az _ _ (za C)];rcases d.own c x A with⟨y,hy,_⟩|hy
     . exact h.jA a b c y C hy
     . cases q:OO b c with
       |none=>rfl
       |some z=>grind
   . rw [az _ _ ha]at A
     by_cases hb:b=i
     . subst hb
       rw[au];cases q:O' c with
       |none=>rfl
       | some z=>
         rcases d.own c z q with⟨y,hy,_⟩|hy
         . have:=h.jA a b c x C A;simp_all
         grind
     . rw[az _ _ hb];exact h.jA a b c x C A
 . by_cases ha:a=i
   . subst ha
     rw[au];rw[az _ _ (za C)]at K;intro hc;rcases Y c n hc with hc|hc
     . exact h.nQ a b c n v C K hc
     grind
   . rw [az _ _ ha]
     by_cases hb:b=i
     . subst hb
       rw[au]at K;intro hc;rcases d.cell c n v K with l|l|l
       . exact h.nQ a b c n v C l hc
       . obtain⟨x,A⟩:=l.own
         have:=h.jA b a c x (za C) A;exact dY this hc
       . obtain⟨x,A⟩:=hc.own
         grind
     . rw[az _ _ hb]at K;exact h.nQ a b c n v C K
 ·
  intro n a ha hm;obtain⟨x,A,u⟩:=touch_of ha;rcases getElem?_append_cases A with⟨_,S⟩|⟨_,T⟩
  . rcases h.BG j n a (by rw[touchAt_of S];exact u) hm with hk|hk
    . exact .inl (hk.app _)
    . refine .inr ?_
      by_cases k:j=i
      . subst k
        rw[au,au];unfold qa at hk ⊢;split
        . next O E=>
          rw[E]at hk;obtain⟨l,R,P⟩:=hk;refine⟨aaU l d.size,λhc=>?_,?_⟩
          . grind
          . rcases P with P|P
            . cases q:k'.cell O.block O.off with
              |none=>simp_all
              | some v=>
                rcases d.cell _ _ v q with h4|h4|h4
                . simp_all
                . simp_all
                . omega
            simp_all
        . next r E=>
          rw[E]at hk;refine⟨aaU hk.1 d.size,λo N=>?_⟩;rcases d.own r _ N with⟨y,hy,L⟩|hy
          . cases y with
            |obj o'=>simp_all
            |tail m=>exact L.elim
            |part f=>exact L.elim
          omega
        . trivial
      . rw[az _ _ k,az _ _ k]
        unfold qa at hk ⊢;split
        . next O E=>rw[E]at hk;exact⟨aaU hk.1 d.size,hk.2⟩
        . next r E=>rw[E]at hk;exact⟨aaU hk.1 d.size,hk.2⟩
        . trivial
  . obtain ⟨hg,e,H,F⟩:=D x T
    by_cases k:j=i
    . subst k
      have:=knows_own A;rw[hg]at this;exact .inl ((oH X).2 this)
    . refine .inr ?_
      rw[az _ _ k,az _ _ k];rw[F]at u;have G:=d.evs e H;have I:=d.low e H;rcases kg G u with⟨O,E,hc⟩|⟨r,E,hc⟩
      . unfold qa;rw[E]
        have U:O.block<w'.heap.size:=by
         have:=vH G I;obtain⟨loc,wr,sy⟩:=e;cases loc with
         |cell ab=>simp only[MemAct.ofEvent,MemAct.touch?,kn]at u;subst u;simp only[Loc.cell.injEq]at E;subst E;simpa[jf]using I
         |obj r=>cases wr<;>cases sy<;>simp only[MemAct.ofEvent,MemAct.touch?,kn,reduceCtorEq]at u<;>subst u<;>cases E
         |mark m=>simp only[jm]at G;cases m<;>simp_all [j9,nk,MemAct.ofEvent,MemAct.touch?]
         |_=>simp[jm]at G
        refine⟨U,λV=>?_,?_⟩
        . rcases hc with hc|hc|⟨_,v,hc⟩
          . obtain⟨y,hy⟩:=hc.own
            have:=h.jA i j _ y (za k) hy;exact dY this V
          . obtain⟨x,A⟩:=V.own
            grind
          . exact h.nQ j i _ _ v k hc V
        . rcases hc with hc|hc|⟨hc,_⟩
          . cases q:(kk j).cell O.block O.off with
            |none=>simp_all
            |some v=>exact absurd hc (h.nQ i j _ _ v (za k) q)
          . cases q:(kk j).cell O.block O.off with
            |none=>simp_all
            |some v=>grind
          simp_all
      . unfold qa;rw[E]
        have U:r<w'.heap.size:=by
         obtain⟨loc,wr,sy⟩:=e;cases loc with
         | cell ab=>
           simp only[MemAct.ofEvent,MemAct.touch?,kn]at u
           grind
         |obj r'=>simp only[jf]at I;cases wr<;>cases sy<;>simp only[MemAct.ofEvent,MemAct.touch?,kn,reduceCtorEq]at u<;>subst u<;>cases E<;>exact I
         |mark m=>simp only[jm]at G;cases m<;>simp_all [j9,nk,MemAct.ofEvent,MemAct.touch?]
         |_=>simp[jm]at G
        refine⟨U,λo N=>?_⟩;rcases hc with⟨o',hc⟩|hc
        . have:=h.jA j i r _ k N
          simp_all
        grind
 ·
  refine noRace_append (h.clean said) (λop B=>(D op B).1) λn a ha op B b hb hc=>?_
  obtain⟨hg,e,H,F⟩:=D op B;rw[F]at hb;have G:=d.evs e H;obtain⟨c1,c2,c3,c4⟩:=hc;rcases h.BG i n a ha c2 with hk|hk
  . exact(oH X).1 hk
  . exfalso
    unfold qa at hk;rcases kg G hb with⟨O,E,al⟩|⟨r,E,al⟩
    . grind
    grind
 . rcases Array.mem_append.1 B with B|B
   . exact MemAct.low_mono d.size (h.seen op B)
   . obtain⟨hg,e,H,F⟩:=D op B
     rw[F];exact vH (d.evs e H) (d.low e H)
 . obtain⟨x,A,u⟩:=touch_of ha
   rcases getElem?_append_cases A with⟨av,S⟩|⟨_,T⟩
   . rcases h.acc n a (by rw[touchAt_of S];exact u) hm with l|⟨j,k,l⟩|⟨p,hp,l⟩|l
     . exact .inl (l.app _)
     . exact .inr (.inl ⟨j,k,l.app _⟩)
     . exact .inr (.inr (.inl ⟨p,hp,l.app _⟩))
     . exact .inr (.inr (.inr ⟨l.1,l.2.1,λhc=>l.2.2 ((sf av).1 hc)⟩))
   . obtain⟨hg,_⟩:=D x T
     have:=knows_own A
     grind
 . obtain⟨l,R⟩:=h.lT a ha
   refine⟨aaU l d.size,λj=>?_⟩;by_cases k:j=i
   . subst k
     rw[au,au];refine⟨λhc=>?_,?_⟩
     . grind
     . cases q:k'.cell a.block a.off with
       |none=>rfl
       | some v=>
         rcases d.cell _ _ v q with P|P|P
         . simp_all
         . simp_all
         . omega
   . rw[az _ _ k,az _ _ k];exact R j
 . obtain⟨l,R⟩:=h.pD r hr
   refine⟨aaU l d.size,λj o N=>?_⟩;by_cases k:j=i
   . subst k
     rw[au]at N;rcases d.own r _ N with⟨y,hy,L⟩|hy
     . cases y with
       |obj o'=>simp_all
       |tail m=>exact L.elim
       |part f=>exact L.elim
     . omega
   . rw[az _ _ k]at N;simp_all
 . by_cases k:j=i
   . subst k
     rw[au]at A;rcases d.own b x A with⟨y,hy,_⟩|hy
     . exact h.mine j b y hy
     . exact aaG h.zt.size hy
   . rw[az _ _ k]at A;exact h.mine j b x A
end
