import Derived.KernelRfl
import Derived.Test.YtabmephejpgigaaGreatDoorC4
set_option linter.all false
namespace Go.cr
def zH:=@Go.Conc.mem_ofEvents
open Go.Conc
abbrev aaV:=List Entry
section
variable{P:abm}(L:iT P){m:Mo}
def aB.start{f:FuncId}{fn args σ b body}  mu   hold   k  (c:P.funcs[f]?=some fn) (hb:fn.body=some body) (e:args.length=k) (d:nz fn k=true) (a:kB hold body=true)
 (h:br L m f fn.ntmps none mu hold 1000 [.code body] ⟨dh args,σ,[],.no⟩ (QH L m fn.results.toList (mO b))):aB P m f args σ b:=by
 simp only[nz,za]at d;refine aB.thaw (aB.intro L c hb (by simp_all) ?_ (Go.br L mu hold 1000 (by simpa[js]using a) h))
 simp_all
variable{fid n:Nat}{ro:aaX}{hold:aaV}{s:St}{K:aaN}{k:abb}
def aa.run  mu  {todo}(h:br L m fid n ro mu hold 1000 todo s K):aa P m fid n ro hold todo s K:=λa=>Go.br L mu hold 1000 a h
def au{f fn args σ b}(c:P.funcs[f]?=some fn)(hb:fn.body.isSome=true)(a:(fn.name==  "runtime.NumGoroutine")=false)(h:aB P m f args σ b):
 cX P m (.fn (.func f) [] []) args σ b:=.func c hb a (by simpa using h)
def gy{f fn first cap args args' σ b}(c:P.funcs[f]?=some fn)(hb:fn.body.isSome=true)(a:(fn.name==  "runtime.NumGoroutine")=false)(d:first++args++cap=args')(h:aB P m f args' σ b):
 cX P m (.fn (.func f) first cap) args σ b:=.func c hb a (d ▸ h)
def aa.loop{c}  N  (I:Nat->St->Prop) (g:I 0 s)
 (h:∀b i s,i<=N->I i s->(∀s',i<N->I (i+1) s'->aa P m fid n ro hold (.inLoop b::k) s' K)->aa P m fid n ro hold (.code c::.inLoop b::k) s K):aa P m fid n ro hold (.code (.loop c)::k) s K:=λe=>by
 have d:∀b,js hold (.code c::.inLoop b::k)=true:=λb=>by simpa[js,kB]using e
 refine Go.loop (λa s=>∃i,a=N-i/\i<=N/\I i s) N ⟨0,by simp,by omega,g⟩ ?_;rintro b a s ⟨i,rfl,j,l⟩ o;exact h b i s j l (λs' p f _=>o (N-(i+1)) s' (by omega) ⟨i+1,rfl,by omega,f⟩) (d b)
def I7:Option Code->Bool
 |none=>true
 |some .ret=>true
 |some (.exit _)=>true
 |_=>false
def aa.rangeFunc{f params assign body}(i:Operand.ok n f=true)
 (h:js hold [.code assign,.code body]=true->∀r l,s.σ r=none->s.σ l=none->r≠l->cX P m (ak s.env f) [.fn (.yield l) [] []] ((s.σ.set r (.raw (.deferred (some [])))).set l (.loop ⟨.ready,none,fid,n,s.env,params,assign,body,r⟩))
   (fun res σ'=>match res with
     |.val _=>∃a,σ' l=some (.loop a)/\a.state≠.busy/\I7 a.pending=true/\aa P m fid n none hold ((a.pending.map Item.code).toList++k) {s with σ:=σ'.del l,D:=.mark r::s.D} K
     |.panic v=>K (.panic v) {s with σ:=σ',D:=.mark r::s.D})):aa P m fid n none hold (.code (.rangeFunc f params assign body)::k) s K:=λd=>by
 have j:js hold [.code assign,.code body]=true:=by
  simp only[js,Zl,kB,za]at d ⊢
  simp_all
 refine Go.rangeFunc i λr l a b c=>(h j r l a b c).mono λres σ' e=>?_
 cases res with
 |panic v=>exact e
 |val v=>obtain⟨o,p,q,g,t⟩:=e;refine⟨o,p,q,t ?_⟩;simp only[js,Zl,za,List.all_append]at d ⊢;refine⟨?_,d.2⟩;unfold I7 at g;split at g<;>rename_i u<;>simp_all [kB]
def cX.DO{l args σ c a fn}(b:js hold [.code a.assign,.code a.body]=true)(d:P.funcs[a.fn]?=some fn)(e:σ l=some (.loop a))(f:args.length=a.params.size)
 (h:aa P m a.fn a.n (some l) hold [.code a.assign,.beginRound,.code a.body] ⟨oO a.env a.params.toList args,σ,[],.no⟩ (IY l c)):cX P m (.fn (.yield l) [] []) args σ c:=
 .yield d e f (h (by simp only[js,Zl,za]at b ⊢;simp_all))
def aa.beginRound{l a}(c:s.σ l=some (.loop a))(ha:a.state=.ready)(h:aa P m fid n (some l) hold k {s with σ:=s.σ.set l (.loop {a with state:=.busy})} K):aa P m fid n (some l) hold (.beginRound::k) s K:=λb=>.beginRound c ha (h (by simpa[js,kB]using b))
def aa.freeze{todo env a σ σ' D rc}  b   l  (hb:σ b=some (.cells l)) (c:∀t,Fz b l (env t) (a t)) (e:MO b l σ σ')
 (h:aa P m fid n ro hold todo ⟨a,σ',D,rc⟩ K):aa P m fid n ro hold todo ⟨env,σ,D,rc⟩ K:=λd=>Go.freeze b l hb c e (h d)
end
def ab.le_refl(σ:ab):σ.Le σ:=λ_ _ h=>h
def ab.le_trans{a b c:ab}(h:a.Le b)(d:b.Le c):a.Le c:=λx y e=>d x y (h x y e)
def ab.qR{σ0 σ:ab}{b x}(h:σ0.Le σ)(hb:σ b=none):σ0.Le (σ.set b x):=λc y a=>by
 by_cases e:c=b
 . subst e;have:=h _ _ a;simp_all
 . simp only[ab.set,e,Rp];exact h _ _ a
def ab.fW{σ0 σ:ab}{b x}(h:σ0.Le σ)(hb:σ0 b=none):σ0.Le (σ.set b x):=λc y a=>by
 by_cases e:c=b
 . simp_all
 . simp only[ab.set,e,Rp];exact h _ _ a
def ab.nB{σ0 σ:ab}{b}(h:σ0.Le σ)(hb:σ0 b=none):σ0.Le (σ.del b):=λc y a=>by
 by_cases e:c=b
 . simp_all
 . simp only[ab.del,e,Rp];exact h _ _ a
def ab.aP{σ:ab}{b c x}(h:(σ.set b x) c=none):c≠b/\b≠c/\σ c=none:=by
 by_cases e:c=b
 . subst e;simp[ab.set]at h
 . simp only[ab.set,e,Rp]at h
   grind
@[simp] theorem ab.aj(σ:ab)  b   x :(σ.set b x) b=some x:=by simp[ab.set]
def ab.ah(σ:ab){b c}  x  (h:c≠b):(σ.set b x) c=σ c:=by simp[ab.set,h]
@[simp] theorem ab.set_set(σ:ab)  b   x y :(σ.set b x).set b y=σ.set b y:=by funext c;by_cases e:c=b<;>simp[ab.set,e]
section
variable{P:abm}(L:iT P)(m:Mo)(fid n f:Nat)(ro:aaX)(mu:abf)(hold:aaV)
def stepW(ops:aaW)(is:abf)(k:abb)(dst:aaZ)(s:St)(K:aaN)(x:Out):Prop:=qQ x (λa b=>br L m fid n ro mu hold f (.inRegion ops is::k) {s with env:=bd s.env dst a,σ:=b} K) (λa b=>K (.panic a) {s with σ:=b})
def I8(ops:aaW)(is:abf)(k:abb)(dst:aaZ)(s:St)(K:aaN)(σ:ab)(x:abc):Prop:=stepW L m fid n f ro mu hold ops is k dst s K (.opt x σ)
def cz(ops:aaW)(is:abf)(k:abb)(dst:aaZ)(s:St)(K:aaN)(σ:ab)(c:abj):Prop:=stepW L m fid n f ro mu hold ops is k dst s K (.new σ c)
def yi(ops:aaW)(i:Nat)(is:abf)(k:abb)(o:Oper)(s:St)(K:aaN)(x:Option Bool):Prop:=
 GB x (if oR L o=true then qQ (Aj L mu o s.env s.σ) (λa b=>br L m fid n ro mu hold f (.inRegion ops is::k) {s with env:=bd s.env o.dst a,σ:=b} K) (λa b=>K (.panic a) {s with σ:=b})
        else if uo o.op=true then M9 (P:=P) m o s.env s.σ (λa b=>aa P m fid n ro hold (.inRegion ops is::k) {s with env:=bd s.env o.dst a,σ:=b} K) (λa b=>∀env,K (.panic a) {s with env,σ:=b})
        else aa P m fid n ro hold (.inRegion ops (i::is)::k) s K) (br L m fid n ro mu hold f (.inRegion ops is::k) {s with env:=bd s.env o.dst (.lit (.tuple #[]))} K)
def aI(a b:Code)(k:abb)(s:St)(K:aaN)(x:Bool):Prop:=uk x (br L m fid n ro mu hold f (.code a::k) s K) (br L m fid n ro mu hold f (.code b::k) s K)
def PA(P:abm)(m:Mo)(fid n:Nat)(ro:aaX)(hold:aaV)(k:abb)(s:St)(K:aaN):aaO:=λenv σ=>aa P m fid n ro hold k {s with env,σ} K
def PB(s:St)(K:aaN):aaP:=λv σ=>∀env,K (.panic v) {s with env,σ}
variable{L m fid n f ro mu hold}{s:St}{K:aaN}{k:abb}{ops:aaW}{i:Nat}{is:abf}{dst:aaZ}{σ:ab}
@[simp] theorem RQ{env}:PA P m fid n ro hold k s K env σ=aa P m fid n ro hold k {s with env,σ} K:=propext YP
@[simp] theorem RR{v}:PB s K v σ=∀env,K (.panic v) {s with env,σ}:=propext YP
@[simp] theorem RS{a}:stepW L m fid n f ro mu hold ops is k dst s K (.ok a σ)=br L m fid n ro mu hold f (.inRegion ops is::k) {s with env:=bd s.env dst a,σ:=σ} K:=propext YP
@[simp] theorem PC{p x}:stepW L m fid n f ro mu hold ops is k dst s K (.ig p x)=(p/\stepW L m fid n f ro mu hold ops is k dst s K x):=propext YP
@[simp] theorem QR{c}:stepW L m fid n f ro mu hold ops is k dst s K (.new σ c)=cz L m fid n f ro mu hold ops is k dst s K σ c:=propext YP
@[simp] theorem QS{x}:stepW L m fid n f ro mu hold ops is k dst s K (.opt x σ)=I8 L m fid n f ro mu hold ops is k dst s K σ x:=propext YP
@[simp] theorem QT{a}:I8 L m fid n f ro mu hold ops is k dst s K σ (some a)=br L m fid n ro mu hold f (.inRegion ops is::k) {s with env:=bd s.env dst a,σ:=σ} K:=propext YP
@[simp] theorem QU:I8 L m fid n f ro mu hold ops is k dst s K σ none=False:=propext YP
@[simp] theorem T8{c}[Decidable c]{x}:I8 L m fid n f ro mu hold ops is k dst s K σ (if c then x else none)=(c/\I8 L m fid n f ro mu hold ops is k dst s K σ x):=by by_cases h:c<;>simp[h]
def cz.intro{c}(h:∀b,σ b=none->br L m fid n ro mu hold f (.inRegion ops is::k) {s with env:=bd s.env dst (.ref b 0),σ:=σ.set b (.cells c)} K):cz L m fid n f ro mu hold ops is k dst s K σ c:=h
@[simp] theorem RU{o}:yi L m fid n f ro mu hold ops i is k o s K (some true)=(if oR L o=true then stepW L m fid n f ro mu hold ops is k o.dst s K (Aj L mu o s.env s.σ)
   else if uo o.op=true then M9 (P:=P) m o s.env s.σ (λa σ'=>aa P m fid n ro hold (.inRegion ops is::k) {s with env:=bd s.env o.dst a,σ:=σ'} K) (λa σ'=>∀env,K (.panic a) {s with env,σ:=σ'})
   else aa P m fid n ro hold (.inRegion ops (i::is)::k) s K):=by unfold yi;rw[mR,nA];rfl
@[simp] theorem QV{o}:yi L m fid n f ro mu hold ops i is k o s K (some false)=br L m fid n ro mu hold f (.inRegion ops is::k) {s with env:=bd s.env o.dst (.lit (.tuple #[]))} K:=by unfold yi;rw[mR,lU]
def yi.intro{o x}(a:x=true->yi L m fid n f ro mu hold ops i is k o s K (some true))(b:x=false->yi L m fid n f ro mu hold ops i is k o s K (some false)):yi L m fid n f ro mu hold ops i is k o s K (some x):=by cases x with|true=>exact a rfl|false=>exact b rfl
@[simp] theorem PD{a b}:aI L m fid n f ro mu hold a b k s K true=br L m fid n ro mu hold f (.code a::k) s K:=by unfold aI;rw[nA]
@[simp] theorem OL{a b}:aI L m fid n f ro mu hold a b k s K false=br L m fid n ro mu hold f (.code b::k) s K:=by unfold aI;rw[lU]
@[simp] theorem QW{a b x}:aI L m fid n f ro mu hold a b k s K (!x)=aI L m fid n f ro mu hold b a k s K x:=by cases x<;>simp
def aI.intro{a b x}(c:x=true->br L m fid n ro mu hold f (.code a::k) s K)(d:x=false->br L m fid n ro mu hold f (.code b::k) s K):aI L m fid n f ro mu hold a b k s K x:=⟨c,d⟩
@[simp] theorem RV :br L m fid n ro mu hold (f+1) ([]) s K=K (.leave none) s:=propext YP
@[simp] theorem RX :br L m fid n ro mu hold (f+1) (.code .ret::k) s K=K (.leave (some .ret)) s:=propext YP
@[simp] theorem QX :br L m fid n ro mu hold (f+1) (.code .skip::k) s K=br L m fid n ro mu hold f k s K:=propext YP
@[simp] theorem PE{l}:br L m fid n ro mu hold (f+1) (.code (.label l)::k) s K=br L m fid n ro mu hold f k s K:=propext YP
@[simp] theorem Nb{id}:br L m fid n ro mu hold (f+1) (.inBlock id::k) s K=br L m fid n ro mu hold f k s K:=propext YP
@[simp] theorem RY{a b}:br L m fid n ro mu hold (f+1) (.code (.seq a b)::k) s K=br L m fid n ro mu hold f (.code a::.code b::k) s K:=propext YP
@[simp] theorem PF{id c}:br L m fid n ro mu hold (f+1) (.code (.block id c)::k) s K=br L m fid n ro mu hold f (.code c::.inBlock id::k) s K:=propext YP
@[simp] theorem PG{c}:br L m fid n ro mu hold (f+1) (.code (.scope c)::k) s K=br L m fid n ro mu hold f (.code c::.inScope c::k) s K:=propext YP
@[simp] theorem QY{id}:br L m fid n ro mu hold (f+1) (.code (.exit id)::k) s K=(match exitTo id k with
   |some k'=>br L m fid n ro mu hold f k' s K
   |none=>K (.leave (some (.exit id))) s):=propext YP
@[simp] theorem QZ{c a b}:br L m fid n ro mu hold (f+1) (.code (.cond c a b)::k) s K=(Operand.ok n c=true/\(match ak s.env c with
   |.lit (.bool x)=>aI L m fid n f ro mu hold a b k s K x
   |_=>False)):=propext YP
@[simp] theorem OM{id}:br L m fid n ro mu hold (f+1) (.code (.region id ops false)::k) s K=br L m fid n ro mu hold f (.inRegion ops (List.range ops.size)::k) s K:=propext YP
@[simp] theorem Q0{id}:br L m fid n ro mu hold (f+1) (.code (.region id ops true)::k) s K=(match hold.find? λe=>e.id==id with
   |some ⟨_,p⟩=>gS L m mu ops n (PB s K) p s.env s.σ (PA P m fid n ro hold k s K)
   |none=>aa P m fid n ro hold (.code (.region id ops true)::k) s K):=propext YP
@[simp] theorem I9 :br L m fid n ro mu hold (f+1) (.inRegion ops []::k) s K=br L m fid n ro mu hold f k s K:=propext YP
@[simp] theorem MP :br L m fid n ro mu hold (f+1) (.inRegion ops (i::is)::k) s K=(match ops[i]? with
   |some o=>Oper.ok n o=true/\yi L m fid n f ro mu hold ops i is k o s K (vV ops n s.env o)
   |none=>aa P m fid n ro hold (.inRegion ops (i::is)::k) s K):=propext YP
@[simp] theorem Q1{c}:br L m fid n ro mu hold (f+1) (.code (.loop c)::k) s K=aa P m fid n ro hold (.code (.loop c)::k) s K:=propext YP
@[simp] theorem ON{c}:br L m fid n ro mu hold (f+1) (.inLoop c::k) s K=aa P m fid n ro hold (.inLoop c::k) s K:=propext YP
@[simp] theorem I'{x a c d}:br L m fid n ro mu hold (f+1) (.code (.rangeFunc x a c d)::k) s K=aa P m fid n ro hold (.code (.rangeFunc x a c d)::k) s K:=propext YP
@[simp] theorem II :br L m fid n ro mu hold (f+1) (.beginRound::k) s K=aa P m fid n ro hold (.beginRound::k) s K:=propext YP
end
section
variable{P:abm}(L:iT P)(m:Mo)(n:Nat)(mu:abf)(ops:aaW)(Kp:aaP)(R:aaO)
def vX(lt:Bool)(σ:ab)(p:ny)(S:abf)(env:Env):Prop:=Ak L mu ops n lt σ (λa=>gS L m mu ops n Kp p a σ R) .mk S env
def BL(lt:Bool)(σ:ab)(p:ny)(S:abf)(dst:aaZ)(env:Env)(x:abc):Prop:=yh x λa=>vX L m n mu ops Kp R lt σ p S (bd env dst a)
def MQ(lt:Bool)(σ:ab)(p:ny)(S:abf)(o:Oper)(env:Env)(x:Option Bool):Prop:=GB x (BL L m n mu ops Kp R lt σ p S o.dst env (DL L mu lt o env σ)) (vX L m n mu ops Kp R lt σ p S (bd env o.dst (.lit (.tuple #[]))))
def uq(p:ny)(dst:aaZ)(env:Env)(x:Out):Prop:=qQ x (λa b=>gS L m mu ops n Kp p (bd env dst a) b R) Kp
def RZ(p:ny)(dst:aaZ)(env:Env)(σ:ab)(x:abc):Prop:=uq L m n mu ops Kp R p dst env (.opt x σ)
def rO(p:ny)(dst:aaZ)(env:Env)(σ:ab)(c:abj):Prop:=uq L m n mu ops Kp R p dst env (.new σ c)
def OP(i:Nat)(p:ny)(o:Oper)(env:Env)(σ:ab)(x:Option Bool):Prop:=
 GB x (if oR L o=true then qQ (Aj L mu o env σ) (λa b=>gS L m mu ops n Kp p (bd env o.dst a) b R) Kp else
    if uo o.op=true then M9 (P:=P) m o env σ (λa b=>aN P m ops n Kp p (bd env o.dst a) b R) Kp else iZ P m ops n Kp i env σ (λenv σ=>aN P m ops n Kp p env σ R)) (gS L m mu ops n Kp p (bd env o.dst (.lit (.tuple #[]))) σ R)
variable{L m n mu ops Kp R}{i:Nat}{lt:Bool}{env:Env}{σ:ab}{p q:ny}{S:abf}{dst:aaZ}
@[simp] theorem Q2:gS L m mu ops n Kp .done env σ R=R env σ:=propext YP
@[simp] theorem Q3:gS L m mu ops n Kp (.take S lt p) env σ R=vX L m n mu ops Kp R lt σ p S env:=propext YP
@[simp] theorem R1:gS L m mu ops n Kp (.one i p) env σ R=(match ops[i]? with|some o=>Oper.ok n o=true/\OP L m n mu ops Kp R i p o env σ (vV ops n env o)|none=>False):=propext YP
@[simp] theorem Q4:gS L m mu ops n Kp (.both i p q) env σ R=((match ops[i]? with|some o=>Oper.ok n o=true/\OP L m n mu ops Kp R i p o env σ (vV ops n env o)|none=>False)/\gS L m mu ops n Kp q env σ R):=propext YP
@[simp] theorem Q5:vX L m n mu ops Kp R lt σ p [] env=gS L m mu ops n Kp p env σ R:=propext YP
@[simp] theorem PH:vX L m n mu ops Kp R lt σ p (i::S) env=(match ops[i]? with|some o=>(Oper.ok n o && o.dst.isSome)=true/\MQ L m n mu ops Kp R lt σ p S o env (vV ops n env o)|none=>False):=propext YP
@[simp] theorem Q6{a}:BL L m n mu ops Kp R lt σ p S dst env (some a)=vX L m n mu ops Kp R lt σ p S (bd env dst a):=by unfold BL;rw[Gz]
@[simp] theorem Q7:BL L m n mu ops Kp R lt σ p S dst env none=False:=by unfold BL;rw[GA]
@[simp] theorem T9{c}[Decidable c]{x}:BL L m n mu ops Kp R lt σ p S dst env (if c then x else none)=(c/\BL L m n mu ops Kp R lt σ p S dst env x):=by by_cases h:c<;>simp[h]
@[simp] theorem R2{o}:MQ L m n mu ops Kp R lt σ p S o env (some true)=BL L m n mu ops Kp R lt σ p S o.dst env (DL L mu lt o env σ):=by unfold MQ;rw[mR,nA]
@[simp] theorem Q8{o}:MQ L m n mu ops Kp R lt σ p S o env (some false)=vX L m n mu ops Kp R lt σ p S (bd env o.dst (.lit (.tuple #[]))):=by unfold MQ;rw[mR,lU]
def MQ.intro{o x}(a:x=true->MQ L m n mu ops Kp R lt σ p S o env (some true))(b:x=false->MQ L m n mu ops Kp R lt σ p S o env (some false)):MQ L m n mu ops Kp R lt σ p S o env (some x):=by cases x with|true=>exact a rfl|false=>exact b rfl
@[simp] theorem R3{a}:uq L m n mu ops Kp R p dst env (.ok a σ)=gS L m mu ops n Kp p (bd env dst a) σ R:=propext YP
@[simp] theorem PI{c x}:uq L m n mu ops Kp R p dst env (.ig c x)=(c/\uq L m n mu ops Kp R p dst env x):=propext YP
@[simp] theorem Q9{c}:uq L m n mu ops Kp R p dst env (.new σ c)=rO L m n mu ops Kp R p dst env σ c:=propext YP
@[simp] theorem Q'{x}:uq L m n mu ops Kp R p dst env (.opt x σ)=RZ L m n mu ops Kp R p dst env σ x:=propext YP
@[simp] theorem Ra{a}:RZ L m n mu ops Kp R p dst env σ (some a)=gS L m mu ops n Kp p (bd env dst a) σ R:=propext YP
def rO.intro{c}(h:∀b,σ b=none->gS L m mu ops n Kp p (bd env dst (.ref b 0)) (σ.set b (.cells c)) R):rO L m n mu ops Kp R p dst env σ c:=h
@[simp] theorem R4{o}:OP L m n mu ops Kp R i p o env σ (some true)=(if oR L o=true then uq L m n mu ops Kp R p o.dst env (Aj L mu o env σ)else
   if uo o.op=true then M9 (P:=P) m o env σ (λa σ'=>aN P m ops n Kp p (bd env o.dst a) σ' R) Kp else iZ P m ops n Kp i env σ (λenv σ=>aN P m ops n Kp p env σ R)):=by unfold OP;rw[mR,nA];rfl
@[simp] theorem Rb{o}:OP L m n mu ops Kp R i p o env σ (some false)=gS L m mu ops n Kp p (bd env o.dst (.lit (.tuple #[]))) σ R:=by unfold OP;rw[mR,lU]
end
@[simp] theorem PJ{l c}(h:c.length=l.length):aH l 0 c=c:=by unfold aH;simp[h]
@[simp high] theorem DQ{l off v}(h:off<l.length):aH l off [v]=l.set off v:=by unfold aH;rw[List.set_eq_take_append_cons_drop,YG h];simp
attribute [simp] DL uQ ko vQ Aj oR vV uo M9 M8 DK Function.comp_def
def nC(P:abm)(t:TypeId)(name:String)(f:FuncId)(a a':AV):Prop:=∀k O v (K:FuncId × Value->ao->ai->Prop) Kp,V k v a->(∀r,V k r a'->K (f,r) k O)->dD P (method (P.types.size+Made.depth) t v name) k O K Kp
section
variable{P:abm}{m:Mo}{fid n:Nat}{ro:aaX}{hold:aaV}{s:St}{K:aaN}{k:abb}
def qv{name recv c a}:Go.invoke (.fn (.method name) c) (#[recv]++a)=callMethod recv name a:=by
 have b:(#[recv]++a)[0]?=some recv:=by grind
 have d:(#[recv]++a).extract 1 (#[recv]++a).size=a:=by simp_all
 simp only[Go.invoke,b,d]
def aa.invoke{ops i is o recv name args B}{t f:Nat}{a a' fn}(N:ops[i]?=some o)(C:o.op=.call ⟨.invoke recv name,args,B⟩)(hg:o.guard=none)(D:Oper.ok n o=true)
 (W:ak s.env recv=.kz t a) (X:nC P t name f a a') (Y:P.funcs[f]?=some fn) (hb:fn.body.isSome=true) (E:(fn.name==  "runtime.NumGoroutine")=false)
 (h:aB P m f (a'::args.toList.map (ak s.env)) s.σ (λr σ'=>match r with|.val x=>aa P m fid n ro hold (.inRegion ops is::k) {s with env:=bd s.env o.dst x,σ:=σ'} K|.panic v=>K (.panic v) {s with σ:=σ'})):
 aa P m fid n ro hold (.inRegion ops (i::is)::k) s K:=λF Q kk O tmps defs kind cs Z d R=>by
 have hw:bT ops n s.env o:=by unfold bT;simp_all
 refine T.ns (λw=>dH N (gx d.size d.env hw) (.inr λc e=>by simp_all) w) (dF ?_)
 have g:∀x∈o.op.operands,V kk (Frame.eval ⟨fid,tmps,.inRegion ops (i::is)::k,defs,.run,kind,ro⟩ x) (ak s.env x):=λx S=>by
  refine V.eval d.env d.size x ?_;simp only[Oper.ok,za,YK]at D
  grind
 have y:=g recv (by simp_all)
 rw[W]at y;have l:=Vs.ofArray (k:=kk) (ρ:=Frame.eval ⟨fid,tmps,.inRegion ops (i::is)::k,defs,.run,kind,ro⟩) (env:=s.env) (xs:=args) (λx S=>g x (by simp_all))
 generalize hq:Frame.eval _ recv=cf at y;cases y with
 | kz _ v _ H=>
   simp only[execOp,C,resolve,hq];refine af (ag ?_);rw[qv];unfold callMethod;simp only;refine af (bY ?_);refine af (X kk O v _ _ H λr I=>?_)
   simp only[callFunc];refine af (bY ?_);rw[Y];have J:fn.body.isNone=false:=by cases S:fn.body<;>simp_all
   simp only[E,J,LK,Rp];refine ag λ_=>⟨by simp,?_⟩
   have e:#[r]++args.map (Frame.eval ⟨fid,tmps,.inRegion ops (i::is)::k,defs,.run,kind,ro⟩)=(r::(args.map (Frame.eval ⟨fid,tmps,.inRegion ops (i::is)::k,defs,.run,kind,ro⟩)).toList).toArray:=by simp
   rw[e];refine h Q kk O _ ⟨fid,tmps,.inRegion ops (i::is)::k,defs,.run,kind,ro⟩ (fy s.rc cs) .normal (by simp) (.cons I ⟨by grind,λj v a y ha=>l.2 j v a (by grind) ha⟩) d.rel ?_ ?_
   . intro z A L U σ' b p q M
     obtain⟨u,e1,e2⟩:=d.put (fid:=fid) (ro:=ro) (rest:=is) (kk:=k) b N p q;show T P m Q z A (G (Frame.finish ⟨fid,tmps,.inRegion ops (i::is)::k,defs,.run,kind,ro⟩ L) (fy s.rc cs));rw[e1];exact M (by simpa[js,kB]using F) Q z A u defs kind cs Z e2 (R.mono b)
   intro z A L U σ' b p q M;exact R.panic z A tmps defs {s with σ:=σ'} _ L U b ⟨d.size,d.env.mono b,q,d.ds.mono b,d.rc.mono b⟩ p M
def bU{ops env o}(a:o.guard=none):bT ops n env o:=by unfold bT;simp_all
def aa.defer{ops i is o fo args a f first cap}(b:ro=none)(j:ops[i]?=some o)(c:o.op=.defer ⟨.value fo,args,a⟩)(l:o.guard=none)(d:Oper.ok n o=true)
 (e:ak s.env fo=.fn f first cap) (h:aa P m fid n ro hold (.inRegion ops is::k) {s with env:=bd s.env o.dst .cu,D:=.call f cap (first++args.toList.map (ak s.env))::s.D} K):aa P m fid n ro hold (.inRegion ops (i::is)::k) s K:=
 λg=>Go.defer b j c (bU l) d e (h (by simpa[js,kB]using g))
end
def Fv(F a:aba)(σ σ':ab):Prop:=∀b x,¬F b->σ b=some x->σ' b=some x/\¬a b
def bH:AV->aaX
 |.sl _ _ (.tok b _)=>some b
 |_=>none
def ab.off(σ:ab)(a:AV):ab:=match bH a with|some b=>σ.del b|none=>σ
def Tok.here{σ0 σ a kk es}(h:Tok σ0 σ a kk es):Tok (σ.off a) σ a kk es/\σ0.Le (σ.off a):=by
 obtain⟨d,g⟩:=h;rcases g with⟨rfl,rfl⟩|rfl|⟨b,e,k,rfl,i⟩
 . exact⟨⟨ab.le_refl _,.inl ⟨rfl,rfl⟩⟩,d⟩
 . exact⟨⟨ab.le_refl _,.inr (.inl rfl)⟩,d⟩
 refine⟨⟨λc x f=>?_,.inr (.inr ⟨b,e,by simp[ab.off,bH,ab.del],rfl,i⟩)⟩,λc x f=>?_⟩
 . simp only[ab.off,bH,ab.del]at f
   simp_all
 have j:c≠b:=λe=>by simp_all
 simp only[ab.off,bH,ab.del,j,Rp];exact d c x f
def Tok.base{σ0 c σ a kk es}(h:Tok c σ a kk es)(d:σ0.Le c):Tok σ0 σ a kk es:=by
 obtain⟨f,g⟩:=h;refine⟨ab.le_trans d f,?_⟩;rcases g with h|h|⟨b,e,k,i,j⟩
 . exact .inl h
 . simp_all
 refine .inr (.inr ⟨b,e,?_,i,j⟩);cases hb:σ0 b with
 |none=>rfl
 |some x=>have:=d b x hb;simp_all
def Tok.beside{σ0 σ a kk es}(h:Tok σ0 σ a kk es){b x}(hb:σ0 b=none)(ht:bH a≠some b):Tok σ0 (σ.set b x) a kk es:=by
 obtain⟨d,f⟩:=h;refine⟨ab.fW d hb,?_⟩;rcases f with h|h|⟨c,e,g,rfl,i⟩
 . exact .inl h
 . simp_all
 refine .inr (.inr ⟨c,e,g,rfl,?_⟩);have j:c≠b:=λe=>ht (by simp[bH,e])
 rw[ab.ah _ _ j];exact i
def Tok.bb{σ0 σ a kk es}(h:Tok σ0 σ a kk es){b}(hb:bH a=some b):σ0 b=none/\∃e,σ b=some (.tail e):=by
 obtain⟨f,d⟩:=h;rcases d with⟨rfl,rfl⟩|rfl|⟨c,e,g,rfl,i⟩
 . cases hb
 . cases hb
 simp only[bH,kn]at hb
 simp_all
def Tok.cells{σ0 σ a kk es}(h:Tok σ0 σ a kk es):a.cells=[a]/\a.flat=true:=by
 obtain⟨_,b⟩:=h;rcases b with⟨rfl,rfl⟩|rfl|⟨c,e,d,rfl,f⟩<;>exact⟨rfl,rfl⟩
def ab.fK{σ:ab}{a b}(h:bH a≠some b):σ.off a b=σ b:=by
 unfold ab.off;cases d:bH a with
 |none=>rfl
 | some c=>
   have:b≠c:=λe=>h (by rw[d,e])
   simp[ab.del,this]
def eo:AV->aaX
 |.gq b _ _ _=>some b
 |_=>none
def ab.Al(σ:ab)(a:AV):ab:=match eo a with|some b=>σ.del b|none=>σ
def ab.pR{σ:ab}{a b}(h:eo a≠some b):σ.Al a b=σ b:=by
 unfold ab.Al;cases d:eo a with
 |none=>rfl
 | some c=>
   have:b≠c:=λe=>h (by rw[d,e])
   simp[ab.del,this]
def ab.Nc{σ:ab}{a}:(σ.Al a).Le σ:=λb x h=>by
 unfold ab.Al at h;cases d:eo a with
 |none=>rw[d]at h;exact h
 | some c=>
   rw[d]at h;simp only[ab.del]at h;split at h
   . cases h
   exact h
def cD.cells{σ0 σ a kk es}(h:cD σ0 σ a kk es):a.cells=[a]/\a.flat=true:=by
 obtain⟨_,b⟩:=h;rcases b with⟨_,rfl|rfl⟩|⟨c,cap,rest,rfl,_⟩<;>exact⟨rfl,rfl⟩
def cD.lf{σ0 σ a kk es}(h:cD σ0 σ a kk es){b}(hb:eo a=some b):σ0 b=none/\∃l,σ b=some (.cells l):=by
 obtain⟨g,d⟩:=h;rcases d with⟨_,rfl|rfl⟩|⟨c,cap,rest,rfl,e,_,_,f,_⟩
 . cases hb
 . cases hb
 simp only[eo,kn]at hb;subst hb;exact⟨e,_,f⟩
def cD.here{σ0 σ a kk es}(h:cD σ0 σ a kk es):cD (σ.Al a) σ a kk es/\σ0.Le (σ.Al a):=by
 obtain⟨d,e⟩:=h;refine⟨⟨ab.Nc,?_⟩,λc x f=>?_⟩
 . rcases e with h|⟨b,cap,rest,rfl,m,i,j,k,l⟩
   . exact .inl h
   exact .inr ⟨b,cap,rest,rfl,by simp[ab.Al,eo,ab.del],i,j,k,l⟩
 by_cases g:eo a=some c
 . have:=(cD.lf ⟨d,e⟩ g).1
   rw[f]at this;cases this
 rw[ab.pR g];exact d c x f
def cD.base{σ0 c σ a kk es}(h:cD c σ a kk es)(d:σ0.Le c):cD σ0 σ a kk es:=by
 obtain⟨e,f⟩:=h;refine⟨ab.le_trans d e,?_⟩;rcases f with h|⟨b,cap,rest,rfl,g,i,j,k,l⟩
 . exact .inl h
 refine .inr ⟨b,cap,rest,rfl,?_,i,j,k,l⟩;cases hb:σ0 b with
 |none=>rfl
 |some x=>have:=d b x hb;rw[g]at this;cases this
def cD.keep{σ0 σ d σ' a kk es}(h:cD σ0 σ a kk es)(e:d.Le σ')(hb:∀b,eo a=some b->σ' b=σ b/\d b=none):cD d σ' a kk es:=by
 obtain⟨l,f⟩:=h;refine⟨e,?_⟩;rcases f with h|⟨c,cap,rest,rfl,m,g,i,j,k⟩
 . exact .inl h
 exact .inr ⟨c,cap,rest,rfl,(hb c rfl).2,g,i,by rw[(hb c rfl).1];exact j,k⟩
inductive Wl:abj->abj->Prop
 |nil:Wl [] []
 |cons {a a':AV}{l l':abj}:a.W a'->Wl l l'->Wl (a::l) (a'::l')
def Wl.len{l a}(h:Wl l a):l.length=a.length:=by
 induction h with
 |nil=>rfl
 |cons _ _ b=>simp[b]
def Wl.at{l c}(h:Wl l c):∀{i:Nat}{a'},c[i]?=some a'->∃a,l[i]?=some a/\a.W a':=by
 induction h with
 |nil=>simp_all
 |@cons a b l c d e f=>grind
def Vs.Ja{k c l e}(h:Vs k c l)(f:Wl l e):Vs k c e:=⟨by rw[h.1,f.len],λi v a g ha=>by obtain⟨b,hb,d⟩:=f.at ha;exact d k v (h.2 i v b g hb)⟩
def aB.Ja{P m f args args' σ b}(h:aB P m f args' σ b)(d:Wl args args'):aB P m f args σ b:=λQ k O a c rest kind e g i j l=>h Q k O a c rest kind e (g.Ja d) i j l
def dQ{P m f fn args args' σ b}(c:P.funcs[f]?=some fn)(hb:fn.body.isSome=true)(a:(fn.name==  "runtime.NumGoroutine")=false)(d:Wl args args')(h:aB P m f args' σ b):
 cX P m (.fn (.func f) [] []) args σ b:=au c hb a (h.Ja d)
def ao.Jb(k:ao)(r:Nat)(c:aaS)(f:Nat->aaR):ao:={k with cell:=λb j=>if b=r/\f j=none then c[j]? else k.cell b j}
def DR{k O r c e f}(p:O r=some (.obj (.cells c e (0,0))))(B:k.sh r=some (e,c.size))(C:∀i v,f i=some v->c[i]?=some v):km k O (k.Jb r c f) (O.set r (.part f)):=λw h=>by
 have y:=h.obj _ _ p
 have D:∀j,k.cell r j=none:=λj=>by
  cases q:k.cell r j with
  |none=>rfl
  |some v=>exact(h.apart _ _ _ q (.inl ⟨_,p⟩)).elim
 have t:k.Le (k.Jb r c f):=⟨λb i v l=>by
  have:¬(b=r/\f i=none):=λx=>by simp_all
  simpa[ao.Jb,this]using l,λ_ _ h=>h⟩
 have n:∀b,b≠r->(O.set r (.part f)) b=O b:=λb hb=>by simp[ai.set,hb]
 have d:(O.set r (.part f)) r=some (.part f):=by simp[ai.set]
 refine⟨⟨λb i v l z=>?_,λb i v l=>?_,h.sh,λb o hb=>?_,λb m hb=>?_,λb g hb=>?_⟩,⟨t,YF _,λ_ _ _=>rfl,λ_ _ _ _ c _ h=>⟨c,h,rfl,λ_ _=>rfl⟩,λ_ _ _ _ c _ h=>⟨c,h,rfl,λ_ _=>rfl⟩,λ_ _=>rfl,λb x A=>?_,λb i v l=>?_,λ_ _ h=>.inl h,by simp,rfl,rfl,rfl,by simp,λb g hb=>?_⟩⟩
 . by_cases hb:b=r
   . subst hb
     rcases z with⟨o,s⟩|⟨m,s,E⟩|⟨g,s,E⟩
     . simp_all
     . simp_all
     rw[d]at s;cases s;simp only[ao.Jb,true_and]at l
     simp_all
   have u:k.cell b i=some v:=by simpa[ao.Jb,hb]using l
   exact h.apart b i v u (by simpa[aR,ai.set,hb]using z)
 . by_cases hb:b=r/\f i=none
   . obtain⟨rfl,F⟩:=hb
     simp only[ao.Jb,F,and_self,YD]at l;simp[World.cell?,y,l]
   exact h.cell b i v (by simpa only[ao.Jb,hb,Rp]using l)
 . by_cases a:b=r
   . simp_all
   exact h.obj b o (by simp_all)
 . by_cases a:b=r
   . simp_all
   exact h.tail b m (by simp_all)
 . by_cases a:b=r
   . subst a;rw[d]at hb;cases hb
     exact⟨c,e,y,B,C⟩
   exact h.part b g (by simp_all)
 . by_cases a:b=r
   . subst a;exact .inl ⟨_,p,trivial⟩
   rw[n b a]at A;exact .inl ⟨x,A,.refl x⟩
 . by_cases hb:b=r/\f i=none
   . obtain⟨rfl,_⟩:=hb;exact .inr (.inl (.inl ⟨_,p⟩))
   exact .inl (by simpa only[ao.Jb,hb,Rp]using l)
 grind
section
variable{P:abm}{m:Mo}{Q:aaG}{k:ao}{O:ai}{g:abd}{σ:ab}
def T.part{r c e f}(d:O r=some (.obj (.cells c e (0,0))))(p:∀i v,f i=some v->c[i]?=some v)(b:g.status=.running)
 (h:∀k' O',k.Le k'->k'.sh r=some (e,c.size)->(∀j v,f j=none->c[j]?=some v->k'.cell r j=some v)->O'=O.set r (.part f)->T P m Q k' O' g):T P m Q k O g:=by
 by_cases a:∃w,Sat k O w
 . obtain⟨w,l⟩:=a
   have q:=(jJ (k:=k) d w l).2.le;have o:=DR (k:=k.dX r (e,c.size)) (f:=f) d (by simp[ao.dX]) p;have n:(k.dX r (e,c.size)).Le ((k.dX r (e,c.size)).Jb r c f):=(o w (jJ (k:=k) d w l).1).2.le;exact .ghost (jJ d) (.ghost o (h _ _ (q.trans n) (by simp[ao.Jb,ao.dX]) (λj v s t=>by simp[ao.Jb,s,t]) rfl))
 exact .step (λ_ _ _=>False) b (λ_ _ _ h=>h.elim) λw l=>absurd ⟨w,l⟩ a
def T.OQ{b l hole f}(r:Rel k O σ)(hb:σ b=some (.cells l))(w:∀i v,f i=some v->l[i]?=some (.lit v))(E:∀i,f i=none↔i∉hole)(o:g.status=.running)
 (h:∀k' O',k.Le k'->(∀off,V k' (.pointer (some ⟨b,off,none⟩)) (.kp b l hole off))->Rel k' O' (σ.set b (.part f))->T P m Q k' O' g):T P m Q k O g:=by
 obtain⟨y,x,z⟩:=r.1 b _ hb (by simp);cases z with
 | cells c e _ F s A=>
   refine T.part (f:=f) x (λi v B=>?_) o λk' O' n p G q=>?_
   . have C:=w i v B
     have d:i<c.size:=by grind
     have t:=s i c[i] _ (by simp[d]) C;have:c[i]=v:=by generalize c[i]=u at t;cases t;rfl
     grind
   refine h k' O' n (λoff=>.kp b off c.size e l hole (λj=>c.getD j undef) p (by omega) (λj H D=>?_) (λj a D ha=>?_)) ?_
   . have d:j<c.size:=by omega
     refine⟨?_,?_⟩
     . simp_all
     simp only[Array.getD,d,dif_pos];exact A j _ (by simp[d])
   . have d:j<c.size:=by grind
     simp only[Array.getD,d,dif_pos];exact(s j _ a (by simp[d]) ha).mono n
   rw[q];exact(r.mono n).set (.part f)
def aB.share{f args j KF0}(h:aB P m f args σ KF0)
 (u:∀r σ',KF0 r σ'->j r σ'\/∃b l hole F,r=.val (.ref b 0)/\σ' b=some (.cells l)/\(∀i v,F i=some v->l[i]?=some (.lit v))/\(∀i,F i=none↔i∉hole)/\j (.val (.kp b l hole 0)) (σ'.set b (.part F))):aB P m f args σ j:=by
 intro Q k O a c rest kind w x y z H;refine h Q k O a c rest kind w x y (λA B C D σ' d s t n=>?_) (λA B C D σ' d s t n=>?_)
 . rcases u _ _ n with n|⟨b,l,hole,F,e,hb,E,G,o⟩
   . grind
   cases e;cases s;exact T.OQ t hb E G (by cases kind<;>rfl) λI J g p q=>z _ _ _ _ _ (d.trans g) (p 0) q o
 grind
end
structure GC(P:abm)(mt kt et:Nat){κ:Type}[BEq κ](ka:κ->AV)(kv:κ->Value):Prop where
 hm:P.underlying mt=some (.map kt et)
 hk:∃fs,P.underlying kt=some (.struct fs)
 val:∀{k v n},V k v (ka n)->v=kv n
 Dv:∀{k O Kp b n K},K () k O->dD P (Instr.checkKey b 10000 kt (kv n)) k O K Kp
 eq:∀{k O Kp a b K},K (a==b) k O->dD P (Op.equal kt (kv a) (kv b)) k O K Kp
section
variable{κ:Type}[BEq κ]{ka:κ->AV}{kv:κ->Value}
def oT(ka:κ->AV)(l:List (κ × AV)):sT:=.map (l.map λp=>(ka p.1,p.2))
def dc(l:List (κ × AV))(n:κ):abc:=(l.find? λp=>n==p.1).map (·.2)
variable{P:abm}(L:iT P){k:ao}{O:ai}{Kp:aaH}{mt kt et:Nat}
def de{K}{t:Nat}{d}(a:P.underlying t=some d)(h:K d k O):dD P (underlying t) k O K Kp:=by unfold underlying;refine af (bY ?_);rw[a];exact h
def oi(M:GC P mt kt et ka kv){n K}:∀  es   l   j ,es.length=l.length->(∀(j:Nat) e p,es[j]?=some e->l[j]?=some p->V k e.key (ka p.1)/\V k e.val p.2) ->
 (∀a v j,dc l n=some a->V k v a->K (some (j,v)) k O)->(dc l n=none->K none k O)->dD P (Instr.findAsking kt (kv n) es j) k O K Kp
 |[],[],j,_,_,_,h=>by rw[Instr.findAsking];exact ag (h rfl)
 | e ::es,p::l,j,o,d,b,f=>by
   obtain⟨g,i⟩:=d 0 e p rfl rfl;rw[Instr.findAsking,M.val g];refine af (M.eq ?_);cases c:(n==p.1)with
   |true=>simp only[YD];exact ag (b p.2 _ _ (by simp[dc,c]) i)
   | false=>
     simp only[LK,Rp];have m:dc (p::l) n=dc l n:=by simp[dc,c]
     rw[m]at b f;exact oi M es l (j+1) (by simp_all) (λj e p q c=>d (j+1) e p (by simp_all) (by simp_all)) b f
 |[],_::_,_,h,_,_,_=>by simp at h
 |_::_,[],_,h,_,_,_=>by simp at h
def rP(M:GC P mt kt et ka kv){n K es l}(b:es.length=l.length)(d:∀(j:Nat) e p,es[j]?=some e->l[j]?=some p->V k e.key (ka p.1)/\V k e.val p.2)
 (f:∀a v j,dc l n=some a->V k v a->K (some (j,v)) k O) (c:dc l n=none->K none k O):dD P (Instr.findKey kt (kv n) es) k O K Kp:=by
 obtain⟨fs,g⟩:=M.hk;unfold Instr.findKey;refine af (de g ?_);cases es with
 | nil=>
   cases l with
   |nil=>exact ag (c rfl)
   |cons p l=>simp at b
 | cons e es=>
   have:Instr.findNow (.struct fs) (kv n) (e::es) 0=none:=by simp[Instr.findNow,Instr.sameNow]
   rw[this];exact oi M _ l 0 b d f c
omit [BEq κ] in
def Fw{σ}(c:Rel k O σ){b l}(hb:σ b=some (oT ka l)):∃es clock,O b=some (.obj (.map es clock))/\es.toList.length=l.length/\∀(j:Nat) e p,es.toList[j]?=some e->l[j]?=some p->V k e.key (ka p.1)/\V k e.val p.2:=by
 obtain⟨x,d,a⟩:=c.1 b _ hb (by simp[oT]);unfold oT at a;cases a with
 | map es clock m f g=>
   refine⟨es,clock,d,by simpa using f,λj e p h i=>?_⟩;exact g j e (ka p.1,p.2) (by simpa using h) (by simp[i])
variable{o:Oper}{env:Env}{σ:ab}{K Kq:aaP}
def vY(M:GC P mt kt et ka kv){p x m b l n two}(y:o.op=.lookup mt x m two)(q:L.tt et=some p)(z:ak env x=.map b)(hi:ak env m=ka n)(hb:σ b=some (oT ka l))
 (e:K (if two then .cH [(dc l n).getD (kX p.zero),.lit (.bool (dc l n).isSome)]else(dc l n).getD (kX p.zero)) σ):aJ P o env σ K Kq:=
 aJ.val (s:=λf=>Instr.lookup mt (f x) (f m) two) (λf=>by simp[execOp,y]) λk O f g h=>by
  have r:=g x (by simp_all);have w:=g m (by simp_all);rw[z]at r;rw[hi]at w;rw[M.val w];generalize f x=F at r;cases r;obtain⟨es,clock,A,B,C⟩:=Fw h hb;unfold Instr.lookup;refine af (de M.hm ?_);simp only;refine af (s:=getObj b) ⟨_,A,rfl,ag ?_⟩;refine af (ag ?_);refine af (M.Dv ?_);refine af (rP M B C (λa v j t D=>?_) (λt=>?_))
  . simp only
    refine af (ag ?_);rw[t]at e;cases two with
    |false=>exact ag (.here ⟨.refl k,_,σ,D,h,e⟩)
    |true=>
    refine ag (.here ⟨.refl k,_,σ,.cH _ _ rfl (λi u E d c=>?_),h,e⟩)
    match i with
    |0=>simp_all
    |1=>simp at d c;subst d;subst c;exact .lit _
    |i+2=>simp at c
  simp only;refine af (cM L q ?_);refine af (ag ?_);rw[t]at e;cases two with
  |false=>exact ag (.here ⟨.refl k,_,σ,.kX k _,h,e⟩)
  |true=>
  refine ag (.here ⟨.refl k,_,σ,.cH _ _ rfl (λi u E d c=>?_),h,e⟩)
  match i with
  |0=>simp at d c;subst d;subst c;exact .kX k _
  |1=>simp at d c;subst d;subst c;exact .lit _
  |i+2=>simp at c
def qw(M:GC P mt kt et ka kv){x f y b l n a}(r:o.op=.mapUpdate mt x f y)(t:ak env x=.map b)(hi:ak env f=ka n)(u:ak env y=a)(hb:σ b=some (oT ka l))(F:dc l n=none)
 (w:K (.lit undef) (σ.set b (oT ka (l++[(n,a)])))):aJ P o env σ K Kq:=λk O d c m=>by
 have g:=c x (by simp_all);have h:=c f (by simp_all);have z:=c y (by simp_all);rw[t]at g;rw[hi]at h;rw[u]at z;have A:execOp d o=(do Instr.mapUpdate mt (d x) (d f) (d y);pure .skip):=by simp[execOp,r]
 rw[A];have i:=h;rw[M.val h]at i ⊢;generalize d x=G at g;cases g;obtain⟨es,clock,q,B,C⟩:=Fw m hb;unfold Instr.mapUpdate;refine af (af (de M.hm ?_));simp only;refine af (s:=getObj b) ⟨_,q,rfl,ag ?_⟩;simp only;refine af (M.Dv ?_);refine af (rP M B C (λa v j H I=>by simp_all) (λ_=>?_));simp only;refine⟨⟨_,q,rfl⟩,rfl,ag ?_⟩;refine⟨undef,.inr ⟨rfl,rfl⟩,.here ⟨.refl k,.lit undef,_,.lit _,m.set (.map _ _ _ ?_ (λj e p D E=>?_)),w⟩⟩
 . simp_all
 rw[Array.getElem?_push]at D;rw[YS]at E
 grind
omit [BEq κ] in
def uu{mt:Nat}(ka:κ->AV)(f:o.op=.makeMap mt none)(g:∀b,σ b=none->K (.map b) (σ.set b (oT ka []))):aJ P o env σ K Kq:=
 aJ.val (s:=λc=>Instr.makeMap mt none) (λc=>by simp[execOp,f]) λk O c h d=>by
  unfold Instr.makeMap;simp only;refine af (s:=newObj _) ⟨rfl,λr a=>ag ?_⟩;exact .here ⟨.made a.2.2,_,_,.map r,(d.mono (.made a.2.2)).set (.map _ _ _ rfl λj e p i=>by simp at i),g r (d.isNone a.1 a.2.2)⟩
end
structure Jc(P:abm)(mt kt et ft:Nat)  kd :Prop where
 hm:P.underlying mt=some (.map kt et)
 hk:∃f,P.underlying kt=some (.struct #[f])/\(f.name≠ "_")/\f.type=ft/\f.offset=0
 hf:P.underlying ft=some (.int kd)
 hs:P.stoodInHeld kt=false
structure BM(P:abm)(mt kt et ft:Nat)  kd :Prop where
 hm:P.underlying mt=some (.map kt et)
 hk:∃f g,P.underlying kt=some (.struct #[f,g])/\(f.name≠ "_"/\g.name≠ "_")/\(f.type=ft/\g.type=ft)/\f.offset=0/\g.offset=1
 hf:P.underlying ft=some (.int kd)
 hs:P.stoodInHeld kt=false
def GD(kd:IntKind)(n:Int):AV:=.agg [.lit (.int kd n)]
def oU(kd:IntKind)(p:Int × Int):AV:=.agg [.lit (.int kd p.1),.lit (.int kd p.2)]
abbrev mapA(kd:IntKind)(l:aaL):sT:=oT (GD kd) l
abbrev Fx(l:aaL)(n:Int):abc:=dc l n
section
variable{P:abm}(L:iT P){k:ao}{O:ai}{Kp:aaH}{mt kt et ft:Nat}{kd:IntKind}
def gz{K i v c o}(ht:L.tt ft=some i)(ha:i.agg=false)(a:c[o]?=some v)(h:K v k O):dD P (part ft c o) k O K Kp:=by unfold part;refine af (pL L ht ?_);rw[ha,a];exact ag h
def V.GD{k:ao}{v:Value}{kd:IntKind}{n:Int}(h:V k v (GD kd n)):v=.agg #[.int kd n]:=by
 cases h with
 | agg c l a b=>
   obtain⟨c⟩:=c
   match c,a with
   |[x],_=>have:=b 0 x (.lit (.int kd n)) rfl rfl;cases this;rfl
def V.oU{k:ao}{v:Value}{kd:IntKind}{n:Int × Int}(h:V k v (oU kd n)):v=.agg #[.int kd n.1,.int kd n.2]:=by
 cases h with
 | agg c l b a=>
   obtain⟨c⟩:=c
   match c,b with
   |[x,y],_=>have d:=a 0 x (.lit (.int kd n.1)) rfl rfl;have e:=a 1 y (.lit (.int kd n.2)) rfl rfl;cases d;cases e;rfl
variable{i:TI}(ht:L.tt ft=some i)(ha:i.agg=false)
include ht ha
theorem Jc.key(M:Jc P mt kt et ft kd):GC P mt kt et (cr.GD kd) (λn=>.agg #[.int kd n]) where
 hm:=M.hm
 hk:=let ⟨f,h,_⟩:=M.hk;⟨_,h⟩
 val:=V.GD
 Dv {k O Kp b n K} h:=by obtain⟨f,d,e,g,i⟩:=M.hk;show dD P (Instr.checkKey b (9998+1+1) kt (.agg #[.int kd n])) k O K Kp;rw[Instr.checkKey];refine af (de d ?_);simp only[aap,aah,aao];rw[YG e,g,i];refine af (af (af (gz L ht ha rfl ?_)));rw[Instr.checkKey];refine af (af (de M.hf ?_));exact ag (ag (ag (ag h)))
 eq {k O Kp a b K} h:=by
  obtain⟨f,d,e,g,i⟩:=M.hk;show dD P (Op.equalIn (9998+1+1) kt (.agg #[.int kd a]) (.agg #[.int kd b])) k O K Kp;rw[Op.equalIn];refine af (de d ?_);refine af (bY ?_);rw[M.hs];simp only[LK,Rp,aap,aah,aao];rw[YG e,g,i];refine af (af (af (gz L ht ha (v:=.int kd a) rfl ?_)));refine af (gz L ht ha (v:=.int kd b) rfl ?_);refine af ?_;rw[Op.equalIn];refine af (de M.hf ?_);simp only[YD];refine ag ?_;cases c:(a==b)with
  |true=>rw[c]at h;exact ag (ag (ag h))
  |false=>rw[c]at h;exact ag (ag (ag h))
theorem BM.key(M:BM P mt kt et ft kd):GC P mt kt et (cr.oU kd) (λn=>.agg #[.int kd n.1,.int kd n.2]) where
 hm:=M.hm
 hk:=let ⟨f,g,h,_⟩:=M.hk;⟨_,h⟩
 val:=V.oU
 Dv {k O Kp b n K} h:=by
  obtain⟨f,g,m,⟨o,c⟩,⟨p,d⟩,q,i⟩:=M.hk;show dD P (Instr.checkKey b (9998+1+1) kt (.agg #[.int kd n.1,.int kd n.2])) k O K Kp;rw[Instr.checkKey];refine af (de m ?_);simp only[aap,aah,aao];rw[YG o,YG c,p,q,d,i];refine af (af (af (gz L ht ha rfl ?_)));rw[Instr.checkKey];refine af (af (de M.hf ?_));refine ag (ag ?_);refine af (af (gz L ht ha rfl ?_));refine af (af (de M.hf ?_));exact ag (ag (ag (ag h)))
 eq {k O Kp a b K} h:=by
  obtain⟨f,g,m,⟨o,c⟩,⟨p,d⟩,q,i⟩:=M.hk;show dD P (Op.equalIn (9998+1+1) kt (.agg #[.int kd a.1,.int kd a.2]) (.agg #[.int kd b.1,.int kd b.2])) k O K Kp;rw[Op.equalIn];refine af (de m ?_);refine af (bY ?_);rw[M.hs];simp only[LK,Rp,aap,aah,aao];rw[YG o,YG c,p,q,d,i];refine af (af (af (gz L ht ha (v:=.int kd a.1) rfl ?_)));refine af (gz L ht ha (v:=.int kd b.1) rfl ?_);refine af ?_;rw[Op.equalIn];refine af (de M.hf ?_);simp only[YD];refine ag ?_;have e:(a==b)=(a.1==b.1 && a.2==b.2):=rfl;rw[e]at h;cases j:(a.1==b.1)with
  |false=>rw[j]at h;exact ag (ag (ag h))
  | true=>
    rw[j]at h;refine ag ?_;refine af (af (gz L ht ha (v:=.int kd a.2) rfl ?_));refine af (gz L ht ha (v:=.int kd b.2) rfl ?_);refine af ?_;refine af (de M.hf ?_);simp only[YD];refine ag ?_;cases l:(a.2==b.2)with
    |true=>rw[l]at h;exact ag (ag (ag h))
    |false=>rw[l]at h;exact ag (ag (ag h))
end
section
variable{P:abm}(L:iT P){o:Oper}{env:Env}{σ:ab}{K:aaP}{Kp:aaP}
def DT{i d}(h:dv P i d=true)(a:i.kind=.iface):∃ms,d=.interface ms:=by cases d<;>simp_all [dv]
def fX{op}{t z:Nat}{x i isNil}(A:o.op=.binOp op t x (.const .nilIface) z)(ht:L.tt t=some i)(B:i.kind=.iface)
 (C:(ak env x=.lit .nilIface/\isNil=true)\/(∃d a,ak env x=.kz d a)/\isNil=false){b}(l:(op=.eql/\b=isNil)\/(op=.neq/\b=!isNil)) (D:K (.lit (.bool b)) σ):aJ P o env σ K Kp:=
 aJ.val (s:=λc=>do eqGuard op t x (.const .nilIface) (c x) (c (.const .nilIface));binOp op t (c x) (c (.const .nilIface))) (λc=>by simp[execOp,A]) λk O c m E=>by
  have n:=m x (by simp_all)
  have q:=m (.const .nilIface) (by simp_all)
  have F:c (.const .nilIface)=.nilIface:=by simp only[ak]at q;generalize c (.const .nilIface)=w at q;cases q;rfl
  have f:(c x=.nilIface/\isNil=true)\/∃d v,c x=.iface d v/\isNil=false:=by
   rcases C with⟨e,h⟩|⟨⟨d,a,e⟩,h⟩<;>rw[e]at n
   . generalize c x=w at n;cases n;simp_all
   . generalize c x=w at n;cases n;simp_all
  rw[F]
  have G:eqGuard op t x (.const .nilIface) (c x) .nilIface=pure ():=by rcases f with⟨f,_⟩|⟨d,v,f,_⟩<;>rw[f]<;>rcases l with⟨rfl,_⟩|⟨rfl,_⟩<;>simp[eqGuard]
  rw[G];refine af (ag ?_)
  have fin:∀{s:Sem Value},s=(do pure (.bool b))->dD P s k O (λv p r=>lQ p r λu H=>k.Le u/\∃a g,V u v a/\Rel u H g/\K a g) (λv p r=>k.Le p/\∃a g,V p v a/\Rel p r g/\Kp a g):=λe=>by rw[e];exact ag (.here ⟨.refl k,_,σ,.lit _,E,D⟩)
  have j:∀(R:Bool->ao->ai->Prop) (y:aaH),R isNil k O->dD P (Op.equal t (c x) .nilIface) k O R y:=λR y I=>by
   show dD P (Op.equalIn (9999+1) t (c x) .nilIface) k O R y;rw[Op.equalIn];refine af (aD L ht λd _ hd=>?_)
   obtain⟨ms,rfl⟩:=DT hd B
   rcases f with⟨f,rfl⟩|⟨d,v,f,rfl⟩<;>rw[f]<;>exact ag I
  rcases f with⟨f,J⟩|⟨d,v,f,J⟩<;>rw[f]at j ⊢<;>rcases l with⟨rfl,rfl⟩|⟨rfl,rfl⟩
  . exact af (s:=Op.equal t .nilIface .nilIface) (j _ _ (fin rfl))
  . exact af (s:=Op.equal t .nilIface .nilIface) (j _ _ (fin rfl))
  . exact af (s:=Op.equal t (.iface d v) .nilIface) (j _ _ (fin rfl))
  . exact af (s:=Op.equal t (.iface d v) .nilIface) (j _ _ (fin rfl))
end
def oV(k:ao)(O:ai)(B:Nat)(a:Touch):Prop:=
 match a.loc with
 |.cell b=>b.block<B/\¬aR O b.block b.off/\(k.cell b.block b.off=none\/a.write=false)
 |.obj r=>r<B/\∀o,O r≠some (.obj o)
 |_=>True
def ao.bot:ao:=⟨λ_ _=>none,λ_=>none⟩
def ai.bot:ai:=λ_=>none
def ao.join(k k':ao):ao:=⟨λb i=>match k.cell b i with|some v=>some v|none=>k'.cell b i,λb=>match k.sh b with|some s=>some s|none=>k'.sh b⟩
def ao.rQ(k k':ao):k.Le (k.join k'):=⟨λb i v h=>by simp[ao.join,h],λb s h=>by simp[ao.join,h]⟩
def ao.vZ{k k' O O' w}(h:Sat k O w)(a:Sat k' O' w):k'.Le (k.join k'):=⟨λb i v c=>by
 simp only[ao.join];cases q:k.cell b i with
 |none=>exact c
 | some u=>
   have:=h.cell b i u q;rw[a.cell b i v c]at this
   simp_all,λb s d=>by
 simp only[ao.join];cases q:k.sh b with
 |none=>exact d
 | some u=>
   have:=h.sh b u q;rw[a.sh b s d]at this
   simp_all⟩
def ao.mT{k k':ao}{b i v}(h:(k.join k').cell b i=some v):k.cell b i=some v\/k'.cell b i=some v:=by
 simp only[ao.join]at h
 grind
def ao.Fy{k k':ao}{b s}(h:(k.join k').sh b=some s):k.sh b=some s\/k'.sh b=some s:=by
 simp only[ao.join]at h
 grind
def aR.own{O b i}(h:aR O b i):∃x,O b=some x:=by rcases h with⟨o,h⟩|⟨n,h,_⟩|⟨f,h,_⟩<;>exact⟨_,h⟩
def dK{O b i}(h:O b=none):¬aR O b i:=λa=>by
 obtain⟨x,c⟩:=a.own
 simp_all
structure Base where
 Shun:Loc->Prop
 N0:Nat
 lk:Nat
 la:Addr
 W0:World
def GF(Z:Base)(t:Trace)(i n:Nat):Prop:=if i=Z.lk then n<Z.N0\/∃p,Z.N0<=p/\t.act? p=some (.mark (.releaseMerge Z.la))/\t.heard p/\Before t n p else Knows t i n
def GF.app{Z t i n}(h:GF Z t i n)  u :GF Z (t++u) i n:=by
 unfold GF at *;split at h
 . next e=>
   rw[YG e];rcases h with h|⟨p,c,a,d,f⟩
   . exact .inl h
   have b:=lt_of_act? a;exact .inr ⟨p,c,by rw[act?_old b];exact a,(heard_old b).2 d,f.app u⟩
 next e=>rw[YA e];exact h.app u
def nD{Z t i n}(hi:i≠Z.lk):GF Z t i n↔Knows t i n:=by unfold GF;simp_all
def Uj(Z:Base)(t:Trace)(i:Nat)(k:ao)(O:ai)(B:Nat):Prop:=∀n a,touchAt t n=some a->a.loc.isMemory=true->GF Z t i n\/oV k O B a
structure cq  Z  (kk:abl) (OO:abk) (J M:aba)  w   t :Prop where
 sat:∀i,Sat (kk i) (OO i) w
 jb:∀i j b x,i≠j->OO i b=some x->OO j b=none
 mU:∀i j b n v,i≠j->(kk j).cell b n=some v -> ¬aR (OO i) b n
 Am:∀i,Uj Z t i (kk i) (OO i) w.heap.size
 clean:∀said,¬Race said t
 seen:∀op∈t,op.act.low w.heap.size
 acc:∀n a,touchAt t n=some a->a.loc.isMemory=true->Knows t 0 n\/(∃j,J j/\Knows t j n)\/(∃p,M p/\Before t n p)\/(Z.Shun a.loc/\a.kind=.atomic/\(t.counts n->n<Z.N0))
 n0:Z.N0<=t.size
 v3:∀n g,n<Z.N0->t.g? n=some g->g≠0->t.counts n->∃j,t.g? j=some 0/\HappensBefore t n j
 lg:∀a,Z.Shun (.cell a)->a.block<w.heap.size/\∀i,¬aR (OO i) a.block a.off/\(kk i).cell a.block a.off=none
 om:∀r,Z.Shun (.obj r)->r<w.heap.size/\∀i o,OO i r≠some (.obj o)
 yj:vw Z.W0 w
 mine:∀i b x,OO i b=some x->Z.W0.heap.size<=b
def bP{α:Type}(f:Nat->α)(i:Nat)(x:α):Nat->α:=λj=>if j=i then x else f j
def an{α}  f   i  (x:α):bP f i x i=x:=by simp[bP]
def ar{α}  f  {i j}(x:α) (h:j≠i):bP f i x j=f j:=by simp[bP,h]
def jE{k O B e b}(a:iO k O B e)(hb:(MemAct.ofEvent e).touch?=some b):
 (∃ad,b.loc=.cell ad/\(aR O ad.block ad.off\/B<=ad.block\/(b.write=false/\∃v,k.cell ad.block ad.off=some v)))\/∃r,b.loc=.obj r/\((∃o,O r=some (.obj o))\/B<=r):=by
 obtain⟨loc,wr,c⟩:=e;cases loc with
 | cell ad=>
   simp only[iO]at a;simp only[MemAct.ofEvent,MemAct.touch?,kn]at hb
   grind
 |obj r=>simp only[iO]at a;cases wr<;>cases c<;>simp only[MemAct.ofEvent,MemAct.touch?,kn,reduceCtorEq]at hb<;>subst hb<;>exact .inr ⟨r,rfl,a⟩
 |mark m=>simp only[iO]at a;cases m<;>simp_all [jD,mz,MemAct.ofEvent,MemAct.touch?]
 |_=>simp[iO]at a
def uv{k O B b e}(c:iO k O B e)(a:iI b e):(MemAct.ofEvent e).low b:=by
 obtain⟨loc,wr,d⟩:=e;cases loc with
 |cell f=>simpa[MemAct.ofEvent,MemAct.low,Loc.low,iI]using a
 |obj r=>simp only[iI]at a;cases wr<;>cases d<;>simpa[MemAct.ofEvent,MemAct.low,Loc.low]using a
 |mark m=>simp only[iO]at c;cases m<;>simp_all [jD,mz,MemAct.ofEvent,MemAct.low,iI]
 |_=>simp[iO]at c
def qS{t u:Trace}{n}(a:n<t.size):(t++u).counts n↔t.counts n:=by unfold Trace.counts;rw[act?_old a,heard_old a]
section
variable{Z:Base}{kk:abl}{OO:abk}{J M:aba}{w:World}{t:Trace}
def cq.BN(h:cq Z kk OO J M w t)  u :∀n g,n<Z.N0->(t++u).g? n=some g->g≠0->(t++u).counts n->∃j,(t++u).g? j=some 0/\HappensBefore (t++u) n j:=λn g c d i e=>by
 have a:n<t.size:=YU c h.n0;rw[g?_old a]at d;rw[qS a]at e;obtain⟨j,f,hb⟩:=h.v3 n g c d i e
 have b:j<t.size:=by
  unfold Trace.g? at f
  grind
 exact⟨j,by rw[g?_old b];exact f,hb_app u hb⟩
def cq.own(h:cq Z kk OO J M w t){i}(X:i≠Z.lk)(hJ:i=0\/J i){k' O' w' es fn pos}(d:Eff (kk i) (OO i) w k' O' w' es.toList)(hs:Sat k' O' w'):
 cq Z (bP kk i k') (bP OO i O') J M w' (t++MemOp.ofEvents i fn pos es):=by
 have D:∀op∈MemOp.ofEvents i fn pos es,op.g=i/\∃e∈es.toList,op.act=.ofEvent e:=λop B=>by
  obtain⟨e,d,rfl⟩:=zH B
  grind
 have Y:∀b n,aR O' b n->aR (OO i) b n\/w.heap.size<=b:=d.Dx
 have ay:∀j,j≠i->Sat (kk j) (OO j) w':=λj k=>by
  have hold:∀b,b<w.heap.size->OO j b≠none->w'.heap[b]?=w.heap[b]?:=λb hb W=>by
   cases q:OO j b with
   |none=>simp_all
   |some x=>exact d.keep b hb (h.jb j i b x k q)
  refine⟨(h.sat j).apart,λb n v K=>?_,λb s hs=>?_,λb o N=>?_,λb n W=>?_,λb f W=>?_⟩
  . have hb:=(h.sat j).pK K
    have hc:=(h.sat j).cell b n v K;have Q:=h.mU i j b n v (zj k) K;cases q:OO i b with
    |none=>have:=d.keep b hb q;simpa only[World.cell?,this]using hc
    | some x=>
      cases x with
      |obj o=>exact absurd (.inl ⟨o,q⟩) Q
      | tail m=>
        have a9:n<m:=Nat.lt_of_not_le λhh=>Q (.inr (.inl ⟨m,q,hh⟩))
        obtain⟨c,e,l,_⟩:=(h.sat i).tail b m q;obtain⟨c',R,P,h4⟩:=d.tail b m hb q c e l;simp only[World.cell?,l,R]at hc ⊢
        simp_all
      | part f=>
        have a9:f n=none:=Zm λhh=>Q (.inr (.inr ⟨f,q,hh⟩))
        obtain⟨c,e,l,_⟩:=(h.sat i).part b f q;obtain⟨c',R,P,h4⟩:=d.part b f hb q c e l;simp only[World.cell?,l,R]at hc ⊢
        simp_all
  . have hb:=(h.sat j).IL hs
    rw[d.shape b hb];exact(h.sat j).sh b s hs
  . rw[hold b ((h.sat j).sR N) (by grind)];exact(h.sat j).obj b o N
  . rw[hold b ((h.sat j).sR W) (by grind)];exact(h.sat j).tail b n W
  rw[hold b ((h.sat j).sR W) (by grind)];exact(h.sat j).part b f W
 have a8:∀j b x,OO j b=some x->b<w.heap.size:=λj b x A=>(h.sat j).sR A
 have a7:∀j b n v,(kk j).cell b n=some v->b<w.heap.size:=λj b n v K=>(h.sat j).pK K
 refine⟨λj=>?_,λa b c x C A=>?_,λa b c n v C K=>?_,λj=>?_,λsaid=>?_,λop B=>?_,λn a ha hm=>?_,by simp;exact YO h.n0 (Zs _ _),h.BN _,λa ha=>?_,λr hr=>?_,h.yj.step (by rw[d.os];exact .refl _) d.output d.size (λb hb=>d.keep b (YU hb h.yj.size) (Option.eq_none_iff_forall_ne_some.2 λx A=>by have:=h.mine i b x A;omega)),λj b x A=>?_⟩
 . by_cases k:j=i
   . subst k;rw[an,an];exact hs
   rw[ar _ _ k,ar _ _ k];simp_all
 . by_cases ha:a=i
   . subst ha
     rw[an]at A;rw[ar _ _ (zj C)];rcases d.own c x A with⟨y,hy,_⟩|hy
     . exact h.jb a b c y C hy
     cases q:OO b c with
     |none=>rfl
     |some z=>grind
   rw[ar _ _ ha]at A;by_cases hb:b=i
   . subst hb
     rw[an];cases q:O' c with
     |none=>rfl
     | some z=>
       rcases d.own c z q with⟨y,hy,_⟩|hy
       . have:=h.jb a b c x C A;simp_all
       grind
   rw[ar _ _ hb];exact h.jb a b c x C A
 . by_cases ha:a=i
   . subst ha
     rw[an];rw[ar _ _ (zj C)]at K;intro hc;rcases Y c n hc with hc|hc
     . exact h.mU a b c n v C K hc
     grind
   rw[ar _ _ ha];by_cases hb:b=i
   . subst hb
     rw[an]at K;intro hc;rcases d.cell c n v K with l|l|l
     . exact h.mU a b c n v C l hc
     . obtain⟨x,A⟩:=l.own
       have:=h.jb b a c x (zj C) A;exact dK this hc
     obtain⟨x,A⟩:=hc.own
     grind
   rw[ar _ _ hb]at K;exact h.mU a b c n v C K
 ·
  intro n a ha hm;obtain⟨x,A,u⟩:=touch_of ha;rcases getElem?_append_cases A with⟨_,S⟩|⟨_,T⟩
  . rcases h.Am j n a (by rw[touchAt_of S];exact u) hm with hk|hk
    . exact .inl (hk.app _)
    refine .inr ?_;by_cases k:j=i
    . subst k
      rw[an,an];unfold oV at hk ⊢;split
      . next O E=>
        rw[E]at hk;obtain⟨l,R,P⟩:=hk;refine⟨YU l d.size,λhc=>?_,?_⟩
        . grind
        rcases P with P|P
        . cases q:k'.cell O.block O.off with
          |none=>simp_all
          | some v=>
            rcases d.cell _ _ v q with h4|h4|h4
            . simp_all
            . simp_all
            omega
        simp_all
      . next r E=>
        rw[E]at hk;refine⟨YU hk.1 d.size,λo N=>?_⟩;rcases d.own r _ N with⟨y,hy,L⟩|hy
        . cases y with
          |obj o'=>simp_all
          |tail m=>exact L.elim
          |part f=>exact L.elim
        omega
      trivial
    rw[ar _ _ k,ar _ _ k];unfold oV at hk ⊢;split
    . next O E=>rw[E]at hk;exact⟨YU hk.1 d.size,hk.2⟩
    . next r E=>rw[E]at hk;exact⟨YU hk.1 d.size,hk.2⟩
    trivial
  obtain⟨hg,e,H,F⟩:=D x T;by_cases k:j=i
  . subst k
    have:=knows_own A;rw[hg]at this;exact .inl ((nD X).2 this)
  refine .inr ?_;rw[ar _ _ k,ar _ _ k];rw[F]at u;have G:=d.evs e H;have I:=d.low e H;rcases jE G u with⟨O,E,hc⟩|⟨r,E,hc⟩
  . unfold oV;rw[E]
    have U:O.block<w'.heap.size:=by
     have:=uv G I;obtain⟨loc,wr,sy⟩:=e;cases loc with
     |cell al=>simp only[MemAct.ofEvent,MemAct.touch?,kn]at u;subst u;simp only[Loc.cell.injEq]at E;subst E;simpa[iI]using I
     |obj r=>cases wr<;>cases sy<;>simp only[MemAct.ofEvent,MemAct.touch?,kn,reduceCtorEq]at u<;>subst u<;>cases E
     |mark m=>simp only[iO]at G;cases m<;>simp_all [jD,mz,MemAct.ofEvent,MemAct.touch?]
     |_=>simp[iO]at G
    refine⟨U,λV=>?_,?_⟩
    . rcases hc with hc|hc|⟨_,v,hc⟩
      . obtain⟨y,hy⟩:=hc.own
        have:=h.jb i j _ y (zj k) hy;exact dK this V
      . obtain⟨x,A⟩:=V.own
        grind
      exact h.mU j i _ _ v k hc V
    rcases hc with hc|hc|⟨hc,_⟩
    . cases q:(kk j).cell O.block O.off with
      |none=>simp_all
      |some v=>exact absurd hc (h.mU i j _ _ v (zj k) q)
    . cases q:(kk j).cell O.block O.off with
      |none=>simp_all
      |some v=>grind
    simp_all
  unfold oV;rw[E]
  have U:r<w'.heap.size:=by
   obtain⟨loc,wr,sy⟩:=e;cases loc with
   | cell al=>
     simp only[MemAct.ofEvent,MemAct.touch?,kn]at u
     grind
   |obj r'=>simp only[iI]at I;cases wr<;>cases sy<;>simp only[MemAct.ofEvent,MemAct.touch?,kn,reduceCtorEq]at u<;>subst u<;>cases E<;>exact I
   |mark m=>simp only[iO]at G;cases m<;>simp_all [jD,mz,MemAct.ofEvent,MemAct.touch?]
   |_=>simp[iO]at G
  refine⟨U,λo N=>?_⟩;rcases hc with⟨o',hc⟩|hc
  . have:=h.jb j i r _ k N
    simp_all
  grind
 ·
  refine noRace_append (h.clean said) (λop B=>(D op B).1) λn a ha op B b hb hc=>?_
  obtain⟨hg,e,H,F⟩:=D op B;rw[F]at hb;have G:=d.evs e H;obtain⟨c1,c2,c3,c4⟩:=hc;rcases h.Am i n a ha c2 with hk|hk
  . exact(nD X).1 hk
  exfalso;unfold oV at hk;rcases jE G hb with⟨O,E,av⟩|⟨r,E,av⟩
  . grind
  grind
 . rcases Array.mem_append.1 B with B|B
   . exact MemAct.low_mono d.size (h.seen op B)
   obtain⟨hg,e,H,F⟩:=D op B;rw[F];exact uv (d.evs e H) (d.low e H)
 . obtain⟨x,A,u⟩:=touch_of ha
   rcases getElem?_append_cases A with⟨ax,S⟩|⟨_,T⟩
   . rcases h.acc n a (by rw[touchAt_of S];exact u) hm with l|⟨j,k,l⟩|⟨p,hp,l⟩|l
     . exact .inl (l.app _)
     . exact .inr (.inl ⟨j,k,l.app _⟩)
     . exact .inr (.inr (.inl ⟨p,hp,l.app _⟩))
     exact .inr (.inr (.inr ⟨l.1,l.2.1,λhc=>l.2.2 ((qS ax).1 hc)⟩))
   obtain⟨hg,_⟩:=D x T;have:=knows_own A
   grind
 . obtain⟨l,R⟩:=h.lg a ha
   refine⟨YU l d.size,λj=>?_⟩;by_cases k:j=i
   . subst k
     rw[an,an];refine⟨λhc=>?_,?_⟩
     . grind
     cases q:k'.cell a.block a.off with
     |none=>rfl
     | some v=>
       rcases d.cell _ _ v q with P|P|P
       . simp_all
       . simp_all
       omega
   rw[ar _ _ k,ar _ _ k];exact R j
 . obtain⟨l,R⟩:=h.om r hr
   refine⟨YU l d.size,λj o N=>?_⟩;by_cases k:j=i
   . subst k
     rw[an]at N;rcases d.own r _ N with⟨y,hy,L⟩|hy
     . cases y with
       |obj o'=>simp_all
       |tail m=>exact L.elim
       |part f=>exact L.elim
     omega
   rw[ar _ _ k]at N;simp_all
 by_cases k:j=i
 . subst k
   rw[an]at A;rcases d.own b x A with⟨y,hy,_⟩|hy
   . exact h.mine j b y hy
   exact YO h.yj.size hy
 rw[ar _ _ k]at A;exact h.mine j b x A
end
