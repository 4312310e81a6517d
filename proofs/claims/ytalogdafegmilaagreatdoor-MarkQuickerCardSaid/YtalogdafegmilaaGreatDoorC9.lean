/- Part 9 of the proof. -/
import Derived.Test.YtalogdafegmilaaGreatDoorC8
set_option linter.all false
namespace Go.aN
open Go.Conc
def mh(pl:List Entry):Code->Bool
 |.seq a b=>mh pl a && mh pl b
 |.block _ c=>mh pl c
 |.scope c=>mh pl c
 |.cond _ a b=>mh pl a && mh pl b
 |.loop c=>mh pl c
 |.rangeFunc _ _ a c=>mh pl a && mh pl c
 |.region id ops true=>match pl.find? λe=>e.id==id with|some e=>yp ops e|none=>true
 |_=>true
def kN(pl:List Entry)(todo:List Item):Bool:=todo.all fun|.code c=>mh pl c|_=>true
theorem GC{pl:List Entry}{id:Nat}{k k':List Item}(h:exitTo id k=some k')(hk:kN pl k=true):kN pl k'=true:=by unfold kN at hk ⊢;rw[List.all_eq_true]at hk ⊢;exact λx hx=>hk x (po h x hx)
def ab(P:Program)(m:Mo)(fid n:Nat)(ro:Option Nat)(hold:List Entry)(todo:List Item)(s:St)(K:Exit->St->Prop):Prop:=kN hold todo=true->Go P m fid n ro todo s K
def uE(ops:Array Oper)(n:Nat)(env:Env)(o:Oper):Option Bool:=
 match o.guard with
 |none=>some true
 | some (j,b)=>match (ops[j]?).bind (·.dst)with
   | some d=>if d<n then(match env d with
     |.lit (.bool x)=>some (if b then x else !x)
     |.lit (.tuple _)=>some false
     |_=>none)else none
   |none=>none
def JI(x:Option Bool)(A B:Prop)(u:jB A:=.mk)(v:jB B:=.mk):Prop:=match x with|some b=>sT b A B u v|none=>False
@[simp] theorem mn{b:Bool}{A B:Prop}{u:jB A}{v:jB B}:JI (some b) A B u v=sT b A B:=propext Iff.rfl
theorem uF{ops:Array Oper}{n:Nat}{env:Env}{o:Oper}{go no go' no':Prop}{u:jB go}{v:jB no}(hgo:go->go')(hno:no->no')(h:JI (uE ops n env o) go no u v):pL ops n env o go' no':=by
 unfold uE at h;unfold pL;cases hg:o.guard with
 |none=>rw[hg]at h;exact hgo (h.1 rfl)
 | some p=>
   obtain⟨j,b⟩:=p;rw[hg]at h;simp only at h ⊢;cases hd:(ops[j]?).bind (·.dst)with
   |none=>rw[hd]at h;exact h.elim
   | some d=>
     rw[hd]at h;simp only at h ⊢;by_cases hn:d<n
     . rw [if_pos hn]at h
       refine⟨hn,?_⟩;split at h
       . next x hx=>
         simp only[hx];refine⟨λe=>?_,λe=>?_⟩
         . subst e
           cases x
           . exact hgo (h.1 rfl)
           . exact hgo (h.1 rfl)
         . cases x<;>cases b<;>simp at e
           . exact hno (h.2 rfl)
           . exact hno (h.2 rfl)
       . next x hx=>simp only[hx];exact hno (h.2 rfl)
       . exact h.elim
     . rw[if_neg hn]at h
       exact h.elim
theorem wT{ops:Array Oper}{n:Nat}{env:Env}{o:Oper}{go no:Prop}{u:jB go}{v:jB no}(h:JI (uE ops n env o) go no u v):
 (bS ops n env o/\go)\/∃j b x d oj,o.guard=some (j,b)/\ops[j]?=some oj/\oj.dst=some d/\d<n/\env d=.lit x/\Nh x b/\no:=
 qE (uF id id h)
section
variable{P:Program}{m:Mo}{fid n:Nat}{ro:Option Nat}{D:List kL}{rc:Rec}{K:Exit->St->Prop}{k:List Item}{ops:Array Oper}
theorem Go.Nu{Kp:AV->aa->Prop}{i:Nat}{is:List Nat}{env:Env}{σ:aa}(hp:∀v env σ,Kp v σ->K (.panic v) ⟨env,σ,D,rc⟩)
 (h:cP P m ops n Kp [i] env σ (λenv σ=>Go P m fid n ro (.inRegion ops is::k) ⟨env,σ,D,rc⟩ K)):Go P m fid n ro (.inRegion ops (i::is)::k) ⟨env,σ,D,rc⟩ K:=by
 obtain⟨o,ho,hok,h⟩:=h;rcases h with⟨hw,h⟩|⟨⟨j,b,x,d,oj,hg,hj,hd,hdn,hx,hxb⟩,h⟩
 . rcases h with⟨fo,args,tys,h1,h2⟩|⟨h1,h2⟩
   . refine .call ho h1 hw hok (h2.mono λr σ' hh=>?_)
     cases r with
     |val a=>exact hh
     |panic v=>exact hp _ _ _ hh
   . refine .op ho hw hok h1 ?_
     intro kk O ρ hρ hr;refine lZ _ (h2 kk O ρ hρ hr) (λ_ _ _ ⟨v,hv,k2,O2,g,hle,a,σ',x,y,z⟩=>⟨v,hv,k2,O2,g,hle,a,σ',x,y,z⟩) (λ_ _ _ ⟨hle,a,σ',x,y,z⟩=>⟨hle,a,σ',x,y,hp _ _ _ z⟩)
 . exact .unwanted ho hg hj hd hdn hx hxb h
end
section
variable{P:Program}(L:iE P)
def BY(mu:List Nat)(lt:Bool)(o:Oper)(env:Env)(σ:aa):Option AV:=
 match o.op with
 |.load t p=>if lt then(match L.tt t with|some i=>nu i σ (ap env p)|none=>none)else tD L mu o env
 |_=>tD L mu o env
def BZ(mu:List Nat)(ops:Array Oper)(n:Nat)(lt:Bool)(σ:aa)(K:Env->Prop)(u:jB K:=.mk):List Nat->Env->Prop
 |[],env=>K env
 | i::S,env=>match ops[i]? with
   |some o=>(Oper.ok n o && o.dst.isSome)=true/\JI (uE ops n env o) (wj (BY L mu lt o env σ) λa=>BZ mu ops n lt σ K u S (bd env o.dst a)) (BZ mu ops n lt σ K u S (bd env o.dst (.lit (.tuple #[]))))
   |none=>False
theorem B0{mu:List Nat}{lt:Bool}{o:Oper}{env:Env}{σ:aa}{a:AV}(h:BY L mu lt o env σ=some a):tD L mu o env=some a\/(tD L mu o env=none/\lt=true/\sQ L o env σ=some a):=by
 unfold BY at h;split at h
 . next t p ho=>
   cases lt
   . simp only[Bool.false_eq_true,if_false]at h;exact .inl h
   . simp only[if_true]at h
     split at h
     . next i hi=>
       have hS:sQ L o env σ=some a:=by unfold sQ;simp only[ho,hi];exact h
       cases hp:tD L mu o env with
       |none=>exact .inr ⟨rfl,rfl,hS⟩
       | some a'=>
         left;unfold tD at hp;simp only[ho,hi]at hp;split at hp
         . next i' v off hi' hx=>cases hi';rw[hx]at h;simp only[nu]at h;rw[<-hp,h]
         . next i' b l hole off hi' hx=>cases hi';rw[hx]at h;simp only[nu]at h;rw[<-hp,h]
         . cases hp
     . cases h
 . exact .inl h
theorem oD{mu:List Nat}{ops:Array Oper}{n:Nat}{lt:Bool}{σ:aa}{K:Env->Prop}{u:jB K}:∀{S:List Nat}{env:Env},BZ L mu ops n lt σ K u S env->ja L mu ops n lt σ S env K
 |[],env,h=>h
 | i :: S,env,h=>by
   unfold BZ at h;unfold ja;split at h
   . next o ho=>
     simp only[ho];obtain⟨h1,h3⟩:=h;rw[Bool.and_eq_true]at h1;refine⟨h1.1,h1.2,?_⟩
     have main:(wj (BY L mu lt o env σ) λa=>BZ L mu ops n lt σ K u S (bd env o.dst a))->(match tD L mu o env with
      |some a=>ja L mu ops n lt σ S (bd env o.dst a) K
      | none=>lt=true/\(match sQ L o env σ with
        |some a=>ja L mu ops n lt σ S (bd env o.dst a) K
        |none=>False)):=by
      rintro⟨a,ha,hK⟩;rcases B0 L ha with h|⟨h,h',h''⟩
      . simp only[h];exact oD hK
      . simp only[h,h''];exact⟨h',oD hK⟩
     exact uF main oD h3
   . exact h.elim
def sV:Op->Bool
 |.defer _|.go _|.send _ _|.recv _ _ _|.select _ _=>false
 |.call c=>match c.callee with|.builtin .recover=>false|.builtin .close=>false|.invoke _ _=>false|_=>true
 |_=>true
def JJ(m:Mo)(o:Oper)(env:Env)(σ:aa)(R:AV->aa->Prop)(Kp:AV->aa->Prop):Prop:=
 match o.op with
 |.call ⟨.value fo,args,_⟩=>dC P m (ap env fo) (args.toList.map (ap env)) σ λr σ'=>match r with|.val a=>R a σ'|.panic v=>Kp v σ'
 |_=>aG P o env σ R Kp
theorem Di{m:Mo}{o:Oper}{env:Env}{σ:aa}{R Kp:AV->aa->Prop}(hv:sV o.op=true)(h:JJ (P:=P) m o env σ R Kp):JG P m o env σ R Kp:=by
 unfold JJ at h;split at h
 . next fo args tys ho=>exact .inl ⟨fo,args,tys,ho,h⟩
 . exact .inr ⟨(λc e=>by rw[e]at hv;cases hv),h⟩
def bm(P:Program)(m:Mo)(ops:Array Oper)(n:Nat)(Kp:AV->aa->Prop)(p:ke)(env:Env)(σ:aa)(R:Env->aa->Prop):Prop:=jb P m ops n Kp p env σ R
def JK(m:Mo)(mu:List Nat)(ops:Array Oper)(n:Nat)(Kp:AV->aa->Prop)(i:Nat)(p:ke)(env:Env)(σ:aa)(go:Env->aa->Prop)(R:Env->aa->Prop)(u:jB go:=.mk):Prop:=
 match ops[i]? with
 | some o=>Oper.ok n o=true/\JI (uE ops n env o) (if nN L o=true then pP (ys L mu o env σ) (λa σ'=>go (bd env o.dst a) σ') Kp else
    if sV o.op=true then JJ (P:=P) m o env σ (λa σ'=>bm P m ops n Kp p (bd env o.dst a) σ' R) Kp else iP P m ops n Kp i env σ (λenv σ=>bm P m ops n Kp p env σ R)) (go (bd env o.dst (.lit (.tuple #[]))) σ)
 |none=>False
def gM(m:Mo)(mu:List Nat)(ops:Array Oper)(n:Nat)(Kp:AV->aa->Prop):ke->Env->aa->(Env->aa->Prop)->Prop
 |.done,env,σ,R=>R env σ
 |.take S lt p,env,σ,R=>BZ L mu ops n lt σ (λenv1=>gM m mu ops n Kp p env1 σ R) .mk S env
 |.one i p,env,σ,R=>JK L m mu ops n Kp i p env σ (λenv σ=>gM m mu ops n Kp p env σ R) R
 |.both i p q,env,σ,R=>JK L m mu ops n Kp i p env σ (λenv σ=>gM m mu ops n Kp p env σ R) R/\gM m mu ops n Kp q env σ R
theorem rP{m:Mo}{mu:List Nat}{ops:Array Oper}{n:Nat}{Kp:AV->aa->Prop}{p:ke}{R:Env->aa->Prop}(ih:∀{env σ},gM L m mu ops n Kp p env σ R->jb P m ops n Kp p env σ R){i:Nat}{env:Env}{σ:aa}
 (h:JK L m mu ops n Kp i p env σ (λenv σ=>gM L m mu ops n Kp p env σ R) R):iP P m ops n Kp i env σ (λenv σ=>jb P m ops n Kp p env σ R):=by
 unfold JK at h;split at h
 . next o ho=>
   obtain⟨hok,h⟩:=h;rcases wT h with⟨hw,h⟩|⟨j,b,x,d',oj,hg,hj,hjd,hdn,hx,hxb,h⟩
   . split at h
     . next hwo=>
       refine⟨o,ho,hok,.inl ⟨hw,.inr ⟨λc e=>?_,(uD L hwo h).mono λa σ'=>ih⟩⟩⟩;unfold nN pn at hwo;rw[e]at hwo;cases hwo
     . split at h
       . next hv=>exact⟨o,ho,hok,.inl ⟨hw,Di hv h⟩⟩
       . exact h
   . exact⟨o,ho,hok,.inr ⟨⟨j,b,x,d',oj,hg,hj,hjd,hdn,hx,hxb⟩,ih h⟩⟩
 . exact h.elim
theorem jb.gM{m:Mo}(mu:List Nat){ops:Array Oper}{n:Nat}{Kp:AV->aa->Prop}{R:Env->aa->Prop}:∀{p:ke}{env:Env}{σ:aa},gM L m mu ops n Kp p env σ R->jb P m ops n Kp p env σ R
 |.done,_,_,h=>.done h
 |.take S lt p,_,_,h=>jb.take L mu (ja.mono L (λenv1 h=>jb.gM mu h) (oD L h))
 |.one i p,_,_,h=>jb.one (rP L (jb.gM mu) h)
 |.both i p q,_,_,h=>jb.both (rP L (jb.gM mu) h.1) (jb.gM mu h.2)
theorem bm.go{m:Mo}(mu:List Nat){ops:Array Oper}{n:Nat}{Kp:AV->aa->Prop}{R:Env->aa->Prop}{p:ke}{env:Env}{σ:aa}(h:gM L m mu ops n Kp p env σ R):bm P m ops n Kp p env σ R:=jb.gM L mu h
def bk(m:Mo)(fid n:Nat)(ro:Option Nat)(mu:List Nat)(hold:List Entry):Nat->List Item->St->(Exit->St->Prop)->Prop
 |0,todo,s,K=>ab P m fid n ro hold todo s K
 | f + 1,todo,s,K=>match todo with
   |[]=>K (.leave none) s
   |.code .ret::_=>K (.leave (some .ret)) s
   |.code .skip::k=>bk m fid n ro mu hold f k s K
   |.code (.label _)::k=>bk m fid n ro mu hold f k s K
   |.inBlock _::k=>bk m fid n ro mu hold f k s K
   |.inScope _::k=>bk m fid n ro mu hold f k s K
   |.code (.seq a b)::k=>bk m fid n ro mu hold f (.code a::.code b::k) s K
   |.code (.block id c)::k=>bk m fid n ro mu hold f (.code c::.inBlock id::k) s K
   |.code (.scope c)::k=>bk m fid n ro mu hold f (.code c::.inScope c::k) s K
   | .code (.exit id)::k=>match exitTo id k with
     |some k'=>bk m fid n ro mu hold f k' s K
     |none=>K (.leave (some (.exit id))) s
   | .code (.cond c a b)::k=>Operand.ok n c=true/\(match ap s.env c with
     |.lit (.bool x)=>sT x (bk m fid n ro mu hold f (.code a::k) s K) (bk m fid n ro mu hold f (.code b::k) s K)
     |_=>False)
   |.code (.region _ ops false)::k=>bk m fid n ro mu hold f (.inRegion ops (List.range ops.size)::k) s K
   | .code (.region id ops true)::k=>match hold.find? λe=>e.id==id with
     |some ⟨_,p⟩=>gM L m mu ops n (λv σ=>∀env,K (.panic v) {s with env,σ}) p s.env s.σ (λenv σ=>ab P m fid n ro hold k {s with env,σ} K)
     |none=>ab P m fid n ro hold (.code (.region id ops true)::k) s K
   |.inRegion _ []::k=>bk m fid n ro mu hold f k s K
   | .inRegion ops (i::is)::k=>match ops[i]? with
     | some o=>Oper.ok n o=true/\
       JI (uE ops n s.env o) (if nN L o=true then pP (ys L mu o s.env s.σ) (λa σ'=>bk m fid n ro mu hold f (.inRegion ops is::k) {s with env:=bd s.env o.dst a,σ:=σ'} K) (λa σ'=>K (.panic a) {s with σ:=σ'})
        else if sV o.op=true then JJ (P:=P) m o s.env s.σ (λa σ'=>ab P m fid n ro hold (.inRegion ops is::k) {s with env:=bd s.env o.dst a,σ:=σ'} K) (λa σ'=>∀env,K (.panic a) {s with env,σ:=σ'})
        else ab P m fid n ro hold (.inRegion ops (i::is)::k) s K) (bk m fid n ro mu hold f (.inRegion ops is::k) {s with env:=bd s.env o.dst (.lit (.tuple #[]))} K)
     |none=>ab P m fid n ro hold (.inRegion ops (i::is)::k) s K
   |todo=>ab P m fid n ro hold todo s K
theorem Go.bk{m:Mo}{fid n:Nat}{ro:Option Nat}(mu:List Nat)(hold:List Entry):∀(f:Nat){todo:List Item}{s:St}{K:Exit->St->Prop},kN hold todo=true->bk L m fid n ro mu hold f todo s K->Go P m fid n ro todo s K
 |0,_,_,_,hpl,h=>h hpl
 | f + 1,todo,s,K,hpl,h=>by
   unfold aN.bk at h;split at h
   . exact .leave (.inl ⟨rfl,rfl⟩) h
   . exact .leave (.inr (.inl ⟨_,rfl,rfl⟩)) h
   . exact .skip (Go.bk mu hold f (by simpa[kN,mh]using hpl) h)
   . exact .label (Go.bk mu hold f (by simpa[kN,mh]using hpl) h)
   . exact .inBlock (Go.bk mu hold f (by simpa[kN,mh]using hpl) h)
   . exact .inScope (Go.bk mu hold f (by simpa[kN,mh]using hpl) h)
   . exact .seq (Go.bk mu hold f (by simpa[kN,mh,and_assoc]using hpl) h)
   . exact .block (Go.bk mu hold f (by simpa[kN,mh]using hpl) h)
   . exact .scope (Go.bk mu hold f (by simpa[kN,mh]using hpl) h)
   . split at h
     . next k' hk=>exact .exit hk (Go.bk mu hold f (GC hk (by simp only[kN,List.all_cons,Bool.and_eq_true]at hpl ⊢;exact hpl.2)) h)
     . next hk=>exact .leave (.inr (.inr ⟨_,_,rfl,hk,rfl⟩)) h
   . next c a b k=>
     obtain⟨h1,h2⟩:=h;split at h2
     . next x hx=>
       refine .cond hx h1 ?_;cases x
       . exact Go.bk mu hold f (by simp only[kN,List.all_cons,Bool.and_eq_true,mh]at hpl ⊢;exact⟨hpl.1.2,hpl.2⟩) (h2.2 rfl)
       . exact Go.bk mu hold f (by simp only[kN,List.all_cons,Bool.and_eq_true,mh]at hpl ⊢;exact⟨hpl.1.1,hpl.2⟩) (h2.1 rfl)
     . exact h2.elim
   . exact .region (Go.bk mu hold f (by simpa[kN,mh]using hpl) h)
   . next id ops k=>
     split at h
     . next id' p he=>
       have hc:yp ops ⟨id',p⟩=true:=by simp only[kN,List.all_cons,mh,he,Bool.and_eq_true]at hpl;exact hpl.1
       simp only[yp,Bool.and_eq_true]at hc;obtain⟨env,σ,D,rc⟩:=s;refine Go.draw L.mixed hc.1 λl h1 h2 h3=>?_
       exact cP.mono (λenv σ h=>h (by simp only[kN,List.all_cons,Bool.and_eq_true]at hpl ⊢;exact hpl.2)) _ _ _ (jb.gM L mu h _ _ _ hc.2 l h1 h2 h3 (λ_ _ _ h=>by cases h))
     . exact h hpl
   . exact .wI (Go.bk mu hold f (by simpa[kN,mh]using hpl) h)
   . next ops i is k=>
     split at h
     . next o ho=>
       obtain⟨hok,h⟩:=h;have hpl':kN hold (.inRegion ops is::k)=true:=by simpa[kN,mh]using hpl
       rcases wT h with⟨hw,hg⟩|⟨j,b,x,d,oj,hg,hj,hd,hdn,hx,hxb,h⟩
       . split at hg
         . next hwo=>
           refine .op ho hw hok (λc e=>?_) ?_
           . unfold nN pn at hwo;rw[e]at hwo;cases hwo
           . exact(uD L hwo hg).mono λa σ' hh=>Go.bk mu hold f hpl' hh
         . split at hg
           . next hv=>
             have hrun:cP P m ops n (λa σ'=>∀env,K (.panic a) {s with env,σ:=σ'}) [i] s.env s.σ (λenv σ'=>Go P m fid n ro (.inRegion ops is::k) {s with env,σ:=σ'} K):=⟨o,ho,hok,.inl ⟨hw,(Di hv hg).mono λa σ' hh=>hh hpl'⟩⟩
             exact Go.Nu (λv env σ h=>h env) hrun
           . exact hg hpl
       . exact .unwanted ho hg hj hd hdn hx hxb (Go.bk mu hold f hpl' h)
     . exact h hpl
   . exact h hpl
end
end Go.aN
