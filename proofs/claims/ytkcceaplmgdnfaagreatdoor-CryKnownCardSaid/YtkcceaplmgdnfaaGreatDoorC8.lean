import Derived.Test.YtkcceaplmgdnfaaGreatDoorC7
set_option linter.all false
namespace Go.bu
open Go.Conc
def jX(pl:List Entry):Code->Bool
 |.seq a b=>jX pl a && jX pl b
 |.block _ c=>jX pl c
 |.scope c=>jX pl c
 |.cond _ a b=>jX pl a && jX pl b
 |.loop c=>jX pl c
 |.rangeFunc _ _ a c=>jX pl a && jX pl c
 |.region id ops true=>match pl.find? λe=>e.id==id with|some e=>qE ops e|none=>true
 |_=>true
def iW(pl:List Entry)(todo:List Item):Bool:=todo.all fun|.code c=>jX pl c|_=>true
theorem It{pl:List Entry}{id:Nat}{k k':List Item}(h:exitTo id k=some k')(a:iW pl k=true):iW pl k'=true:=by unfold iW at a ⊢;rw[List.all_eq_true]at a ⊢;exact λx b=>a x (pD h x b)
def af(P:Program)(m:Mo)(fid n:Nat)(ro:Option Nat)(hold:List Entry)(todo:List Item)(s:St)(K:Exit->St->Prop):Prop:=iW hold todo=true->Go P m fid n ro todo s K
def vl(ops:Array Oper)(n:Nat)(env:Env)(o:Oper):Option Bool:=
 match o.guard with
 |none=>some true
 | some (j,b)=>match (ops[j]?).bind (·.dst)with
   | some d=>if d<n then(match env d with
     |.lit (.bool x)=>some (if b then x else !x)
     |.lit (.tuple _)=>some false
     |_=>none)else none
   |none=>none
def FV(x:Option Bool)(A B:Prop)(u:iR A:=.mk)(v:iR B:=.mk):Prop:=match x with|some b=>ta b A B u v|none=>False
@[simp] theorem mq{b:Bool}{A B:Prop}{u:iR A}{v:iR B}:FV (some b) A B u v=ta b A B:=propext Iff.rfl
@[simp] theorem QX{A B:Prop}{u:iR A}{v:iR B}:FV none A B u v=False:=propext Iff.rfl
theorem vm{ops:Array Oper}{n:Nat}{env:Env}{o:Oper}{go no go' a:Prop}{u:iR go}{v:iR no}(f:go->go')(g:no->a)(h:FV (vl ops n env o) go no u v):pZ ops n env o go' a:=by
 unfold vl at h;unfold pZ;cases i:o.guard with
 |none=>simp_all
 | some p=>
   obtain⟨j,b⟩:=p;rw[i]at h;simp only at h ⊢;cases hd:(ops[j]?).bind (·.dst)with
   |none=>simp_all
   | some d=>
     rw[hd]at h;simp only at h ⊢;by_cases c:d<n
     . rw [if_pos c]at h
       refine⟨c,?_⟩;split at h
       . next x k=>
         simp only[k];refine⟨λe=>?_,λe=>?_⟩
         . simp_all
         . cases x<;>cases b<;>simp at e
           . simp_all
           simp_all
       . simp_all
       simp_all
     simp_all
theorem ya{ops:Array Oper}{n:Nat}{env:Env}{o:Oper}{go no:Prop}{u:iR go}{v:iR no}(h:FV (vl ops n env o) go no u v):
 (bK ops n env o/\go)\/∃j b x d a,o.guard=some (j,b)/\ops[j]?=some a/\a.dst=some d/\d<n/\env d=.lit x/\QL x b/\no:=
 qB (vm id id h)
section
variable{P:Program}{m:Mo}{fid n:Nat}{ro:Option Nat}{D:List kF}{rc:Rec}{K:Exit->St->Prop}{k:List Item}{ops:Array Oper}
theorem Go.QY{Kp:AV->aa->Prop}{i:Nat}{is:List Nat}{env:Env}{σ:aa}(A:∀v env σ,Kp v σ->K (.panic v) ⟨env,σ,D,rc⟩)
 (h:cE P m ops n Kp [i] env σ (λenv σ=>Go P m fid n ro (.inRegion ops is::k) ⟨env,σ,D,rc⟩ K)):Go P m fid n ro (.inRegion ops (i::is)::k) ⟨env,σ,D,rc⟩ K:=by
 obtain⟨o,l,f,h⟩:=h;rcases h with⟨w,h⟩|⟨⟨j,b,x,d,Q,B,C,hd,p,E,q⟩,h⟩
 . rcases h with⟨fo,args,F,s,t⟩|⟨s,t⟩
   . refine .call l s w f (t.mono λr c G=>?_)
     cases r with
     |val a=>exact G
     |panic v=>simp_all
   . refine .op l w f s ?_
     intro H O I u J;refine iy _ (t H O I u J) (λ_ _ _ ⟨v,L,M,N,g,e,a,c,x,y,z⟩=>⟨v,L,M,N,g,e,a,c,x,y,z⟩) (λ_ _ _ ⟨e,a,c,x,y,z⟩=>⟨e,a,c,x,y,A _ _ _ z⟩)
 . exact .unwanted l B C hd p E q h
end
section
variable{P:Program}(L:hQ P)
def C5(mu:List Nat)(lt:Bool)(o:Oper)(env:Env)(σ:aa):Option AV:=
 match o.op with
 |.load t p=>if lt then(match L.tt t with|some i=>px i σ (au env p)|none=>none)else tZ L mu o env
 |_=>tZ L mu o env
def zl(mu:List Nat)(ops:Array Oper)(n:Nat)(lt:Bool)(σ:aa)(K:Env->Prop)(u:iR K:=.mk):List Nat->Env->Prop
 |[],env=>K env
 | i::S,env=>match ops[i]? with
   |some o=>(Oper.ok n o && o.dst.isSome)=true/\FV (vl ops n env o) (xu (C5 L mu lt o env σ) λa=>zl mu ops n lt σ K u S (aX env o.dst a)) (zl mu ops n lt σ K u S (aX env o.dst (.lit (.tuple #[]))))
   |none=>False
theorem C6{mu:List Nat}{lt:Bool}{o:Oper}{env:Env}{σ:aa}{a:AV}(h:C5 L mu lt o env σ=some a):tZ L mu o env=some a\/(tZ L mu o env=none/\lt=true/\vh L o env σ=some a):=by
 unfold C5 at h;split at h
 . next t p d=>
   cases lt
   . grind
   . simp only[if_true]at h
     split at h
     . next i e=>
       have f:vh L o env σ=some a:=by simp_all
       cases b:tZ L mu o env with
       |none=>grind
       | some g=>
         left;unfold tZ at b;simp only[d,e]at b;split at b
         . next j v off c k=>
           cases c
           simp_all
         . simp_all
         . cases b
     . cases h
 grind
theorem mr{mu:List Nat}{ops:Array Oper}{n:Nat}{lt:Bool}{σ:aa}{K:Env->Prop}{u:iR K}:∀{S:List Nat}{env:Env},zl L mu ops n lt σ K u S env->iQ L mu ops n lt σ S env K
 |[],env,h=>h
 | i :: S,env,h=>by
   unfold zl at h;unfold iQ;split at h
   . next o e=>
     simp only[e];obtain⟨b,f⟩:=h;rw[Bool.and_eq_true]at b;refine⟨b.1,b.2,?_⟩
     have main:(xu (C5 L mu lt o env σ) λa=>zl L mu ops n lt σ K u S (aX env o.dst a))->(match tZ L mu o env with
      |some a=>iQ L mu ops n lt σ S (aX env o.dst a) K
      | none=>lt=true/\(match vh L o env σ with
        |some a=>iQ L mu ops n lt σ S (aX env o.dst a) K
        |none=>False)):=by
      rintro⟨a,g,d⟩;rcases C6 L g with h|⟨h,j,c⟩
      . simp only[h];exact mr d
      . simp only[h,c];exact⟨j,mr d⟩
     exact vm main mr f
   simp_all
def te:Op->Bool
 |.defer _|.go _|.send _ _|.recv _ _ _|.select _ _=>false
 |.call c=>match c.callee with|.builtin .recover=>false|.builtin .close=>false|.invoke _ _=>false|_=>true
 |_=>true
def Mr(m:Mo)(o:Oper)(env:Env)(σ:aa)(R:AV->aa->Prop)(Kp:AV->aa->Prop):Prop:=
 match o.op with
 |.call ⟨.value fo,args,_⟩=>bz P m (au env fo) (args.toList.map (au env)) σ λr b=>match r with|.val a=>R a b|.panic v=>Kp v b
 |_=>aJ P o env σ R Kp
theorem EO{m:Mo}{o:Oper}{env:Env}{σ:aa}{R Kp:AV->aa->Prop}(b:te o.op=true)(h:Mr (P:=P) m o env σ R Kp):Mp P m o env σ R Kp:=by
 unfold Mr at h;split at h
 . next fo args a d=>exact .inl ⟨fo,args,a,d,h⟩
 . exact .inr ⟨(λc e=>by rw[e]at b;cases b),h⟩
def aI(P:Program)(m:Mo)(ops:Array Oper)(n:Nat)(Kp:AV->aa->Prop)(p:iD)(env:Env)(σ:aa)(R:Env->aa->Prop):Prop:=gy P m ops n Kp p env σ R
def Ms(m:Mo)(mu:List Nat)(ops:Array Oper)(n:Nat)(Kp:AV->aa->Prop)(i:Nat)(p:iD)(env:Env)(σ:aa)(go:Env->aa->Prop)(R:Env->aa->Prop)(u:iR go:=.mk):Prop:=
 match ops[i]? with
 | some o=>Oper.ok n o=true/\FV (vl ops n env o) (if nT L o=true then qa (zk L mu o env σ) (λa b=>go (aX env o.dst a) b) Kp else
    if te o.op=true then Mr (P:=P) m o env σ (λa b=>aI P m ops n Kp p (aX env o.dst a) b R) Kp else iC P m ops n Kp i env σ (λenv σ=>aI P m ops n Kp p env σ R)) (go (aX env o.dst (.lit (.tuple #[]))) σ)
 |none=>False
def fY(m:Mo)(mu:List Nat)(ops:Array Oper)(n:Nat)(Kp:AV->aa->Prop):iD->Env->aa->(Env->aa->Prop)->Prop
 |.done,env,σ,R=>R env σ
 |.take S lt p,env,σ,R=>zl L mu ops n lt σ (λa=>fY m mu ops n Kp p a σ R) .mk S env
 |.one i p,env,σ,R=>Ms L m mu ops n Kp i p env σ (λenv σ=>fY m mu ops n Kp p env σ R) R
 |.both i p q,env,σ,R=>Ms L m mu ops n Kp i p env σ (λenv σ=>fY m mu ops n Kp p env σ R) R/\fY m mu ops n Kp q env σ R
theorem r5{m:Mo}{mu:List Nat}{ops:Array Oper}{n:Nat}{Kp:AV->aa->Prop}{p:iD}{R:Env->aa->Prop}(r:∀{env σ},fY L m mu ops n Kp p env σ R->gy P m ops n Kp p env σ R){i:Nat}{env:Env}{σ:aa}
 (h:Ms L m mu ops n Kp i p env σ (λenv σ=>fY L m mu ops n Kp p env σ R) R):iC P m ops n Kp i env σ (λenv σ=>gy P m ops n Kp p env σ R):=by
 unfold Ms at h;split at h
 . next o g=>
   obtain⟨d,h⟩:=h;rcases ya h with⟨s,h⟩|⟨j,b,x,t,u,v,w,k,l,y,q,h⟩
   . split at h
     . next f=>
       refine⟨o,g,d,.inl ⟨s,.inr ⟨λc e=>?_,(vk L f h).mono λa z=>r⟩⟩⟩;unfold nT qA at f;simp_all
     . split at h
       . next A=>exact⟨o,g,d,.inl ⟨s,EO A h⟩⟩
       . exact h
   . exact⟨o,g,d,.inr ⟨⟨j,b,x,t,u,v,w,k,l,y,q⟩,r h⟩⟩
 . exact h.elim
theorem gy.fY{m:Mo}(mu:List Nat){ops:Array Oper}{n:Nat}{Kp:AV->aa->Prop}{R:Env->aa->Prop}:∀{p:iD}{env:Env}{σ:aa},fY L m mu ops n Kp p env σ R->gy P m ops n Kp p env σ R
 |.done,_,_,h=>.done h
 |.take S lt p,_,_,h=>gy.take L mu (iQ.mono L (λa h=>gy.fY mu h) (mr L h))
 |.one i p,_,_,h=>gy.one (r5 L (gy.fY mu) h)
 |.both i p q,_,_,h=>gy.both (r5 L (gy.fY mu) h.1) (gy.fY mu h.2)
theorem aI.go{m:Mo}(mu:List Nat){ops:Array Oper}{n:Nat}{Kp:AV->aa->Prop}{R:Env->aa->Prop}{p:iD}{env:Env}{σ:aa}(h:fY L m mu ops n Kp p env σ R):aI P m ops n Kp p env σ R:=gy.fY L mu h
def bd(m:Mo)(fid n:Nat)(ro:Option Nat)(mu:List Nat)(hold:List Entry):Nat->List Item->St->(Exit->St->Prop)->Prop
 |0,todo,s,K=>af P m fid n ro hold todo s K
 | f + 1,todo,s,K=>match todo with
   |[]=>K (.leave none) s
   |.code .ret::_=>K (.leave (some .ret)) s
   |.code .skip::k=>bd m fid n ro mu hold f k s K
   |.code (.label _)::k=>bd m fid n ro mu hold f k s K
   |.inBlock _::k=>bd m fid n ro mu hold f k s K
   |.inScope _::k=>bd m fid n ro mu hold f k s K
   |.code (.seq a b)::k=>bd m fid n ro mu hold f (.code a::.code b::k) s K
   |.code (.block id c)::k=>bd m fid n ro mu hold f (.code c::.inBlock id::k) s K
   |.code (.scope c)::k=>bd m fid n ro mu hold f (.code c::.inScope c::k) s K
   | .code (.exit id)::k=>match exitTo id k with
     |some g=>bd m fid n ro mu hold f g s K
     |none=>K (.leave (some (.exit id))) s
   | .code (.cond c a b)::k=>Operand.ok n c=true/\(match au s.env c with
     |.lit (.bool x)=>ta x (bd m fid n ro mu hold f (.code a::k) s K) (bd m fid n ro mu hold f (.code b::k) s K)
     |_=>False)
   |.code (.region _ ops false)::k=>bd m fid n ro mu hold f (.inRegion ops (List.range ops.size)::k) s K
   | .code (.region id ops true)::k=>match hold.find? λe=>e.id==id with
     |some ⟨_,p⟩=>fY L m mu ops n (λv σ=>∀env,K (.panic v) {s with env,σ}) p s.env s.σ (λenv σ=>af P m fid n ro hold k {s with env,σ} K)
     |none=>af P m fid n ro hold (.code (.region id ops true)::k) s K
   |.inRegion _ []::k=>bd m fid n ro mu hold f k s K
   | .inRegion ops (i::is)::k=>match ops[i]? with
     | some o=>Oper.ok n o=true/\
       FV (vl ops n s.env o) (if nT L o=true then qa (zk L mu o s.env s.σ) (λa d=>bd m fid n ro mu hold f (.inRegion ops is::k) {s with env:=aX s.env o.dst a,σ:=d} K) (λa d=>K (.panic a) {s with σ:=d})
        else if te o.op=true then Mr (P:=P) m o s.env s.σ (λa d=>af P m fid n ro hold (.inRegion ops is::k) {s with env:=aX s.env o.dst a,σ:=d} K) (λa d=>∀env,K (.panic a) {s with env,σ:=d})
        else af P m fid n ro hold (.inRegion ops (i::is)::k) s K) (bd m fid n ro mu hold f (.inRegion ops is::k) {s with env:=aX s.env o.dst (.lit (.tuple #[]))} K)
     |none=>af P m fid n ro hold (.inRegion ops (i::is)::k) s K
   |todo=>af P m fid n ro hold todo s K
theorem Go.bd{m:Mo}{fid n:Nat}{ro:Option Nat}(mu:List Nat)(hold:List Entry):∀(f:Nat){todo:List Item}{s:St}{K:Exit->St->Prop},iW hold todo=true->bd L m fid n ro mu hold f todo s K->Go P m fid n ro todo s K
 |0,_,_,_,g,h=>h g
 | f + 1,todo,s,K,g,h=>by
   unfold bu.bd at h;split at h
   . exact .leave (.inl ⟨rfl,rfl⟩) h
   . exact .leave (.inr (.inl ⟨_,rfl,rfl⟩)) h
   . exact .skip (Go.bd mu hold f (by simpa[iW,jX]using g) h)
   . exact .label (Go.bd mu hold f (by simpa[iW,jX]using g) h)
   . exact .inBlock (Go.bd mu hold f (by simpa[iW,jX]using g) h)
   . exact .inScope (Go.bd mu hold f (by simpa[iW,jX]using g) h)
   . exact .seq (Go.bd mu hold f (by simpa[iW,jX,and_assoc]using g) h)
   . exact .block (Go.bd mu hold f (by simpa[iW,jX]using g) h)
   . exact .scope (Go.bd mu hold f (by simpa[iW,jX]using g) h)
   . split at h
     . next S A=>exact .exit A (Go.bd mu hold f (It A (by simp only[iW,List.all_cons,Bool.and_eq_true]at g ⊢;exact g.2)) h)
     . next A=>exact .leave (.inr (.inr ⟨_,_,rfl,A,rfl⟩)) h
   . next c a b k=>
     obtain⟨B,u⟩:=h;split at u
     . next x C=>
       refine .cond C B ?_;cases x
       . exact Go.bd mu hold f (by simp only[iW,List.all_cons,Bool.and_eq_true,jX]at g ⊢;simp_all) (u.2 rfl)
       . exact Go.bd mu hold f (by simp only[iW,List.all_cons,Bool.and_eq_true,jX]at g ⊢;simp_all) (u.1 rfl)
     simp_all
   . exact .region (Go.bd mu hold f (by simpa[iW,jX]using g) h)
   . next id ops k=>
     split at h
     . next E p N=>
       have F:qE ops ⟨E,p⟩=true:=by simp only[iW,List.all_cons,jX,N,Bool.and_eq_true]at g;exact g.1
       simp only[qE,Bool.and_eq_true]at F;obtain⟨env,σ,D,rc⟩:=s;refine Go.draw L.mixed F.1 λl B u O=>?_
       exact cE.mono (λenv σ h=>h (by simp only[iW,List.all_cons,Bool.and_eq_true]at g ⊢;exact g.2)) _ _ _ (gy.fY L mu h _ _ _ F.2 l B u O (λ_ _ _ h=>by cases h))
     . exact h g
   . exact .xS (Go.bd mu hold f (by simpa[iW,jX]using g) h)
   . next ops i is k=>
     split at h
     . next o G=>
       obtain⟨w,h⟩:=h;have q:iW hold (.inRegion ops is::k)=true:=by simpa[iW,jX]using g
       rcases ya h with⟨M,t⟩|⟨j,b,x,d,T,t,Q,hd,H,C,I,h⟩
       . split at t
         . next y=>
           refine .op G M w (λc e=>?_) ?_
           . unfold nT qA at y;simp_all
           . exact(vk L y t).mono λa r J=>Go.bd mu hold f q J
         . split at t
           . next R=>
             have z:cE P m ops n (λa r=>∀env,K (.panic a) {s with env,σ:=r}) [i] s.env s.σ (λenv r=>Go P m fid n ro (.inRegion ops is::k) {s with env,σ:=r} K):=⟨o,G,w,.inl ⟨M,(EO R t).mono λa r J=>J q⟩⟩
             exact Go.QY (λv env σ h=>h env) z
           . exact t g
       . exact .unwanted G t Q hd H C I (Go.bd mu hold f q h)
     . exact h g
   . exact h g
end
end Go.bu
