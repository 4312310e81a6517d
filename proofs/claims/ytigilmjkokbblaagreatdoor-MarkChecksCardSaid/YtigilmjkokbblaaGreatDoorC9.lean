/- Part 9 of the proof. -/
import Derived.Test.YtigilmjkokbblaaGreatDoorC8
set_option linter.all false
namespace Go.bd
open Go.Conc
def mJ(pl:List Entry):Code->Bool
 |.seq a b=>mJ pl a && mJ pl b
 |.block _ c=>mJ pl c
 |.scope c=>mJ pl c
 |.cond _ a b=>mJ pl a && mJ pl b
 |.loop c=>mJ pl c
 |.rangeFunc _ _ a c=>mJ pl a && mJ pl c
 |.region id ops true=>match pl.find? λe=>e.id==id with|some e=>AX ops e|none=>true
 |_=>true
def lr(pl:List Entry)(todo:List Item):Bool:=todo.all fun|.code c=>mJ pl c|_=>true
theorem JZ{pl:List Entry}{id:Nat}{k k':List Item}(h:exitTo id k=some k')(a:lr pl k=true):lr pl k'=true:=by unfold lr at a ⊢;rw[List.all_eq_true]at a ⊢;exact λx b=>a x (qK h x b)
def ab(P:Program)(m:Mo)(fid n:Nat)(ro:Option Nat)(hold:List Entry)(todo:List Item)(s:St)(K:Exit->St->Prop):Prop:=lr hold todo=true->Go P m fid n ro todo s K
def wB(ops:Array Oper)(n:Nat)(env:Env)(o:Oper):Option Bool:=
 match o.guard with
 |none=>some true
 | some (j,b)=>match (ops[j]?).bind (·.dst)with
   | some d=>if d<n then(match env d with
     |.lit (.bool x)=>some (if b then x else !x)
     |.lit (.tuple _)=>some false
     |_=>none)else none
   |none=>none
def Ny(x:Option Bool)(A B:Prop)(u:kj A:=.mk)(v:kj B:=.mk):Prop:=match x with|some b=>uM b A B u v|none=>False
@[simp] theorem nA{b:Bool}{A B:Prop}{u:kj A}{v:kj B}:Ny (some b) A B u v=uM b A B:=propext Iff.rfl
theorem wC{ops:Array Oper}{n:Nat}{env:Env}{o:Oper}{go no go' f:Prop}{u:kj go}{v:kj no}(a:go->go')(c:no->f)(h:Ny (wB ops n env o) go no u v):rh ops n env o go' f:=by
 unfold wB at h;unfold rh;cases k:o.guard with
 |none=>rw[k]at h;exact a (h.1 rfl)
 | some p=>
   obtain⟨j,b⟩:=p;rw[k]at h;simp only at h ⊢;cases hd:(ops[j]?).bind (·.dst)with
   |none=>rw[hd]at h;exact h.elim
   | some d=>
     rw[hd]at h;simp only at h ⊢;by_cases g:d<n
     . rw [if_pos g]at h
       refine⟨g,?_⟩;split at h
       . next x i=>
         simp only[i];refine⟨λe=>?_,λe=>?_⟩
         . subst e
           cases x
           . exact a (h.1 rfl)
           . exact a (h.1 rfl)
         . cases x<;>cases b<;>simp at e
           . exact c (h.2 rfl)
           . exact c (h.2 rfl)
       . next x i=>simp only[i];exact c (h.2 rfl)
       . exact h.elim
     . rw[if_neg g]at h
       exact h.elim
theorem zs{ops:Array Oper}{n:Nat}{env:Env}{o:Oper}{go no:Prop}{u:kj go}{v:kj no}(h:Ny (wB ops n env o) go no u v):
 (cu ops n env o/\go)\/∃j b x d a,o.guard=some (j,b)/\ops[j]?=some a/\a.dst=some d/\d<n/\env d=.lit x/\RJ x b/\no:=
 sd (wC id id h)
section
variable{P:Program}{m:Mo}{fid n:Nat}{ro:Option Nat}{D:List lQ}{rc:Rec}{K:Exit->St->Prop}{k:List Item}{ops:Array Oper}
theorem Go.RZ{Kp:AV->aa->Prop}{i:Nat}{is:List Nat}{env:Env}{σ:aa}(w:∀v env σ,Kp v σ->K (.panic v) ⟨env,σ,D,rc⟩)
 (h:de P m ops n Kp [i] env σ (λenv σ=>Go P m fid n ro (.inRegion ops is::k) ⟨env,σ,D,rc⟩ K)):Go P m fid n ro (.inRegion ops (i::is)::k) ⟨env,σ,D,rc⟩ K:=by
 obtain⟨o,l,f,h⟩:=h;rcases h with⟨A,h⟩|⟨⟨j,b,x,d,Q,C,E,hd,p,F,q⟩,h⟩
 . rcases h with⟨fo,args,G,s,t⟩|⟨s,t⟩
   . refine .call l s A f (t.mono λr c B=>?_)
     cases r with
     |val a=>exact B
     |panic v=>exact w _ _ _ B
   . refine .op l A f s ?_
     intro H O I u J;refine iq _ (t H O I u J) (λ_ _ _ ⟨v,L,M,N,g,e,a,c,x,y,z⟩=>⟨v,L,M,N,g,e,a,c,x,y,z⟩) (λ_ _ _ ⟨e,a,c,x,y,z⟩=>⟨e,a,c,x,y,w _ _ _ z⟩)
 . exact .unwanted l C E hd p F q h
end
section
variable{P:Program}(L:iG P)
def Ew(mu:List Nat)(lt:Bool)(o:Oper)(env:Env)(σ:aa):Option AV:=
 match o.op with
 |.load t p=>if lt then(match L.tt t with|some i=>oW i σ (ar env p)|none=>none)else vu L mu o env
 |_=>vu L mu o env
def Ey(mu:List Nat)(ops:Array Oper)(n:Nat)(lt:Bool)(σ:aa)(K:Env->Prop)(u:kj K:=.mk):List Nat->Env->Prop
 |[],env=>K env
 | i::S,env=>match ops[i]? with
   |some o=>(Oper.ok n o && o.dst.isSome)=true/\Ny (wB ops n env o) (yJ (Ew L mu lt o env σ) λa=>Ey mu ops n lt σ K u S (bo env o.dst a)) (Ey mu ops n lt σ K u S (bo env o.dst (.lit (.tuple #[]))))
   |none=>False
theorem Ez{mu:List Nat}{lt:Bool}{o:Oper}{env:Env}{σ:aa}{a:AV}(h:Ew L mu lt o env σ=some a):vu L mu o env=some a\/(vu L mu o env=none/\lt=true/\uK L o env σ=some a):=by
 unfold Ew at h;split at h
 . next t p f=>
   cases lt
   . simp only[Bool.false_eq_true,if_false]at h;exact .inl h
   . simp only[if_true]at h
     split at h
     . next i g=>
       have j:uK L o env σ=some a:=by unfold uK;simp only[f,g];exact h
       cases d:vu L mu o env with
       |none=>exact .inr ⟨rfl,rfl,j⟩
       | some m=>
         left;unfold vu at d;simp only[f,g]at d;split at d
         . next k v off c e=>cases c;rw[e]at h;simp only[oW]at h;rw[<-d,h]
         . next k b l hole off c e=>cases c;rw[e]at h;simp only[oW]at h;rw[<-d,h]
         . cases d
     . cases h
 . exact .inl h
theorem qi{mu:List Nat}{ops:Array Oper}{n:Nat}{lt:Bool}{σ:aa}{K:Env->Prop}{u:kj K}:∀{S:List Nat}{env:Env},Ey L mu ops n lt σ K u S env->jC L mu ops n lt σ S env K
 |[],env,h=>h
 | i :: S,env,h=>by
   unfold Ey at h;unfold jC;split at h
   . next o e=>
     simp only[e];obtain⟨b,f⟩:=h;rw[Bool.and_eq_true]at b;refine⟨b.1,b.2,?_⟩
     have main:(yJ (Ew L mu lt o env σ) λa=>Ey L mu ops n lt σ K u S (bo env o.dst a))->(match vu L mu o env with
      |some a=>jC L mu ops n lt σ S (bo env o.dst a) K
      | none=>lt=true/\(match uK L o env σ with
        |some a=>jC L mu ops n lt σ S (bo env o.dst a) K
        |none=>False)):=by
      rintro⟨a,g,d⟩;rcases Ez L g with h|⟨h,j,c⟩
      . simp only[h];exact qi d
      . simp only[h,c];exact⟨j,qi d⟩
     exact wC main qi f
   . exact h.elim
def uO:Op->Bool
 |.defer _|.go _|.send _ _|.recv _ _ _|.select _ _=>false
 |.call c=>match c.callee with|.builtin .recover=>false|.builtin .close=>false|.invoke _ _=>false|_=>true
 |_=>true
def Nz(m:Mo)(o:Oper)(env:Env)(σ:aa)(R:AV->aa->Prop)(Kp:AV->aa->Prop):Prop:=
 match o.op with
 |.call ⟨.value fo,args,_⟩=>cN P m (ar env fo) (args.toList.map (ar env)) σ λr b=>match r with|.val a=>R a b|.panic v=>Kp v b
 |_=>aK P o env σ R Kp
theorem Gf{m:Mo}{o:Oper}{env:Env}{σ:aa}{R Kp:AV->aa->Prop}(b:uO o.op=true)(h:Nz (P:=P) m o env σ R Kp):Nw P m o env σ R Kp:=by
 unfold Nz at h;split at h
 . next fo args a d=>exact .inl ⟨fo,args,a,d,h⟩
 . exact .inr ⟨(λc e=>by rw[e]at b;cases b),h⟩
def aU(P:Program)(m:Mo)(ops:Array Oper)(n:Nat)(Kp:AV->aa->Prop)(p:kS)(env:Env)(σ:aa)(R:Env->aa->Prop):Prop:=jD P m ops n Kp p env σ R
def NA(m:Mo)(mu:List Nat)(ops:Array Oper)(n:Nat)(Kp:AV->aa->Prop)(i:Nat)(p:kS)(env:Env)(σ:aa)(go:Env->aa->Prop)(R:Env->aa->Prop)(u:kj go:=.mk):Prop:=
 match ops[i]? with
 | some o=>Oper.ok n o=true/\Ny (wB ops n env o) (if pD L o=true then rk (A7 L mu o env σ) (λa b=>go (bo env o.dst a) b) Kp else
    if uO o.op=true then Nz (P:=P) m o env σ (λa b=>aU P m ops n Kp p (bo env o.dst a) b R) Kp else jh P m ops n Kp i env σ (λenv σ=>aU P m ops n Kp p env σ R)) (go (bo env o.dst (.lit (.tuple #[]))) σ)
 |none=>False
def gZ(m:Mo)(mu:List Nat)(ops:Array Oper)(n:Nat)(Kp:AV->aa->Prop):kS->Env->aa->(Env->aa->Prop)->Prop
 |.done,env,σ,R=>R env σ
 |.take S lt p,env,σ,R=>Ey L mu ops n lt σ (λa=>gZ m mu ops n Kp p a σ R) .mk S env
 |.one i p,env,σ,R=>NA L m mu ops n Kp i p env σ (λenv σ=>gZ m mu ops n Kp p env σ R) R
 |.both i p q,env,σ,R=>NA L m mu ops n Kp i p env σ (λenv σ=>gZ m mu ops n Kp p env σ R) R/\gZ m mu ops n Kp q env σ R
theorem tD{m:Mo}{mu:List Nat}{ops:Array Oper}{n:Nat}{Kp:AV->aa->Prop}{p:kS}{R:Env->aa->Prop}(r:∀{env σ},gZ L m mu ops n Kp p env σ R->jD P m ops n Kp p env σ R){i:Nat}{env:Env}{σ:aa}
 (h:NA L m mu ops n Kp i p env σ (λenv σ=>gZ L m mu ops n Kp p env σ R) R):jh P m ops n Kp i env σ (λenv σ=>jD P m ops n Kp p env σ R):=by
 unfold NA at h;split at h
 . next o g=>
   obtain⟨f,h⟩:=h;rcases zs h with⟨s,h⟩|⟨j,b,x,t,u,v,w,k,l,y,q,h⟩
   . split at h
     . next d=>
       refine⟨o,g,f,.inl ⟨s,.inr ⟨λc e=>?_,(wA L d h).mono λa z=>r⟩⟩⟩;unfold pD qJ at d;rw[e]at d;cases d
     . split at h
       . next A=>exact⟨o,g,f,.inl ⟨s,Gf A h⟩⟩
       . exact h
   . exact⟨o,g,f,.inr ⟨⟨j,b,x,t,u,v,w,k,l,y,q⟩,r h⟩⟩
 . exact h.elim
theorem jD.gZ{m:Mo}(mu:List Nat){ops:Array Oper}{n:Nat}{Kp:AV->aa->Prop}{R:Env->aa->Prop}:∀{p:kS}{env:Env}{σ:aa},gZ L m mu ops n Kp p env σ R->jD P m ops n Kp p env σ R
 |.done,_,_,h=>.done h
 |.take S lt p,_,_,h=>jD.take L mu (jC.mono L (λa h=>jD.gZ mu h) (qi L h))
 |.one i p,_,_,h=>jD.one (tD L (jD.gZ mu) h)
 |.both i p q,_,_,h=>jD.both (tD L (jD.gZ mu) h.1) (jD.gZ mu h.2)
theorem aU.go{m:Mo}(mu:List Nat){ops:Array Oper}{n:Nat}{Kp:AV->aa->Prop}{R:Env->aa->Prop}{p:kS}{env:Env}{σ:aa}(h:gZ L m mu ops n Kp p env σ R):aU P m ops n Kp p env σ R:=jD.gZ L mu h
def bx(m:Mo)(fid n:Nat)(ro:Option Nat)(mu:List Nat)(hold:List Entry):Nat->List Item->St->(Exit->St->Prop)->Prop
 |0,todo,s,K=>ab P m fid n ro hold todo s K
 | f + 1,todo,s,K=>match todo with
   |[]=>K (.leave none) s
   |.code .ret::_=>K (.leave (some .ret)) s
   |.code .skip::k=>bx m fid n ro mu hold f k s K
   |.code (.label _)::k=>bx m fid n ro mu hold f k s K
   |.inBlock _::k=>bx m fid n ro mu hold f k s K
   |.inScope _::k=>bx m fid n ro mu hold f k s K
   |.code (.seq a b)::k=>bx m fid n ro mu hold f (.code a::.code b::k) s K
   |.code (.block id c)::k=>bx m fid n ro mu hold f (.code c::.inBlock id::k) s K
   |.code (.scope c)::k=>bx m fid n ro mu hold f (.code c::.inScope c::k) s K
   | .code (.exit id)::k=>match exitTo id k with
     |some g=>bx m fid n ro mu hold f g s K
     |none=>K (.leave (some (.exit id))) s
   | .code (.cond c a b)::k=>Operand.ok n c=true/\(match ar s.env c with
     |.lit (.bool x)=>uM x (bx m fid n ro mu hold f (.code a::k) s K) (bx m fid n ro mu hold f (.code b::k) s K)
     |_=>False)
   |.code (.region _ ops false)::k=>bx m fid n ro mu hold f (.inRegion ops (List.range ops.size)::k) s K
   | .code (.region id ops true)::k=>match hold.find? λe=>e.id==id with
     |some ⟨_,p⟩=>gZ L m mu ops n (λv σ=>∀env,K (.panic v) {s with env,σ}) p s.env s.σ (λenv σ=>ab P m fid n ro hold k {s with env,σ} K)
     |none=>ab P m fid n ro hold (.code (.region id ops true)::k) s K
   |.inRegion _ []::k=>bx m fid n ro mu hold f k s K
   | .inRegion ops (i::is)::k=>match ops[i]? with
     | some o=>Oper.ok n o=true/\
       Ny (wB ops n s.env o) (if pD L o=true then rk (A7 L mu o s.env s.σ) (λa d=>bx m fid n ro mu hold f (.inRegion ops is::k) {s with env:=bo s.env o.dst a,σ:=d} K) (λa d=>K (.panic a) {s with σ:=d})
        else if uO o.op=true then Nz (P:=P) m o s.env s.σ (λa d=>ab P m fid n ro hold (.inRegion ops is::k) {s with env:=bo s.env o.dst a,σ:=d} K) (λa d=>∀env,K (.panic a) {s with env,σ:=d})
        else ab P m fid n ro hold (.inRegion ops (i::is)::k) s K) (bx m fid n ro mu hold f (.inRegion ops is::k) {s with env:=bo s.env o.dst (.lit (.tuple #[]))} K)
     |none=>ab P m fid n ro hold (.inRegion ops (i::is)::k) s K
   |todo=>ab P m fid n ro hold todo s K
theorem Go.bx{m:Mo}{fid n:Nat}{ro:Option Nat}(mu:List Nat)(hold:List Entry):∀(f:Nat){todo:List Item}{s:St}{K:Exit->St->Prop},lr hold todo=true->bx L m fid n ro mu hold f todo s K->Go P m fid n ro todo s K
 |0,_,_,_,g,h=>h g
 | f + 1,todo,s,K,g,h=>by
   unfold bd.bx at h;split at h
   . exact .leave (.inl ⟨rfl,rfl⟩) h
   . exact .leave (.inr (.inl ⟨_,rfl,rfl⟩)) h
   . exact .skip (Go.bx mu hold f (by simpa[lr,mJ]using g) h)
   . exact .label (Go.bx mu hold f (by simpa[lr,mJ]using g) h)
   . exact .inBlock (Go.bx mu hold f (by simpa[lr,mJ]using g) h)
   . exact .inScope (Go.bx mu hold f (by simpa[lr,mJ]using g) h)
   . exact .seq (Go.bx mu hold f (by simpa[lr,mJ,and_assoc]using g) h)
   . exact .block (Go.bx mu hold f (by simpa[lr,mJ]using g) h)
   . exact .scope (Go.bx mu hold f (by simpa[lr,mJ]using g) h)
   . split at h
     . next S A=>exact .exit A (Go.bx mu hold f (JZ A (by simp only[lr,List.all_cons,Bool.and_eq_true]at g ⊢;exact g.2)) h)
     . next A=>exact .leave (.inr (.inr ⟨_,_,rfl,A,rfl⟩)) h
   . next c a b k=>
     obtain⟨B,w⟩:=h;split at w
     . next x C=>
       refine .cond C B ?_;cases x
       . exact Go.bx mu hold f (by simp only[lr,List.all_cons,Bool.and_eq_true,mJ]at g ⊢;exact⟨g.1.2,g.2⟩) (w.2 rfl)
       . exact Go.bx mu hold f (by simp only[lr,List.all_cons,Bool.and_eq_true,mJ]at g ⊢;exact⟨g.1.1,g.2⟩) (w.1 rfl)
     . exact w.elim
   . exact .region (Go.bx mu hold f (by simpa[lr,mJ]using g) h)
   . next id ops k=>
     split at h
     . next E p N=>
       have F:AX ops ⟨E,p⟩=true:=by simp only[lr,List.all_cons,mJ,N,Bool.and_eq_true]at g;exact g.1
       simp only[AX,Bool.and_eq_true]at F;obtain⟨env,σ,D,rc⟩:=s;refine Go.draw L.mixed F.1 λl B w O=>?_
       exact de.mono (λenv σ h=>h (by simp only[lr,List.all_cons,Bool.and_eq_true]at g ⊢;exact g.2)) _ _ _ (jD.gZ L mu h _ _ _ F.2 l B w O (λ_ _ _ h=>by cases h))
     . exact h g
   . exact .zi (Go.bx mu hold f (by simpa[lr,mJ]using g) h)
   . next ops i is k=>
     split at h
     . next o G=>
       obtain⟨y,h⟩:=h;have q:lr hold (.inRegion ops is::k)=true:=by simpa[lr,mJ]using g
       rcases zs h with⟨M,u⟩|⟨j,b,x,d,T,u,Q,hd,H,C,I,h⟩
       . split at u
         . next t=>
           refine .op G M y (λc e=>?_) ?_
           . unfold pD qJ at t;rw[e]at t;cases t
           . exact(wA L t u).mono λa r J=>Go.bx mu hold f q J
         . split at u
           . next R=>
             have z:de P m ops n (λa r=>∀env,K (.panic a) {s with env,σ:=r}) [i] s.env s.σ (λenv r=>Go P m fid n ro (.inRegion ops is::k) {s with env,σ:=r} K):=⟨o,G,y,.inl ⟨M,(Gf R u).mono λa r J=>J q⟩⟩
             exact Go.RZ (λv env σ h=>h env) z
           . exact u g
       . exact .unwanted G u Q hd H C I (Go.bx mu hold f q h)
     . exact h g
   . exact h g
end
end Go.bd
