import Derived.Test.YtldmpfccgajobaaGreatDoorV5
set_option linter.all false
namespace Go.bG
open Go.Conc
def lf(pl:List Entry):Code->Bool
 |.seq a b=>lf pl a && lf pl b
 |.block _ c=>lf pl c
 |.scope c=>lf pl c
 |.cond _ a b=>lf pl a && lf pl b
 |.loop c=>lf pl c
 |.rangeFunc _ _ a c=>lf pl a && lf pl c
 |.region id ops true=>match pl.find? λe=>e.id==id with|some e=>xE ops e|none=>true
 |_=>true
def jP(pl:List Entry)(todo:List Item):Bool:=todo.all fun|.code c=>lf pl c|_=>true
theorem F5{pl:List Entry}{id:Nat}{k k':List Item}(h:exitTo id k=some k')(a:jP pl k=true):jP pl k'=true:=by unfold jP at a ⊢;rw[List.all_eq_true]at a ⊢;exact λx b=>a x (oh h x b)
def ab(P:Program)(m:Mo)(fid n:Nat)(ro:Option Nat)(hold:List Entry)(todo:List Item)(s:St)(K:Exit->St->Prop):Prop:=jP hold todo=true->Go P m fid n ro todo s K
def tH(ops:Array Oper)(n:Nat)(env:Env)(o:Oper):Option Bool:=
 match o.guard with
 |none=>some true
 | some (j,b)=>match (ops[j]?).bind (·.dst)with
   | some d=>if d<n then(match env d with
     |.lit (.bool x)=>some (if b then x else !x)
     |.lit (.tuple _)=>some false
     |_=>none)else none
   |none=>none
def Jm(x:Option Bool)(A B:Prop)(u:iS A:=.mk)(v:iS B:=.mk):Prop:=match x with|some b=>rA b A B u v|none=>False
@[simp] theorem lw{b:Bool}{A B:Prop}{u:iS A}{v:iS B}:Jm (some b) A B u v=rA b A B:=propext Iff.rfl
theorem tJ{ops:Array Oper}{n:Nat}{env:Env}{o:Oper}{go no go' f:Prop}{u:iS go}{v:iS no}(a:go->go')(c:no->f)(h:Jm (tH ops n env o) go no u v):oE ops n env o go' f:=by
 unfold tH at h;unfold oE;cases k:o.guard with
 |none=>rw[k]at h;exact a (h.1 rfl)
 | some p=>
   obtain⟨j,b⟩:=p;rw[k]at h;simp only at h ⊢;cases hd:(ops[j]?).bind (·.dst)with
   |none=>rw[hd]at h;exact h.elim
   | some d=>
     rw[hd]at h;simp only at h ⊢;by_cases g:d<n
     . rw [if_pos g]at h
       refine⟨g,?_⟩;split at h
       . next x i=>
         simp only[i];refine⟨λe=>?_,λe=>?_⟩
         . subst e
           cases x
           . exact a (h.1 rfl)
           . exact a (h.1 rfl)
         . cases x<;>cases b<;>simp at e
           . exact c (h.2 rfl)
           . exact c (h.2 rfl)
       . next x i=>simp only[i];exact c (h.2 rfl)
       . exact h.elim
     . rw[if_neg g]at h
       exact h.elim
theorem v7{ops:Array Oper}{n:Nat}{env:Env}{o:Oper}{go no:Prop}{u:iS go}{v:iS no}(h:Jm (tH ops n env o) go no u v):
 (bK ops n env o/\go)\/∃j b x d a,o.guard=some (j,b)/\ops[j]?=some a/\a.dst=some d/\d<n/\env d=.lit x/\Nf x b/\no:=
 pv (tJ id id h)
section
variable{P:Program}{m:Mo}{fid n:Nat}{ro:Option Nat}{D:List kL}{rc:Rec}{K:Exit->St->Prop}{k:List Item}{ops:Array Oper}
theorem Go.Nr{Kp:AV->aa->Prop}{i:Nat}{is:List Nat}{env:Env}{σ:aa}(w:∀v env σ,Kp v σ->K (.panic v) ⟨env,σ,D,rc⟩)
 (h:ci P m ops n Kp [i] env σ (λenv σ=>Go P m fid n ro (.inRegion ops is::k) ⟨env,σ,D,rc⟩ K)):Go P m fid n ro (.inRegion ops (i::is)::k) ⟨env,σ,D,rc⟩ K:=by
 obtain⟨o,l,f,h⟩:=h;rcases h with⟨A,h⟩|⟨⟨j,b,x,d,Q,C,E,hd,p,F,q⟩,h⟩
 . rcases h with⟨fo,args,G,s,t⟩|⟨s,t⟩
   . refine .call l s A f (t.mono λr c B=>?_)
     cases r with
     |val a=>exact B
     |panic v=>exact w _ _ _ B
   . refine .op l A f s ?_
     intro H O I u J;refine lg _ (t H O I u J) (λ_ _ _ ⟨v,L,M,N,g,e,a,c,x,y,z⟩=>⟨v,L,M,N,g,e,a,c,x,y,z⟩) (λ_ _ _ ⟨e,a,c,x,y,z⟩=>⟨e,a,c,x,y,w _ _ _ z⟩)
 . exact .unwanted l C E hd p F q h
end
section
variable{P:Program}(L:jg P)
def Bb(mu:List Nat)(lt:Bool)(o:Oper)(env:Env)(σ:aa):Option AV:=
 match o.op with
 |.load t p=>if lt then(match L.tt t with|some i=>mH i σ (am env p)|none=>none)else sA L mu o env
 |_=>sA L mu o env
def Bc(mu:List Nat)(ops:Array Oper)(n:Nat)(lt:Bool)(σ:aa)(K:Env->Prop)(u:iS K:=.mk):List Nat->Env->Prop
 |[],env=>K env
 | i::S,env=>match ops[i]? with
   |some o=>(Oper.ok n o && o.dst.isSome)=true/\Jm (tH ops n env o) (vz (Bb L mu lt o env σ) λa=>Bc mu ops n lt σ K u S (aV env o.dst a)) (Bc mu ops n lt σ K u S (aV env o.dst (.lit (.tuple #[]))))
   |none=>False
theorem Bd{mu:List Nat}{lt:Bool}{o:Oper}{env:Env}{σ:aa}{a:AV}(h:Bb L mu lt o env σ=some a):sA L mu o env=some a\/(sA L mu o env=none/\lt=true/\rx L o env σ=some a):=by
 unfold Bb at h;split at h
 . next t p f=>
   cases lt
   . simp only[Bool.false_eq_true,if_false]at h;exact .inl h
   . simp only[if_true]at h
     split at h
     . next i g=>
       have j:rx L o env σ=some a:=by unfold rx;simp only[f,g];exact h
       cases d:sA L mu o env with
       |none=>exact .inr ⟨rfl,rfl,j⟩
       | some m=>
         left;unfold sA at d;simp only[f,g]at d;split at d
         . next k v off c e=>cases c;rw[e]at h;simp only[mH]at h;rw[<-d,h]
         . next k b l hole off c e=>cases c;rw[e]at h;simp only[mH]at h;rw[<-d,h]
         . cases d
     . cases h
 . exact .inl h
theorem nI{mu:List Nat}{ops:Array Oper}{n:Nat}{lt:Bool}{σ:aa}{K:Env->Prop}{u:iS K}:∀{S:List Nat}{env:Env},Bc L mu ops n lt σ K u S env->il L mu ops n lt σ S env K
 |[],env,h=>h
 | i :: S,env,h=>by
   unfold Bc at h;unfold il;split at h
   . next o e=>
     simp only[e];obtain⟨b,f⟩:=h;rw[Bool.and_eq_true]at b;refine⟨b.1,b.2,?_⟩
     have main:(vz (Bb L mu lt o env σ) λa=>Bc L mu ops n lt σ K u S (aV env o.dst a))->(match sA L mu o env with
      |some a=>il L mu ops n lt σ S (aV env o.dst a) K
      | none=>lt=true/\(match rx L o env σ with
        |some a=>il L mu ops n lt σ S (aV env o.dst a) K
        |none=>False)):=by
      rintro⟨a,g,d⟩;rcases Bd L g with h|⟨h,j,c⟩
      . simp only[h];exact nI d
      . simp only[h,c];exact⟨j,nI d⟩
     exact tJ main nI f
   . exact h.elim
def rC:Op->Bool
 |.defer _|.go _|.send _ _|.recv _ _ _|.select _ _=>false
 |.call c=>match c.callee with|.builtin .recover=>false|.builtin .close=>false|.invoke _ _=>false|_=>true
 |_=>true
def Jn(m:Mo)(o:Oper)(env:Env)(σ:aa)(R:AV->aa->Prop)(Kp:AV->aa->Prop):Prop:=
 match o.op with
 |.call ⟨.value fo,args,_⟩=>dl P m (am env fo) (args.toList.map (am env)) σ λr b=>match r with|.val a=>R a b|.panic v=>Kp v b
 |_=>aE P o env σ R Kp
theorem CA{m:Mo}{o:Oper}{env:Env}{σ:aa}{R Kp:AV->aa->Prop}(b:rC o.op=true)(h:Jn (P:=P) m o env σ R Kp):Jk P m o env σ R Kp:=by
 unfold Jn at h;split at h
 . next fo args a d=>exact .inl ⟨fo,args,a,d,h⟩
 . exact .inr ⟨(λc e=>by rw[e]at b;cases b),h⟩
def aN(P:Program)(m:Mo)(ops:Array Oper)(n:Nat)(Kp:AV->aa->Prop)(p:jl)(env:Env)(σ:aa)(R:Env->aa->Prop):Prop:=im P m ops n Kp p env σ R
def Jo(m:Mo)(mu:List Nat)(ops:Array Oper)(n:Nat)(Kp:AV->aa->Prop)(i:Nat)(p:jl)(env:Env)(σ:aa)(go:Env->aa->Prop)(R:Env->aa->Prop)(u:iS go:=.mk):Prop:=
 match ops[i]? with
 | some o=>Oper.ok n o=true/\Jm (tH ops n env o) (if mY L o=true then oI (xJ L mu o env σ) (λa b=>go (aV env o.dst a) b) Kp else
    if rC o.op=true then Jn (P:=P) m o env σ (λa b=>aN P m ops n Kp p (aV env o.dst a) b R) Kp else gX P m ops n Kp i env σ (λenv σ=>aN P m ops n Kp p env σ R)) (go (aV env o.dst (.lit (.tuple #[]))) σ)
 |none=>False
def fE(m:Mo)(mu:List Nat)(ops:Array Oper)(n:Nat)(Kp:AV->aa->Prop):jl->Env->aa->(Env->aa->Prop)->Prop
 |.done,env,σ,R=>R env σ
 |.take S lt p,env,σ,R=>Bc L mu ops n lt σ (λa=>fE m mu ops n Kp p a σ R) .mk S env
 |.one i p,env,σ,R=>Jo L m mu ops n Kp i p env σ (λenv σ=>fE m mu ops n Kp p env σ R) R
 |.both i p q,env,σ,R=>Jo L m mu ops n Kp i p env σ (λenv σ=>fE m mu ops n Kp p env σ R) R/\fE m mu ops n Kp q env σ R
theorem qD{m:Mo}{mu:List Nat}{ops:Array Oper}{n:Nat}{Kp:AV->aa->Prop}{p:jl}{R:Env->aa->Prop}(r:∀{env σ},fE L m mu ops n Kp p env σ R->im P m ops n Kp p env σ R){i:Nat}{env:Env}{σ:aa}
 (h:Jo L m mu ops n Kp i p env σ (λenv σ=>fE L m mu ops n Kp p env σ R) R):gX P m ops n Kp i env σ (λenv σ=>im P m ops n Kp p env σ R):=by
 unfold Jo at h;split at h
 . next o g=>
   obtain⟨f,h⟩:=h;rcases v7 h with⟨s,h⟩|⟨j,b,x,t,u,v,w,k,l,y,q,h⟩
   . split at h
     . next d=>
       refine⟨o,g,f,.inl ⟨s,.inr ⟨λc e=>?_,(tF L d h).mono λa z=>r⟩⟩⟩;unfold mY og at d;rw[e]at d;cases d
     . split at h
       . next A=>exact⟨o,g,f,.inl ⟨s,CA A h⟩⟩
       . exact h
   . exact⟨o,g,f,.inr ⟨⟨j,b,x,t,u,v,w,k,l,y,q⟩,r h⟩⟩
 . exact h.elim
theorem im.fE{m:Mo}(mu:List Nat){ops:Array Oper}{n:Nat}{Kp:AV->aa->Prop}{R:Env->aa->Prop}:∀{p:jl}{env:Env}{σ:aa},fE L m mu ops n Kp p env σ R->im P m ops n Kp p env σ R
 |.done,_,_,h=>.done h
 |.take S lt p,_,_,h=>im.take L mu (il.mono L (λa h=>im.fE mu h) (nI L h))
 |.one i p,_,_,h=>im.one (qD L (im.fE mu) h)
 |.both i p q,_,_,h=>im.both (qD L (im.fE mu) h.1) (im.fE mu h.2)
theorem aN.go{m:Mo}(mu:List Nat){ops:Array Oper}{n:Nat}{Kp:AV->aa->Prop}{R:Env->aa->Prop}{p:jl}{env:Env}{σ:aa}(h:fE L m mu ops n Kp p env σ R):aN P m ops n Kp p env σ R:=im.fE L mu h
def aZ(m:Mo)(fid n:Nat)(ro:Option Nat)(mu:List Nat)(hold:List Entry):Nat->List Item->St->(Exit->St->Prop)->Prop
 |0,todo,s,K=>ab P m fid n ro hold todo s K
 | f + 1,todo,s,K=>match todo with
   |[]=>K (.leave none) s
   |.code .ret::_=>K (.leave (some .ret)) s
   |.code .skip::k=>aZ m fid n ro mu hold f k s K
   |.code (.label _)::k=>aZ m fid n ro mu hold f k s K
   |.inBlock _::k=>aZ m fid n ro mu hold f k s K
   |.inScope _::k=>aZ m fid n ro mu hold f k s K
   |.code (.seq a b)::k=>aZ m fid n ro mu hold f (.code a::.code b::k) s K
   |.code (.block id c)::k=>aZ m fid n ro mu hold f (.code c::.inBlock id::k) s K
   |.code (.scope c)::k=>aZ m fid n ro mu hold f (.code c::.inScope c::k) s K
   | .code (.exit id)::k=>match exitTo id k with
     |some g=>aZ m fid n ro mu hold f g s K
     |none=>K (.leave (some (.exit id))) s
   | .code (.cond c a b)::k=>Operand.ok n c=true/\(match am s.env c with
     |.lit (.bool x)=>rA x (aZ m fid n ro mu hold f (.code a::k) s K) (aZ m fid n ro mu hold f (.code b::k) s K)
     |_=>False)
   |.code (.region _ ops false)::k=>aZ m fid n ro mu hold f (.inRegion ops (List.range ops.size)::k) s K
   | .code (.region id ops true)::k=>match hold.find? λe=>e.id==id with
     |some ⟨_,p⟩=>fE L m mu ops n (λv σ=>∀env,K (.panic v) {s with env,σ}) p s.env s.σ (λenv σ=>ab P m fid n ro hold k {s with env,σ} K)
     |none=>ab P m fid n ro hold (.code (.region id ops true)::k) s K
   |.inRegion _ []::k=>aZ m fid n ro mu hold f k s K
   | .inRegion ops (i::is)::k=>match ops[i]? with
     | some o=>Oper.ok n o=true/\
       Jm (tH ops n s.env o) (if mY L o=true then oI (xJ L mu o s.env s.σ) (λa d=>aZ m fid n ro mu hold f (.inRegion ops is::k) {s with env:=aV s.env o.dst a,σ:=d} K) (λa d=>K (.panic a) {s with σ:=d})
        else if rC o.op=true then Jn (P:=P) m o s.env s.σ (λa d=>ab P m fid n ro hold (.inRegion ops is::k) {s with env:=aV s.env o.dst a,σ:=d} K) (λa d=>∀env,K (.panic a) {s with env,σ:=d})
        else ab P m fid n ro hold (.inRegion ops (i::is)::k) s K) (aZ m fid n ro mu hold f (.inRegion ops is::k) {s with env:=aV s.env o.dst (.lit (.tuple #[]))} K)
     |none=>ab P m fid n ro hold (.inRegion ops (i::is)::k) s K
   |todo=>ab P m fid n ro hold todo s K
theorem Go.aZ{m:Mo}{fid n:Nat}{ro:Option Nat}(mu:List Nat)(hold:List Entry):∀(f:Nat){todo:List Item}{s:St}{K:Exit->St->Prop},jP hold todo=true->aZ L m fid n ro mu hold f todo s K->Go P m fid n ro todo s K
 |0,_,_,_,g,h=>h g
 | f + 1,todo,s,K,g,h=>by
   unfold bG.aZ at h;split at h
   . exact .leave (.inl ⟨rfl,rfl⟩) h
   . exact .leave (.inr (.inl ⟨_,rfl,rfl⟩)) h
   . exact .skip (Go.aZ mu hold f (by simpa[jP,lf]using g) h)
   . exact .label (Go.aZ mu hold f (by simpa[jP,lf]using g) h)
   . exact .inBlock (Go.aZ mu hold f (by simpa[jP,lf]using g) h)
   . exact .inScope (Go.aZ mu hold f (by simpa[jP,lf]using g) h)
   . exact .seq (Go.aZ mu hold f (by simpa[jP,lf,and_assoc]using g) h)
   . exact .block (Go.aZ mu hold f (by simpa[jP,lf]using g) h)
   . exact .scope (Go.aZ mu hold f (by simpa[jP,lf]using g) h)
   . split at h
     . next S A=>exact .exit A (Go.aZ mu hold f (F5 A (by simp only[jP,List.all_cons,Bool.and_eq_true]at g ⊢;exact g.2)) h)
     . next A=>exact .leave (.inr (.inr ⟨_,_,rfl,A,rfl⟩)) h
   . next c a b k=>
     obtain⟨B,w⟩:=h;split at w
     . next x C=>
       refine .cond C B ?_;cases x
       . exact Go.aZ mu hold f (by simp only[jP,List.all_cons,Bool.and_eq_true,lf]at g ⊢;exact⟨g.1.2,g.2⟩) (w.2 rfl)
       . exact Go.aZ mu hold f (by simp only[jP,List.all_cons,Bool.and_eq_true,lf]at g ⊢;exact⟨g.1.1,g.2⟩) (w.1 rfl)
     . exact w.elim
   . exact .region (Go.aZ mu hold f (by simpa[jP,lf]using g) h)
   . next id ops k=>
     split at h
     . next E p N=>
       have F:xE ops ⟨E,p⟩=true:=by simp only[jP,List.all_cons,lf,N,Bool.and_eq_true]at g;exact g.1
       simp only[xE,Bool.and_eq_true]at F;obtain⟨env,σ,D,rc⟩:=s;refine Go.draw L.mixed F.1 λl B w O=>?_
       exact ci.mono (λenv σ h=>h (by simp only[jP,List.all_cons,Bool.and_eq_true]at g ⊢;exact g.2)) _ _ _ (im.fE L mu h _ _ _ F.2 l B w O (λ_ _ _ h=>by cases h))
     . exact h g
   . exact .vX (Go.aZ mu hold f (by simpa[jP,lf]using g) h)
   . next ops i is k=>
     split at h
     . next o G=>
       obtain⟨y,h⟩:=h;have q:jP hold (.inRegion ops is::k)=true:=by simpa[jP,lf]using g
       rcases v7 h with⟨M,u⟩|⟨j,b,x,d,T,u,Q,hd,H,C,I,h⟩
       . split at u
         . next t=>
           refine .op G M y (λc e=>?_) ?_
           . unfold mY og at t;rw[e]at t;cases t
           . exact(tF L t u).mono λa r J=>Go.aZ mu hold f q J
         . split at u
           . next R=>
             have z:ci P m ops n (λa r=>∀env,K (.panic a) {s with env,σ:=r}) [i] s.env s.σ (λenv r=>Go P m fid n ro (.inRegion ops is::k) {s with env,σ:=r} K):=⟨o,G,y,.inl ⟨M,(CA R u).mono λa r J=>J q⟩⟩
             exact Go.Nr (λv env σ h=>h env) z
           . exact u g
       . exact .unwanted G u Q hd H C I (Go.aZ mu hold f q h)
     . exact h g
   . exact h g
end
end Go.bG
