import Derived.Test.YtldmpfccgajobaaGreatDoorC8
set_option linter.all false
namespace Go.aR
open Go.Conc
def nH(pl:List Entry):Code->Bool
 |.seq a b=>nH pl a && nH pl b
 |.block _ c=>nH pl c
 |.scope c=>nH pl c
 |.cond _ a b=>nH pl a && nH pl b
 |.loop c=>nH pl c
 |.rangeFunc _ _ a c=>nH pl a && nH pl c
 |.region id ops true=>match pl.find? λe=>e.id==id with|some e=>Ae ops e|none=>true
 |_=>true
def lX(pl:List Entry)(todo:List Item):Bool:=todo.all fun|.code c=>nH pl c|_=>true
theorem IK{pl:List Entry}{id:Nat}{k k':List Item}(h:exitTo id k=some k')(a:lX pl k=true):lX pl k'=true:=by unfold lX at a ⊢;rw[List.all_eq_true]at a ⊢;exact λx b=>a x (qN h x b)
def ab(P:Program)(m:Mo)(fid n:Nat)(ro:Option Nat)(hold:List Entry)(todo:List Item)(s:St)(K:Exit->St->Prop):Prop:=lX hold todo=true->Go P m fid n ro todo s K
def vU(ops:Array Oper)(n:Nat)(env:Env)(o:Oper):Option Bool:=
 match o.guard with
 |none=>some true
 | some (j,b)=>match (ops[j]?).bind (·.dst)with
   | some d=>if d<n then(match env d with
     |.lit (.bool x)=>some (if b then x else !x)
     |.lit (.tuple _)=>some false
     |_=>none)else none
   |none=>none
def L4(x:Option Bool)(A B:Prop)(u:kz A:=.mk)(v:kz B:=.mk):Prop:=match x with|some b=>uy b A B u v|none=>False
@[simp] theorem nP{b:Bool}{A B:Prop}{u:kz A}{v:kz B}:L4 (some b) A B u v=uy b A B:=propext Iff.rfl
theorem vV{ops:Array Oper}{n:Nat}{env:Env}{o:Oper}{go no go' f:Prop}{u:kz go}{v:kz no}(a:go->go')(c:no->f)(h:L4 (vU ops n env o) go no u v):rf ops n env o go' f:=by
 unfold vU at h;unfold rf;cases k:o.guard with
 |none=>rw[k]at h;exact a (h.1 rfl)
 | some p=>
   obtain⟨j,b⟩:=p;rw[k]at h;simp only at h ⊢;cases hd:(ops[j]?).bind (·.dst)with
   |none=>rw[hd]at h;exact h.elim
   | some d=>
     rw[hd]at h;simp only at h ⊢;by_cases g:d<n
     . rw [if_pos g]at h
       refine⟨g,?_⟩;split at h
       . next x i=>
         simp only[i];refine⟨λe=>?_,λe=>?_⟩
         . subst e
           cases x
           . exact a (h.1 rfl)
           . exact a (h.1 rfl)
         . cases x<;>cases b<;>simp at e
           . exact c (h.2 rfl)
           . exact c (h.2 rfl)
       . next x i=>simp only[i];exact c (h.2 rfl)
       . exact h.elim
     . rw[if_neg g]at h
       exact h.elim
theorem yA{ops:Array Oper}{n:Nat}{env:Env}{o:Oper}{go no:Prop}{u:kz go}{v:kz no}(h:L4 (vU ops n env o) go no u v):
 (cC ops n env o/\go)\/∃j b x d a,o.guard=some (j,b)/\ops[j]?=some a/\a.dst=some d/\d<n/\env d=.lit x/\PZ x b/\no:=
 rW (vV id id h)
section
variable{P:Program}{m:Mo}{fid n:Nat}{ro:Option Nat}{D:List nj}{rc:Rec}{K:Exit->St->Prop}{k:List Item}{ops:Array Oper}
theorem Go.Qc{Kp:AV->aa->Prop}{i:Nat}{is:List Nat}{env:Env}{σ:aa}(w:∀v env σ,Kp v σ->K (.panic v) ⟨env,σ,D,rc⟩)
 (h:dh P m ops n Kp [i] env σ (λenv σ=>Go P m fid n ro (.inRegion ops is::k) ⟨env,σ,D,rc⟩ K)):Go P m fid n ro (.inRegion ops (i::is)::k) ⟨env,σ,D,rc⟩ K:=by
 obtain⟨o,l,f,h⟩:=h;rcases h with⟨A,h⟩|⟨⟨j,b,x,d,Q,C,E,hd,p,F,q⟩,h⟩
 . rcases h with⟨fo,args,G,s,t⟩|⟨s,t⟩
   . refine .call l s A f (t.mono λr c B=>?_)
     cases r with
     |val a=>exact B
     |panic v=>exact w _ _ _ B
   . refine .op l A f s ?_
     intro H O I u J;refine nI _ (t H O I u J) (λ_ _ _ ⟨v,L,M,N,g,e,a,c,x,y,z⟩=>⟨v,L,M,N,g,e,a,c,x,y,z⟩) (λ_ _ _ ⟨e,a,c,x,y,z⟩=>⟨e,a,c,x,y,w _ _ _ z⟩)
 . exact .unwanted l C E hd p F q h
end
section
variable{P:Program}(L:jr P)
def Ds(mu:List Nat)(lt:Bool)(o:Oper)(env:Env)(σ:aa):Option AV:=
 match o.op with
 |.load t p=>if lt then(match L.tt t with|some i=>pe i σ (aq env p)|none=>none)else va L mu o env
 |_=>va L mu o env
def Dt(mu:List Nat)(ops:Array Oper)(n:Nat)(lt:Bool)(σ:aa)(K:Env->Prop)(u:kz K:=.mk):List Nat->Env->Prop
 |[],env=>K env
 | i::S,env=>match ops[i]? with
   |some o=>(Oper.ok n o && o.dst.isSome)=true/\L4 (vU ops n env o) (xU (Ds L mu lt o env σ) λa=>Dt mu ops n lt σ K u S (bp env o.dst a)) (Dt mu ops n lt σ K u S (bp env o.dst (.lit (.tuple #[]))))
   |none=>False
theorem Du{mu:List Nat}{lt:Bool}{o:Oper}{env:Env}{σ:aa}{a:AV}(h:Ds L mu lt o env σ=some a):va L mu o env=some a\/(va L mu o env=none/\lt=true/\uw L o env σ=some a):=by
 unfold Ds at h;split at h
 . next t p f=>
   cases lt
   . simp only[Bool.false_eq_true,if_false]at h;exact .inl h
   . simp only[if_true]at h
     split at h
     . next i g=>
       have j:uw L o env σ=some a:=by unfold uw;simp only[f,g];exact h
       cases d:va L mu o env with
       |none=>exact .inr ⟨rfl,rfl,j⟩
       | some m=>
         left;unfold va at d;simp only[f,g]at d;split at d
         . next k v off c e=>cases c;rw[e]at h;simp only[pe]at h;rw[<-d,h]
         . next k b l hole off c e=>cases c;rw[e]at h;simp only[pe]at h;rw[<-d,h]
         . cases d
     . cases h
 . exact .inl h
theorem qi{mu:List Nat}{ops:Array Oper}{n:Nat}{lt:Bool}{σ:aa}{K:Env->Prop}{u:kz K}:∀{S:List Nat}{env:Env},Dt L mu ops n lt σ K u S env->jN L mu ops n lt σ S env K
 |[],env,h=>h
 | i :: S,env,h=>by
   unfold Dt at h;unfold jN;split at h
   . next o e=>
     simp only[e];obtain⟨b,f⟩:=h;rw[Bool.and_eq_true]at b;refine⟨b.1,b.2,?_⟩
     have main:(xU (Ds L mu lt o env σ) λa=>Dt L mu ops n lt σ K u S (bp env o.dst a))->(match va L mu o env with
      |some a=>jN L mu ops n lt σ S (bp env o.dst a) K
      | none=>lt=true/\(match uw L o env σ with
        |some a=>jN L mu ops n lt σ S (bp env o.dst a) K
        |none=>False)):=by
      rintro⟨a,g,d⟩;rcases Du L g with h|⟨h,j,c⟩
      . simp only[h];exact qi d
      . simp only[h,c];exact⟨j,qi d⟩
     exact vV main qi f
   . exact h.elim
def uA:Op->Bool
 |.defer _|.go _|.send _ _|.recv _ _ _|.select _ _=>false
 |.call c=>match c.callee with|.builtin .recover=>false|.builtin .close=>false|.invoke _ _=>false|_=>true
 |_=>true
def L5(m:Mo)(o:Oper)(env:Env)(σ:aa)(R:AV->aa->Prop)(Kp:AV->aa->Prop):Prop:=
 match o.op with
 |.call ⟨.value fo,args,_⟩=>dX P m (aq env fo) (args.toList.map (aq env)) σ λr b=>match r with|.val a=>R a b|.panic v=>Kp v b
 |_=>aM P o env σ R Kp
theorem E7{m:Mo}{o:Oper}{env:Env}{σ:aa}{R Kp:AV->aa->Prop}(b:uA o.op=true)(h:L5 (P:=P) m o env σ R Kp):L2 P m o env σ R Kp:=by
 unfold L5 at h;split at h
 . next fo args a d=>exact .inl ⟨fo,args,a,d,h⟩
 . exact .inr ⟨(λc e=>by rw[e]at b;cases b),h⟩
def aI(P:Program)(m:Mo)(ops:Array Oper)(n:Nat)(Kp:AV->aa->Prop)(p:kW)(env:Env)(σ:aa)(R:Env->aa->Prop):Prop:=jO P m ops n Kp p env σ R
def L6(m:Mo)(mu:List Nat)(ops:Array Oper)(n:Nat)(Kp:AV->aa->Prop)(i:Nat)(p:kW)(env:Env)(σ:aa)(go:Env->aa->Prop)(R:Env->aa->Prop)(u:kz go:=.mk):Prop:=
 match ops[i]? with
 | some o=>Oper.ok n o=true/\L4 (vU ops n env o) (if pF L o=true then ri (Ah L mu o env σ) (λa b=>go (bp env o.dst a) b) Kp else
    if uA o.op=true then L5 (P:=P) m o env σ (λa b=>aI P m ops n Kp p (bp env o.dst a) b R) Kp else jw P m ops n Kp i env σ (λenv σ=>aI P m ops n Kp p env σ R)) (go (bp env o.dst (.lit (.tuple #[]))) σ)
 |none=>False
def iy(m:Mo)(mu:List Nat)(ops:Array Oper)(n:Nat)(Kp:AV->aa->Prop):kW->Env->aa->(Env->aa->Prop)->Prop
 |.done,env,σ,R=>R env σ
 |.take S lt p,env,σ,R=>Dt L mu ops n lt σ (λa=>iy m mu ops n Kp p a σ R) .mk S env
 |.one i p,env,σ,R=>L6 L m mu ops n Kp i p env σ (λenv σ=>iy m mu ops n Kp p env σ R) R
 |.both i p q,env,σ,R=>L6 L m mu ops n Kp i p env σ (λenv σ=>iy m mu ops n Kp p env σ R) R/\iy m mu ops n Kp q env σ R
theorem tw{m:Mo}{mu:List Nat}{ops:Array Oper}{n:Nat}{Kp:AV->aa->Prop}{p:kW}{R:Env->aa->Prop}(r:∀{env σ},iy L m mu ops n Kp p env σ R->jO P m ops n Kp p env σ R){i:Nat}{env:Env}{σ:aa}
 (h:L6 L m mu ops n Kp i p env σ (λenv σ=>iy L m mu ops n Kp p env σ R) R):jw P m ops n Kp i env σ (λenv σ=>jO P m ops n Kp p env σ R):=by
 unfold L6 at h;split at h
 . next o g=>
   obtain⟨f,h⟩:=h;rcases yA h with⟨s,h⟩|⟨j,b,x,t,u,v,w,k,l,y,q,h⟩
   . split at h
     . next d=>
       refine⟨o,g,f,.inl ⟨s,.inr ⟨λc e=>?_,(vT L d h).mono λa z=>r⟩⟩⟩;unfold pF qM at d;rw[e]at d;cases d
     . split at h
       . next A=>exact⟨o,g,f,.inl ⟨s,E7 A h⟩⟩
       . exact h
   . exact⟨o,g,f,.inr ⟨⟨j,b,x,t,u,v,w,k,l,y,q⟩,r h⟩⟩
 . exact h.elim
theorem jO.iy{m:Mo}(mu:List Nat){ops:Array Oper}{n:Nat}{Kp:AV->aa->Prop}{R:Env->aa->Prop}:∀{p:kW}{env:Env}{σ:aa},iy L m mu ops n Kp p env σ R->jO P m ops n Kp p env σ R
 |.done,_,_,h=>.done h
 |.take S lt p,_,_,h=>jO.take L mu (jN.mono L (λa h=>jO.iy mu h) (qi L h))
 |.one i p,_,_,h=>jO.one (tw L (jO.iy mu) h)
 |.both i p q,_,_,h=>jO.both (tw L (jO.iy mu) h.1) (jO.iy mu h.2)
theorem aI.go{m:Mo}(mu:List Nat){ops:Array Oper}{n:Nat}{Kp:AV->aa->Prop}{R:Env->aa->Prop}{p:kW}{env:Env}{σ:aa}(h:iy L m mu ops n Kp p env σ R):aI P m ops n Kp p env σ R:=jO.iy L mu h
def bu(m:Mo)(fid n:Nat)(ro:Option Nat)(mu:List Nat)(hold:List Entry):Nat->List Item->St->(Exit->St->Prop)->Prop
 |0,todo,s,K=>ab P m fid n ro hold todo s K
 | f + 1,todo,s,K=>match todo with
   |[]=>K (.leave none) s
   |.code .ret::_=>K (.leave (some .ret)) s
   |.code .skip::k=>bu m fid n ro mu hold f k s K
   |.code (.label _)::k=>bu m fid n ro mu hold f k s K
   |.inBlock _::k=>bu m fid n ro mu hold f k s K
   |.inScope _::k=>bu m fid n ro mu hold f k s K
   |.code (.seq a b)::k=>bu m fid n ro mu hold f (.code a::.code b::k) s K
   |.code (.block id c)::k=>bu m fid n ro mu hold f (.code c::.inBlock id::k) s K
   |.code (.scope c)::k=>bu m fid n ro mu hold f (.code c::.inScope c::k) s K
   | .code (.exit id)::k=>match exitTo id k with
     |some g=>bu m fid n ro mu hold f g s K
     |none=>K (.leave (some (.exit id))) s
   | .code (.cond c a b)::k=>Operand.ok n c=true/\(match aq s.env c with
     |.lit (.bool x)=>uy x (bu m fid n ro mu hold f (.code a::k) s K) (bu m fid n ro mu hold f (.code b::k) s K)
     |_=>False)
   |.code (.region _ ops false)::k=>bu m fid n ro mu hold f (.inRegion ops (List.range ops.size)::k) s K
   | .code (.region id ops true)::k=>match hold.find? λe=>e.id==id with
     |some ⟨_,p⟩=>iy L m mu ops n (λv σ=>∀env,K (.panic v) {s with env,σ}) p s.env s.σ (λenv σ=>ab P m fid n ro hold k {s with env,σ} K)
     |none=>ab P m fid n ro hold (.code (.region id ops true)::k) s K
   |.inRegion _ []::k=>bu m fid n ro mu hold f k s K
   | .inRegion ops (i::is)::k=>match ops[i]? with
     | some o=>Oper.ok n o=true/\
       L4 (vU ops n s.env o) (if pF L o=true then ri (Ah L mu o s.env s.σ) (λa d=>bu m fid n ro mu hold f (.inRegion ops is::k) {s with env:=bp s.env o.dst a,σ:=d} K) (λa d=>K (.panic a) {s with σ:=d})
        else if uA o.op=true then L5 (P:=P) m o s.env s.σ (λa d=>ab P m fid n ro hold (.inRegion ops is::k) {s with env:=bp s.env o.dst a,σ:=d} K) (λa d=>∀env,K (.panic a) {s with env,σ:=d})
        else ab P m fid n ro hold (.inRegion ops (i::is)::k) s K) (bu m fid n ro mu hold f (.inRegion ops is::k) {s with env:=bp s.env o.dst (.lit (.tuple #[]))} K)
     |none=>ab P m fid n ro hold (.inRegion ops (i::is)::k) s K
   |todo=>ab P m fid n ro hold todo s K
theorem Go.bu{m:Mo}{fid n:Nat}{ro:Option Nat}(mu:List Nat)(hold:List Entry):∀(f:Nat){todo:List Item}{s:St}{K:Exit->St->Prop},lX hold todo=true->bu L m fid n ro mu hold f todo s K->Go P m fid n ro todo s K
 |0,_,_,_,g,h=>h g
 | f + 1,todo,s,K,g,h=>by
   unfold aR.bu at h;split at h
   . exact .leave (.inl ⟨rfl,rfl⟩) h
   . exact .leave (.inr (.inl ⟨_,rfl,rfl⟩)) h
   . exact .skip (Go.bu mu hold f (by simpa[lX,nH]using g) h)
   . exact .label (Go.bu mu hold f (by simpa[lX,nH]using g) h)
   . exact .inBlock (Go.bu mu hold f (by simpa[lX,nH]using g) h)
   . exact .inScope (Go.bu mu hold f (by simpa[lX,nH]using g) h)
   . exact .seq (Go.bu mu hold f (by simpa[lX,nH,and_assoc]using g) h)
   . exact .block (Go.bu mu hold f (by simpa[lX,nH]using g) h)
   . exact .scope (Go.bu mu hold f (by simpa[lX,nH]using g) h)
   . split at h
     . next S A=>exact .exit A (Go.bu mu hold f (IK A (by simp only[lX,List.all_cons,Bool.and_eq_true]at g ⊢;exact g.2)) h)
     . next A=>exact .leave (.inr (.inr ⟨_,_,rfl,A,rfl⟩)) h
   . next c a b k=>
     obtain⟨B,w⟩:=h;split at w
     . next x C=>
       refine .cond C B ?_;cases x
       . exact Go.bu mu hold f (by simp only[lX,List.all_cons,Bool.and_eq_true,nH]at g ⊢;exact⟨g.1.2,g.2⟩) (w.2 rfl)
       . exact Go.bu mu hold f (by simp only[lX,List.all_cons,Bool.and_eq_true,nH]at g ⊢;exact⟨g.1.1,g.2⟩) (w.1 rfl)
     . exact w.elim
   . exact .region (Go.bu mu hold f (by simpa[lX,nH]using g) h)
   . next id ops k=>
     split at h
     . next E p N=>
       have F:Ae ops ⟨E,p⟩=true:=by simp only[lX,List.all_cons,nH,N,Bool.and_eq_true]at g;exact g.1
       simp only[Ae,Bool.and_eq_true]at F;obtain⟨env,σ,D,rc⟩:=s;refine Go.draw L.mixed F.1 λl B w O=>?_
       exact dh.mono (λenv σ h=>h (by simp only[lX,List.all_cons,Bool.and_eq_true]at g ⊢;exact g.2)) _ _ _ (jO.iy L mu h _ _ _ F.2 l B w O (λ_ _ _ h=>by cases h))
     . exact h g
   . exact .yt (Go.bu mu hold f (by simpa[lX,nH]using g) h)
   . next ops i is k=>
     split at h
     . next o G=>
       obtain⟨y,h⟩:=h;have q:lX hold (.inRegion ops is::k)=true:=by simpa[lX,nH]using g
       rcases yA h with⟨M,u⟩|⟨j,b,x,d,T,u,Q,hd,H,C,I,h⟩
       . split at u
         . next t=>
           refine .op G M y (λc e=>?_) ?_
           . unfold pF qM at t;rw[e]at t;cases t
           . exact(vT L t u).mono λa r J=>Go.bu mu hold f q J
         . split at u
           . next R=>
             have z:dh P m ops n (λa r=>∀env,K (.panic a) {s with env,σ:=r}) [i] s.env s.σ (λenv r=>Go P m fid n ro (.inRegion ops is::k) {s with env,σ:=r} K):=⟨o,G,y,.inl ⟨M,(E7 R u).mono λa r J=>J q⟩⟩
             exact Go.Qc (λv env σ h=>h env) z
           . exact u g
       . exact .unwanted G u Q hd H C I (Go.bu mu hold f q h)
     . exact h g
   . exact h g
end
end Go.aR
