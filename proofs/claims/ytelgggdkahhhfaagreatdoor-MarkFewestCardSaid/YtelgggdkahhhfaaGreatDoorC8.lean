/- Part 8 of the proof. -/
import Derived.Test.YtelgggdkahhhfaaGreatDoorC7
set_option linter.all false
namespace Go.aZ
open Go.Conc
def j8 (pl:List Entry):Code->Bool
 | .seq a b=>j8 pl a && j8 pl b
 | .block _ c=>j8 pl c
 | .scope c=>j8 pl c
 | .cond _ a b=>j8 pl a && j8 pl b
 | .loop c=>j8 pl c
 | .rangeFunc _ _ a c=>j8 pl a && j8 pl c
 | .region id ops true=>match pl.find? fun e=>e.id == id with|some e=>uH ops e|none=>true
 | _=>true
def jn (pl:List Entry) (todo:List Item):Bool:=todo.all fun | .code c=>j8 pl c|_=>true
theorem Cz {pl:List Entry} {id:Nat} {k k':List Item} (h:exitTo id k=some k') (hk:jn pl k=true):jn pl k'=true:=by
 unfold jn at hk ⊢;rw[List.all_eq_true] at hk ⊢;exact fun x hx=>hk x (mj h x hx)
def ab (P:Program) (m:Mo) (fid n:Nat) (ro:Option Nat) (hold:List Entry) (todo:List Item) (s:St) (K:Exit->St->Prop):Prop:=jn hold todo=true->Go P m fid n ro todo s K
def qR (ops:Array Oper) (n:Nat) (env:Env) (o:Oper):Option Bool:=
 match o.guard with
 | none=>some true
 | some (j,b)=>match (ops[j]?).bind (·.dst) with
   | some d=>if d<n then (match env d with
     | .lit (.bool x)=>some (if b then x else !x)
     | _=>none) else none
   | none=>none
def FN (x:Option Bool) (A B:Prop) (u:gW A:=.mk) (v:gW B:=.mk):Prop:=match x with|some b=>pF b A B u v|none=>False
@[simp] theorem j9 {b:Bool} {A B:Prop} {u:gW A} {v:gW B}:FN (some b) A B u v=pF b A B:=propext Iff.rfl
theorem qS {ops:Array Oper} {n:Nat} {env:Env} {o:Oper} {go no go' no':Prop} {u:gW go} {v:gW no} (hgo:go->go') (hno:no->no') (h:FN (qR ops n env o) go no u v):mL ops n env o go' no':=by
 unfold qR at h;unfold mL;cases hg:o.guard with
 | none=>rw[hg] at h;exact hgo (h.1 rfl)
 | some p=>
   obtain⟨j,b⟩:=p;rw[hg] at h;simp only at h ⊢;cases hd:(ops[j]?).bind (·.dst) with
   | none=>rw[hd] at h;exact h.elim
   | some d=>
     rw[hd] at h;simp only at h ⊢
     by_cases hn:d<n
     . rw [if_pos hn] at h
       refine⟨hn,?_⟩;split at h
       . next x hx=>
         simp only[hx];refine⟨fun e=>?_,fun e=>?_⟩
         . subst e
           cases x
           . exact hgo (h.1 rfl)
           . exact hgo (h.1 rfl)
         . cases x <;> cases b <;> simp at e
           . exact hno (h.2 rfl)
           . exact hno (h.2 rfl)
       . exact h.elim
     . rw[if_neg hn] at h
       exact h.elim
theorem sZ {ops:Array Oper} {n:Nat} {env:Env} {o:Oper} {go no:Prop} {u:gW go} {v:gW no} (h:FN (qR ops n env o) go no u v) :
 (bj ops n env o∧go)∨∃ j b x d oj,o.guard=some (j,b)∧ops[j]? = some oj∧oj.dst=some d∧d<n∧env d = .lit (.bool x)∧x≠b∧no:=
 np (qS id id h)
section
variable {P:Program} {m:Mo} {fid n:Nat} {ro:Option Nat} {D:List jS} {rc:Rec} {K:Exit->St->Prop} {k:List Item} {ops:Array Oper}
theorem Go.Jh {Kp:AV->aa->Prop} {i:Nat} {is:List Nat} {env:Env} {σ:aa} (hp:∀ v env σ,Kp v σ->K (.panic v) ⟨env,σ,D,rc⟩)
 (h:cr P m ops n Kp [i] env σ (fun env σ=>Go P m fid n ro (.inRegion ops is :: k) ⟨env,σ,D,rc⟩ K)):Go P m fid n ro (.inRegion ops (i :: is) :: k) ⟨env,σ,D,rc⟩ K:=by
 obtain⟨o,ho,hok,h⟩:=h
 rcases h with ⟨hw,h⟩|⟨⟨j,b,x,d,oj,hg,hj,hd,hdn,hx,hxb⟩,h⟩
 . rcases h with ⟨fo,args,tys,h1,h2⟩|⟨h1,h2⟩
   . refine .call ho h1 hw hok (h2.mono fun r σ' hh=>?_)
     cases r with
     | val a=>exact hh
     | panic v=>exact hp _ _ _ hh
   . refine .op ho hw hok h1 ?_
     intro kk O ρ hρ hr;refine jT _ (h2 kk O ρ hρ hr) (fun _ _ _ ⟨v,hv,k2,O2,g,hle,a,σ',x,y,z⟩=>⟨v,hv,k2,O2,g,hle,a,σ',x,y,z⟩) (fun _ _ _ ⟨hle,a,σ',x,y,z⟩=>⟨hle,a,σ',x,y,hp _ _ _ z⟩)
 . exact .unwanted ho hg hj hd hdn hx hxb h
end
section
variable {P:Program} (L:iB P)
def xX (mu:List Nat) (lt:Bool) (o:Oper) (env:Env) (σ:aa):Option AV:=
 match o.op with
 | .load t p=>if lt then (match L.tt t with|some i=>kQ i σ (am env p) | none=>none) else p9 L mu o env
 | _=>p9 L mu o env
def xY (mu:List Nat) (ops:Array Oper) (n:Nat) (lt:Bool) (σ:aa) (K:Env->Prop) (u:gW K:=.mk):List Nat->Env->Prop
 | [],env=>K env
 | i :: S,env=>match ops[i]? with
   | some o=>(Oper.ok n o && o.dst.isSome)=true∧FN (qR ops n env o) (sx (xX L mu lt o env σ) fun a=>xY mu ops n lt σ K u S (aL env o.dst a)) (xY mu ops n lt σ K u S (aL env o.dst .aO))
   | none=>False
theorem xZ {mu:List Nat} {lt:Bool} {o:Oper} {env:Env} {σ:aa} {a:AV} (h:xX L mu lt o env σ=some a):p9 L mu o env=some a∨(p9 L mu o env=none∧lt=true∧pC L o env σ=some a):=by
 unfold xX at h;split at h
 . next t p ho=>
   cases lt
   . simp only[Bool.false_eq_true,if_false] at h;exact .inl h
   . simp only[if_true] at h
     split at h
     . next i hi=>
       have hS:pC L o env σ=some a:=by unfold pC;simp only[ho,hi];exact h
       cases hp:p9 L mu o env with
       | none=>exact .inr ⟨rfl,rfl,hS⟩
       | some a'=>
         left;unfold p9 at hp;simp only[ho,hi] at hp;split at hp
         . next i' v off hi' hx=>
           cases hi';rw[hx] at h;simp only[kQ] at h;rw[← hp,h]
         . next i' b l hole off hi' hx=>
           cases hi';rw[hx] at h;simp only[kQ] at h;rw[← hp,h]
         . cases hp
     . cases h
 . exact .inl h
theorem lS {mu:List Nat} {ops:Array Oper} {n:Nat} {lt:Bool} {σ:aa} {K:Env->Prop} {u:gW K}:∀ {S:List Nat} {env:Env},xY L mu ops n lt σ K u S env->gz L mu ops n lt σ S env K
 | [],env,h=>h
 | i :: S,env,h=>by
   unfold xY at h;unfold gz;split at h
   . next o ho=>
     simp only[ho];obtain⟨h1,h3⟩:=h;rw[Bool.and_eq_true] at h1;refine⟨h1.1,h1.2,?_⟩
     have main:(sx (xX L mu lt o env σ) fun a=>xY L mu ops n lt σ K u S (aL env o.dst a))->(match p9 L mu o env with
      | some a=>gz L mu ops n lt σ S (aL env o.dst a) K
      | none=>lt=true∧(match pC L o env σ with
        | some a=>gz L mu ops n lt σ S (aL env o.dst a) K
        | none=>False)):=by
      rintro⟨a,ha,hK⟩
      rcases xZ L ha with h|⟨h,h',h''⟩
      . simp only[h];exact lS hK
      . simp only[h,h''];exact⟨h',lS hK⟩
     exact qS main lS h3
   . exact h.elim
def pH:Op->Bool
 | .defer _ | .go _ | .send _ _ | .recv _ _ _ | .select _ _=>false
 | .call c=>match c.callee with | .builtin .recover=>false | .builtin .close=>false | .invoke _ _=>false|_=>true
 | _=>true
def FO (m:Mo) (o:Oper) (env:Env) (σ:aa) (R:AV->aa->Prop) (Kp:AV->aa->Prop):Prop:=
 match o.op with
 | .call ⟨.value fo,args,_⟩=>cI P m (am env fo) (args.toList.map (am env)) σ fun r σ'=>match r with | .val a=>R a σ' | .panic v=>Kp v σ'
 | _=>aE P o env σ R Kp
theorem ze {m:Mo} {o:Oper} {env:Env} {σ:aa} {R Kp:AV->aa->Prop} (hv:pH o.op=true) (h:FO (P:=P) m o env σ R Kp):FL P m o env σ R Kp:=by
 unfold FO at h;split at h
 . next fo args tys ho=>exact .inl ⟨fo,args,tys,ho,h⟩
 . exact .inr ⟨(fun c e=>by rw[e] at hv;cases hv),h⟩
def bk (P:Program) (m:Mo) (ops:Array Oper) (n:Nat) (Kp:AV->aa->Prop) (p:iI) (env:Env) (σ:aa) (R:Env->aa->Prop):Prop:=gf P m ops n Kp p env σ R
def FP (m:Mo) (mu:List Nat) (ops:Array Oper) (n:Nat) (Kp:AV->aa->Prop) (i:Nat) (p:iI) (env:Env) (σ:aa) (go:Env->aa->Prop) (R:Env->aa->Prop) (u:gW go:=.mk):Prop:=
 match ops[i]? with
 | some o=>Oper.ok n o=true∧FN (qR ops n env o) (if ln L o=true then mO (uK L mu o env σ) (fun a σ'=>go (aL env o.dst a) σ') Kp else
    if pH o.op=true then FO (P:=P) m o env σ (fun a σ'=>bk P m ops n Kp p (aL env o.dst a) σ' R) Kp else mM P m ops n Kp i env σ (fun env σ=>bk P m ops n Kp p env σ R)) (go (aL env o.dst .aO) σ)
 | none=>False
def fa (m:Mo) (mu:List Nat) (ops:Array Oper) (n:Nat) (Kp:AV->aa->Prop):iI->Env->aa->(Env->aa->Prop)->Prop
 | .done,env,σ,R=>R env σ
 | .take S lt p,env,σ,R=>xY L mu ops n lt σ (fun env1=>fa m mu ops n Kp p env1 σ R) .mk S env
 | .one i p,env,σ,R=>FP L m mu ops n Kp i p env σ (fun env σ=>fa m mu ops n Kp p env σ R) R
 | .both i p q,env,σ,R=>FP L m mu ops n Kp i p env σ (fun env σ=>fa m mu ops n Kp p env σ R) R∧fa m mu ops n Kp q env σ R
theorem s8 {m:Mo} {mu:List Nat} {ops:Array Oper} {n:Nat} {Kp:AV->aa->Prop} {p:iI} {R:Env->aa->Prop} (ih:∀ {env σ},fa L m mu ops n Kp p env σ R->gf P m ops n Kp p env σ R) {i:Nat} {env:Env} {σ:aa}
 (h:FP L m mu ops n Kp i p env σ (fun env σ=>fa L m mu ops n Kp p env σ R) R):mM P m ops n Kp i env σ (fun env σ=>gf P m ops n Kp p env σ R):=by
 unfold FP at h;split at h
 . next o ho=>
   obtain⟨hok,h⟩:=h
   rcases sZ h with ⟨hw,h⟩|⟨j,b,x,d',oj,hg,hj,hjd,hdn,hx,hxb,h⟩
   . split at h
     . next hwo=>
       refine⟨o,ho,hok,.inl ⟨hw,.inr ⟨fun c e=>?_,(qQ L hwo h).mono fun a σ'=>ih⟩⟩⟩
       unfold ln mi at hwo;rw[e] at hwo;cases hwo
     . split at h
       . next hv=>exact⟨o,ho,hok,.inl ⟨hw,ze hv h⟩⟩
       . exact h
   . exact⟨o,ho,hok,.inr ⟨⟨j,b,x,d',oj,hg,hj,hjd,hdn,hx,hxb⟩,ih h⟩⟩
 . exact h.elim
theorem gf.fa {m:Mo} (mu:List Nat) {ops:Array Oper} {n:Nat} {Kp:AV->aa->Prop} {R:Env->aa->Prop}:∀ {p:iI} {env:Env} {σ:aa},fa L m mu ops n Kp p env σ R->gf P m ops n Kp p env σ R
 | .done,_,_,h => .done h
 | .take S lt p,_,_,h=>gf.take L mu (gz.mono L (fun env1 h=>gf.fa mu h) (lS L h))
 | .one i p,_,_,h=>gf.one (s8 L (gf.fa mu) h)
 | .both i p q,_,_,h=>gf.both (s8 L (gf.fa mu) h.1) (gf.fa mu h.2)
theorem bk.go {m:Mo} (mu:List Nat) {ops:Array Oper} {n:Nat} {Kp:AV->aa->Prop} {R:Env->aa->Prop} {p:iI} {env:Env} {σ:aa} (h:fa L m mu ops n Kp p env σ R):bk P m ops n Kp p env σ R:=gf.fa L mu h
def aT (m:Mo) (fid n:Nat) (ro:Option Nat) (mu:List Nat) (hold:List Entry):Nat->List Item->St->(Exit->St->Prop)->Prop
 | 0,todo,s,K=>ab P m fid n ro hold todo s K
 | f + 1,todo,s,K=>match todo with
   | []=>K (.leave none) s
   | .code .ret :: _=>K (.leave (some .ret)) s
   | .code .skip :: k=>aT m fid n ro mu hold f k s K
   | .code (.label _) :: k=>aT m fid n ro mu hold f k s K
   | .inBlock _ :: k=>aT m fid n ro mu hold f k s K
   | .inScope _ :: k=>aT m fid n ro mu hold f k s K
   | .code (.seq a b) :: k=>aT m fid n ro mu hold f (.code a :: .code b :: k) s K
   | .code (.block id c) :: k=>aT m fid n ro mu hold f (.code c :: .inBlock id :: k) s K
   | .code (.scope c) :: k=>aT m fid n ro mu hold f (.code c :: .inScope c :: k) s K
   | .code (.exit id) :: k=>match exitTo id k with
     | some k'=>aT m fid n ro mu hold f k' s K
     | none=>K (.leave (some (.exit id))) s
   | .code (.cond c a b) :: k=>Operand.ok n c=true∧(match am s.env c with
     | .lit (.bool x)=>pF x (aT m fid n ro mu hold f (.code a :: k) s K) (aT m fid n ro mu hold f (.code b :: k) s K)
     | _=>False)
   | .code (.region _ ops false) :: k=>aT m fid n ro mu hold f (.inRegion ops (List.range ops.size) :: k) s K
   | .code (.region id ops true) :: k=>match hold.find? fun e=>e.id == id with
     | some ⟨_,p⟩=>fa L m mu ops n (fun v σ => ∀ env,K (.panic v) { s with env,σ }) p s.env s.σ (fun env σ=>ab P m fid n ro hold k { s with env,σ } K)
     | none=>ab P m fid n ro hold (.code (.region id ops true) :: k) s K
   | .inRegion _ [] :: k=>aT m fid n ro mu hold f k s K
   | .inRegion ops (i :: is) :: k=>match ops[i]? with
     | some o=>Oper.ok n o=true ∧
       FN (qR ops n s.env o) (if ln L o=true then mO (uK L mu o s.env s.σ) (fun a σ'=>aT m fid n ro mu hold f (.inRegion ops is :: k) { s with env:=aL s.env o.dst a,σ:=σ' } K) (fun a σ'=>K (.panic a) { s with σ:=σ' })
        else if pH o.op=true then FO (P:=P) m o s.env s.σ (fun a σ'=>ab P m fid n ro hold (.inRegion ops is :: k) { s with env:=aL s.env o.dst a,σ:=σ' } K) (fun a σ' => ∀ env,K (.panic a) { s with env,σ:=σ' })
        else ab P m fid n ro hold (.inRegion ops (i :: is) :: k) s K) (aT m fid n ro mu hold f (.inRegion ops is :: k) { s with env:=aL s.env o.dst .aO } K)
     | none=>ab P m fid n ro hold (.inRegion ops (i :: is) :: k) s K
   | todo=>ab P m fid n ro hold todo s K
theorem Go.aT {m:Mo} {fid n:Nat} {ro:Option Nat} (mu:List Nat) (hold:List Entry):∀ (f:Nat) {todo:List Item} {s:St} {K:Exit->St->Prop},jn hold todo=true->aT L m fid n ro mu hold f todo s K->Go P m fid n ro todo s K
 | 0,_,_,_,hpl,h=>h hpl
 | f + 1,todo,s,K,hpl,h=>by
   unfold aZ.aT at h;split at h
   . exact .leave (.inl ⟨rfl,rfl⟩) h
   . exact .leave (.inr (.inl ⟨_,rfl,rfl⟩)) h
   . exact .skip (Go.aT mu hold f (by simpa[jn,j8] using hpl) h)
   . exact .label (Go.aT mu hold f (by simpa[jn,j8] using hpl) h)
   . exact .inBlock (Go.aT mu hold f (by simpa[jn,j8] using hpl) h)
   . exact .inScope (Go.aT mu hold f (by simpa[jn,j8] using hpl) h)
   . exact .seq (Go.aT mu hold f (by simpa[jn,j8,and_assoc] using hpl) h)
   . exact .block (Go.aT mu hold f (by simpa[jn,j8] using hpl) h)
   . exact .scope (Go.aT mu hold f (by simpa[jn,j8] using hpl) h)
   . split at h
     . next k' hk=>exact .exit hk (Go.aT mu hold f (Cz hk (by simp only[jn,List.all_cons,Bool.and_eq_true] at hpl ⊢;exact hpl.2)) h)
     . next hk=>exact .leave (.inr (.inr ⟨_,_,rfl,hk,rfl⟩)) h
   . next c a b k=>
     obtain⟨h1,h2⟩:=h;split at h2
     . next x hx=>
       refine .cond hx h1 ?_;cases x
       . exact Go.aT mu hold f (by simp only[jn,List.all_cons,Bool.and_eq_true,j8] at hpl ⊢;exact⟨hpl.1.2,hpl.2⟩) (h2.2 rfl)
       . exact Go.aT mu hold f (by simp only[jn,List.all_cons,Bool.and_eq_true,j8] at hpl ⊢;exact⟨hpl.1.1,hpl.2⟩) (h2.1 rfl)
     . exact h2.elim
   . exact .region (Go.aT mu hold f (by simpa[jn,j8] using hpl) h)
   . next id ops k=>
     split at h
     . next id' p he=>
       have hc:uH ops ⟨id',p⟩=true:=by
        simp only[jn,List.all_cons,j8,he,Bool.and_eq_true] at hpl;exact hpl.1
       simp only[uH,Bool.and_eq_true] at hc;obtain⟨env,σ,D,rc⟩:=s;refine Go.draw L.mixed hc.1 fun l h1 h2 h3=>?_
       exact cr.mono (fun env σ h=>h (by simp only[jn,List.all_cons,Bool.and_eq_true] at hpl ⊢;exact hpl.2)) _ _ _ (gf.fa L mu h _ _ _ hc.2 l h1 h2 h3 (fun _ _ _ h=>by cases h))
     . exact h hpl
   . exact .sS (Go.aT mu hold f (by simpa[jn,j8] using hpl) h)
   . next ops i is k=>
     split at h
     . next o ho=>
       obtain⟨hok,h⟩:=h;have hpl':jn hold (.inRegion ops is :: k)=true:=by simpa[jn,j8] using hpl
       rcases sZ h with ⟨hw,hg⟩|⟨j,b,x,d,oj,hg,hj,hd,hdn,hx,hxb,h⟩
       . split at hg
         . next hwo=>
           refine .op ho hw hok (fun c e=>?_) ?_
           . unfold ln mi at hwo;rw[e] at hwo;cases hwo
           . exact (qQ L hwo hg).mono fun a σ' hh=>Go.aT mu hold f hpl' hh
         . split at hg
           . next hv=>
             have hrun:cr P m ops n (fun a σ' => ∀ env,K (.panic a) { s with env,σ:=σ' }) [i] s.env s.σ (fun env σ'=>Go P m fid n ro (.inRegion ops is :: k) { s with env,σ:=σ' } K):=
              ⟨o,ho,hok,.inl ⟨hw,(ze hv hg).mono fun a σ' hh=>hh hpl'⟩⟩
             exact Go.Jh (fun v env σ h=>h env) hrun
           . exact hg hpl
       . exact .unwanted ho hg hj hd hdn hx hxb (Go.aT mu hold f hpl' h)
     . exact h hpl
   . exact h hpl
end
end Go.aZ
