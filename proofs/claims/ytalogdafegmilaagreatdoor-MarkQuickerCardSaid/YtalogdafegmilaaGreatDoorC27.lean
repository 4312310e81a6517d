/- Part 27 of the proof. -/
import Derived.Test.YtalogdafegmilaaGreatDoorC26
set_option linter.all false
namespace Go.aN
open Go.Conc
section
variable{P:Program}{m:Mo}{fid n:Nat}{ro:Option Nat}{D:List kL}{rc:Rec}{K:Exit->St->Prop}{k:List Item}{ops:Array Oper}{Kp:AV->aa->Prop}
theorem iP.Ow{i:Nat}{env:Env}{σ:aa}{R R':Env->aa->Prop}(h:iP P m ops n Kp i env σ R)(hr:∀env σ,R env σ->R' env σ):iP P m ops n Kp i env σ R':=by obtain⟨o,h1,h2,h3⟩:=h;exact⟨o,h1,h2,h3.imp (λh=>⟨h.1,h.2.mono λa σ'=>hr _ _⟩) (λh=>⟨h.1,hr _ _ h.2⟩)⟩
theorem cP.inv{Inv:List Nat->Env->aa->Prop}{R:Env->aa->Prop}
 (hstep:∀done i env σ,(∀j,ib ops j i=true->j∈done)->i∉done->i<ops.size->Inv done env σ->iP P m ops n Kp i env σ (λenv σ=>Inv (i::done) env σ))
 (hend:∀done env σ,(∀i,i<ops.size->i∈done)->Inv done env σ->R env σ):
 ∀(l done:List Nat) (env:Env) (σ:aa),iO ops done l->(∀i∈l,i<ops.size)->(∀i,i<ops.size->i∈l\/i∈done)->Inv done env σ->cP P m ops n Kp l env σ R
 |[],done,env,σ,_,_,hall,hI=>hend done env σ (λi hi=>(hall i hi).resolve_left (by simp)) hI
 | i :: l,done,env,σ,⟨a1,a2,a3⟩,hlt,hall,hI=>by
   obtain⟨o,h1,h2,h3⟩:=hstep done i env σ a1 a2 (hlt i (by simp)) hI
   have next:∀env σ,Inv (i::done) env σ->cP P m ops n Kp l env σ R:=λenv σ h=>cP.inv hstep hend l (i::done) env σ a3 (λj hj=>hlt j (by simp[hj])) (λj hj=>by
    rcases hall j hj with h|h
    . rcases List.mem_cons.1 h with e|e
      . exact .inr (by simp[e])
      . exact .inl e
    . exact .inr (by simp[h])) h
   exact⟨o,h1,h2,h3.imp (λh=>⟨h.1,h.2.mono λa σ'=>next _ _⟩) (λh=>⟨h.1,next _ _ h.2⟩)⟩
theorem Any.inv{Inv:List Nat->Env->aa->Prop}{R:Env->aa->Prop}{env:Env}{σ:aa}(h0:Inv [] env σ)
 (hstep:∀done i env σ,(∀j,ib ops j i=true->j∈done)->i∉done->i<ops.size->Inv done env σ->iP P m ops n Kp i env σ (λenv σ=>Inv (i::done) env σ))
 (hend:∀done env σ,(∀i,i<ops.size->i∈done)->Inv done env σ->R env σ):Any P m ops n Kp [] (List.range ops.size) env σ R:=
 λl ha _ hm=>cP.inv hstep hend l [] env σ ha (λi hi=>List.mem_range.1 ((hm i).1 hi)) (λi hi=>.inl ((hm i).2 (List.mem_range.2 hi))) h0
theorem aZ(L:iE P){mu:List Nat}{i:Nat}{env:Env}{σ:aa}{R:Env->aa->Prop}(h:gM L m mu ops n Kp (.one i .done) env σ R):iP P m ops n Kp i env σ R:=by
 have:=rP L (p:=.done) (λh=>.done h) h;exact this.Ow λenv σ h=>h [] [] [] rfl [] trivial List.nodup_nil (by simp) (by simp)
theorem ab.KB{hold:List Entry}{id:Nat}{env:Env}{σ:aa}(Inv:List Nat->Env->aa->Prop)(hm:P.follows .mixedOrders=true)(he:oA ops=true)(h0:Inv [] env σ)
 (hstep:∀done i env σ,(∀j,ib ops j i=true->j∈done)->i∉done->i<ops.size->Inv done env σ->iP P m ops n (λv σ=>∀env,K (.panic v) ⟨env,σ,D,rc⟩) i env σ (λenv σ=>Inv (i::done) env σ))
 (hend:∀done env σ,(∀i,i<ops.size->i∈done)->Inv done env σ->ab P m fid n ro hold k ⟨env,σ,D,rc⟩ K):
 ab P m fid n ro hold (.code (.region id ops true)::k) ⟨env,σ,D,rc⟩ K:=λhpl=>
 Go.draw hm he (Any.inv h0 hstep λdone env σ ha hI=>hend done env σ ha hI (by simp only[kN,List.all_cons,Bool.and_eq_true]at hpl ⊢;exact hpl.2))
end
end Go.aN
