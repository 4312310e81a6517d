/- Part 1 of the proof. -/
import Derived.Test.YtalogdafegmilaaGreatDoorC35
set_option linter.all false
namespace Go.aN
open Go.Conc
section
variable{P:Program}(L:iE P){o:Oper}{env:Env}{σ:aa}{K:AV->aa->Prop}{Kp:AV->aa->Prop}
end
theorem B6{es es':List AV}{sp:cM}(h1:es.length=es'.length)(h2:∀e∈es,e.cells=[e])(h3:∀e∈es',e.cells=[e])(hw:∀(i:Nat) a a',es[i]?=some a->es'[i]?=some a'->a.W a'):(AV.sl 1 es sp).W (.sl 1 es' .any):=λk v hv=>by
 have f1:=du h2;have f2:=du h3
 rcases hv.uC with⟨rfl,rfl,rfl⟩|⟨b',off,cap,N,E',c,rfl,q1,q2,q3,q4,q5,q6,q7⟩
 . have:es'=[]:=List.length_eq_zero_iff.1 h1.symm
   subst this;exact .slnil 1
 . rw[f1]at q5 q6
   rw[h1];refine .sl b' off cap 1 N E' es' .any c (by omega) q2 q3 (λe he=>by rw[h3 e he];rfl) (λj hj=>q5 j (by rw[f2]at hj;omega)) (λj a ha=>?_) trivial
   rw[f2]at ha;have hj:j<es.length:=by have:=(List.getElem?_eq_some_iff.1 ha).1;omega
   exact hw j es[j] a (by simp[hj]) ha k _ (q6 j _ (by simp[hj]))
section
variable{P:Program}{m:Mo}{fid n:Nat}{ro:Option Nat}{hold:List Entry}{K:Exit->St->Prop}{todo:List Item}
theorem ab.B7{env:Env}{σ0 σ:aa}{D:List kL}{rc:Rec}{kk:Nat}{es:List AV}(t:Nat)(h:bG σ0 σ (env t) kk es)(hR:ab P m fid n ro hold todo ⟨env.upd t (.sl kk es .any),σ0,D,rc⟩ K):ab P m fid n ro hold todo ⟨env,σ,D,rc⟩ K:=by
 rcases h.2 with⟨rfl,e|e⟩|⟨b,cap,rest,e,h0,h1,h2,h3,h4⟩
 . exact ab.yt t (a':=.sl kk [] .any) (by rw[e];exact fT kk) (ab.weaken hR h.1)
 . exact ab.yt t (a':=.sl kk [] .any) (by rw[e];exact gK kk [] .exact) (ab.weaken hR h.1)
 . have hf:=bc h2
   refine ab.freeze b _ h3 (λu=>Fz.upd (t:=t) (a':=.sl kk es .any) (by
    rw[e];refine .sl 0 cap kk es .any h1 ?_ h2 (λj x hx=>?_) (.inl rfl)
    . have:cap*kk=es.length*kk+(cap-es.length)*kk:=by rw[<-Nat.add_mul];congr 1;omega
      simp only[List.length_append,hf,h4];omega
    . rw[Nat.zero_add,List.getElem?_append_left (List.getElem?_eq_some_iff.1 hx).1];exact hx) u) (Gg.del b _ σ) (ab.weaken hR ?_)
   exact λc y hc=>by
    have:c≠b:=λq=>by rw[q,h0]at hc;cases hc
    simp only[aa.del,this,if_false];exact h.1 c y hc
end
end Go.aN
