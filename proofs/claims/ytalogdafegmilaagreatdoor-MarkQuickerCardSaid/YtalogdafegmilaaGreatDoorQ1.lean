/- Part 1 of the proof. -/
import Derived.Test.YtalogdafegmilaaGreatDoorC36
set_option linter.all false
namespace Go.aN
open Go.Conc
section
variable {P:Program} {m:Mo} {fid n:Nat} {ro:Option Nat} {hold:List Entry} {K:Exit->St->Prop} {todo:List Item}
theorem ab.UN {env:Env} {σ:aa} {D:List kL} {rc:Rec} {b d i c:Nat} {l cs rest:List AV} {es:List AV} {sp:cM} {at_:Nat} (hd:d≠b) (hb:σ b=some (.cells (l ++ rest))) (hcap:l.length≤c) (hrest:rest.length=c-l.length) (hl:∀ e∈l,e.cells=[e]) (hc:σ d=some (.cells cs)) (hat:cs[at_]? = some (.sl 1 es sp)) (hes:∀ e∈es,e.cells=[e]) (hi:es[i]? = some (.fZ b 0 l.length c))
 (hR:ab P m fid n ro hold todo ⟨env,(σ.del b).set d (.cells (cs.set at_ (.sl 1 (es.set i (.sl 1 l .any)) sp))),D,rc⟩ K):ab P m fid n ro hold todo ⟨env,σ,D,rc⟩ K:=by
 have hfl:=du hl;refine ab.freeze b (l ++ rest) hb (fun u => .refl _) (fun y x hy=>?_) hR
 by_cases e:y=d
 . subst e
   simp[aa.set] at hy;subst hy;refine⟨hd,.inr ⟨cs,_,hc,rfl,by simp,fun j a a' h1 h2=>?_⟩⟩
   by_cases ej:j=at_
   . subst ej
     rw[hat] at h1;cases h1;have hlt:=(List.getElem?_eq_some_iff.1 hat).1;rw[List.getElem?_set_self hlt] at h2;cases h2;refine .rows es _ sp (by simp) hes (fun x hx=>?_) (fun p a a' g1 g2=>?_)
     . rcases List.mem_or_eq_of_mem_set hx with hx|rfl
       . exact hes x hx
       . rfl
     . by_cases ep:p=i
       . subst ep
         rw[hi] at g1;cases g1;have hlt:=(List.getElem?_eq_some_iff.1 hi).1;rw[List.getElem?_set_self hlt] at g2;cases g2;exact .sl 0 c 1 l .any hcap (by simp only[List.length_append,hrest];omega) (fun e he=>by rw[hl e he];rfl) (fun j a h=>by rw[hfl] at h;rw[Nat.zero_add,List.getElem?_append_left (List.getElem?_eq_some_iff.1 h).1];exact h) (.inl rfl)
       . rw[List.getElem?_set_ne (Ne.symm ep)] at g2
         rw[g1] at g2;cases g2;exact .refl _
   . rw[List.getElem?_set_ne (Ne.symm ej)] at h2
     rw[h1] at h2;cases h2;exact .refl _
 . rw[aa.ai _ _ e] at hy
   unfold aa.del at hy;split at hy
   . cases hy
   . next hne=>exact⟨hne,.inl hy⟩
end
section
variable {P:Program} {m:Mo} {fid n:Nat} {ro:Option Nat} {hold:List Entry} {K:Exit->St->Prop} {todo:List Item}
theorem ab.US {env:Env} {σ:aa} {D:List kL} {rc:Rec} {b d at_:Nat} {l cs:List AV} (hd:d≠b) (hb:σ b=some (.cells l)) (hl:∀ e∈l,e.cells=[e]) (hc:σ d=some (.cells cs)) (hat:cs[at_]? = some (.fZ b 0 l.length l.length))
 (hR:ab P m fid n ro hold todo ⟨env,(σ.del b).set d (.cells (cs.set at_ (.sl 1 l .any))),D,rc⟩ K):ab P m fid n ro hold todo ⟨env,σ,D,rc⟩ K:=by
 have hfl:=du hl;refine ab.freeze b l hb (fun u => .refl _) (fun y x hy=>?_) hR
 by_cases e:y=d
 . subst e
   simp[aa.set] at hy;subst hy;refine⟨hd,.inr ⟨cs,_,hc,rfl,by simp,fun j a a' h1 h2=>?_⟩⟩
   by_cases ej:j=at_
   . subst ej
     rw[hat] at h1;cases h1;have hlt:=(List.getElem?_eq_some_iff.1 hat).1;rw[List.getElem?_set_self hlt] at h2;cases h2;exact .sl 0 l.length 1 l .any (Nat.le_refl _) (by omega) (fun e he=>by rw[hl e he];rfl) (fun j a h=>by rw[hfl] at h;simpa using h) (.inl rfl)
   . rw[List.getElem?_set_ne (Ne.symm ej)] at h2
     rw[h1] at h2;cases h2;exact .refl _
 . rw[aa.ai _ _ e] at hy
   unfold aa.del at hy;split at hy
   . cases hy
   . next hne=>exact⟨hne,.inl hy⟩
end
end Go.aN
