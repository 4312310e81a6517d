import Derived.Test.YtggpckcdfilkoaaGreatDoorG2
set_option linter.all false
namespace Go.bu
open Go.Conc
section
variable{P:Rg}{m:Mo}{φ n:Nat}{ro:Dm}{η:YA}{K:Ci}{todo:AJ}
def aa.ZU{ε σ0 σ D rc kk es}  t  (h:cV σ0 σ (ε t) kk es) (a:aa P m φ n ro η todo ⟨ε.upd t (.sl kk es .any),σ0,D,rc⟩ K):aa P m φ n ro η todo ⟨ε,σ,D,rc⟩ K:=by
 rcases h.2 with⟨rfl,e|e⟩|⟨b,cap,μ,e,k,f,d,g,l⟩
 . exact aa.Fs t  (by grind [bK]) (aa.weaken a h.1)
 . exact aa.Fs t  (by grind [eo]) (aa.weaken a h.1)
 . have o:=bL d
   refine aa.freeze b _ g (λu=>Fz.upd   (by
    rw[e];refine .sl 0 cap kk es .any f ?_ d (λj x p=>?_) (.inl rfl)
    . have:cap*kk=es.length*kk+(cap-es.length)*kk:=by rw[<-Nat.add_mul];grind
      grind
    grind) u) (RD.del b _ σ) (aa.weaken a ?_)
   exact λc y i=>by
    have:c≠b:=am;simp  [af.del,this];exact h.1 c y i
end
