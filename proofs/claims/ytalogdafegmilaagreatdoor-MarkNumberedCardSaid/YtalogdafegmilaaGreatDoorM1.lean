/- Part 1 of the proof. -/
import Derived.Test.YtalogdafegmilaaGreatDoorC36
set_option linter.all false
namespace Go.aN
open Go.Conc
theorem bG.beside{σ0 σ:aa}{a:AV}{kk:Nat}{es:List AV}(h:bG σ0 σ a kk es){b:Nat}{x:jy}(hb:σ0 b=none)(ht:eh a≠some b):bG σ0 (σ.set b x) a kk es:=by
 obtain⟨h1,h2⟩:=h;refine⟨aa.ig h1 hb,?_⟩;rcases h2 with h|⟨c,cap,rest,rfl,h3,h4,h5,h6,h7⟩
 . exact .inl h
 . refine .inr ⟨c,cap,rest,rfl,h3,h4,h5,?_,h7⟩
   have hc:c≠b:=λe=>ht (by simp[eh,e])
   rw[aa.ai _ _ hc];exact h6
end Go.aN
