import Derived.Test.YtggpckcdfilkoaaGreatDoorC21
set_option linter.all false
namespace Go.bu
open Go.Conc
section
variable{P:Rg}{m:Mo}{φ n:Nat}{ro:Dm}{s:St}{K:Ci}{k:AJ}
def Go.weaken{todo σ}(h:Go P m φ n ro todo {s with σ} K)(b:σ.Le s.σ):Go P m φ n ro todo s K:=λQ k O τ ξ ν cs c a d=>h Q k O τ ξ ν cs c ⟨a.size,a.env,a.rel.le b,a.ds,a.rc⟩ d
end
