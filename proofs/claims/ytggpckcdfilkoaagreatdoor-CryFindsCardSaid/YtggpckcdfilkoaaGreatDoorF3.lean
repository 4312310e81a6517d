import Derived.Test.YtggpckcdfilkoaaGreatDoorF2
set_option linter.all false
namespace Go.bu
open Go.Conc
section
variable{P:Rg}(L:lz P){m:Mo}
variable{φ n:Nat}{ro:Dm}{η:YA}{s:St}{K:Ci}{k:AJ}
def aa.weaken{todo σ}(h:aa P m φ n ro η todo {s with σ} K)(b:σ.Le s.σ):aa P m φ n ro η todo s K:=λa=>(h a).weaken b
end
