import Derived.Test.YtggpckcdfilkoaaGreatDoorR1
set_option linter.all false
namespace Go.bu
open Go.Conc
section
variable{P:Rg}(L:lz P){m:Mo}
variable{φ n:Nat}{ro:Dm}{η:YA}{s:St}{K:Ci}{k:AJ}
def aa.weaken{todo σ}(h:aa P m φ n ro η todo {s with σ} K)(b:σ.Le s.σ):aa P m φ n ro η todo s K:=λa=>(h a).weaken b
end
section
variable{P:Rg}(L:lz P)(m:Mo)(φ n f:Nat)(ro:Dm)(mu:ZB)(η:YA)
variable{L m φ n f ro mu η}{s:St}{K:Ci}{k:AJ}{ο:Cx}{i:Nat}{is:ZB}{dst:Io}{σ:af}
@[simp] theorem int{c}:cU L m φ n ro mu η (f+1) (.inScope c::k) s K=cU L m φ n ro mu η f k s K:=propext Zy
end
