import Derived.Test.YtebcbkhnlnkolaaGreatDoorE1
set_option linter.all false
namespace Go.bN
open Go.Conc
section
variable{P:afn}(L:jq P){m:Mo}
variable{fid n:Nat}{ro:aeX}{hold:aeV}{s:St}{K:aeN}{k:afb}
def aa.weaken{todo σ}(h:aa P m fid n ro hold todo {s with σ} K)(b:σ.Le s.σ):aa P m fid n ro hold todo s K:=λa=>(h a).weaken b
end
section
variable{P:afn}(L:jq P)(m:Mo)(fid n f:Nat)(ro:aeX)(mu:aff)(hold:aeV)
variable{L m fid n f ro mu hold}{s:St}{K:aeN}{k:afb}{ops:aeW}{i:Nat}{is:aff}{dst:aeZ}{σ:ab}
@[simp] theorem Ej{c}:bK L m fid n ro mu hold (f+1) (.inScope c::k) s K=bK L m fid n ro mu hold f k s K:=propext aaL
end
