import Derived.Test.YtebcbkhnlnkolaaGreatDoorC20
set_option linter.all false
namespace Go.bN
open Go.Conc
section
variable{P:afn}{m:Mo}{fid n:Nat}{ro:aeX}{s:St}{K:aeN}{k:afb}
def Go.weaken{todo σ}(h:Go P m fid n ro todo {s with σ} K)(b:σ.Le s.σ):Go P m fid n ro todo s K:=λQ k O tmps defs kind cs c a d=>h Q k O tmps defs kind cs c ⟨a.size,a.env,a.rel.le b,a.ds,a.rc⟩ d
end
