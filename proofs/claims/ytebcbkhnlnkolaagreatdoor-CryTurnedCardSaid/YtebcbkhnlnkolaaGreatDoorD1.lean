import Derived.Test.YtebcbkhnlnkolaaGreatDoorC20
set_option linter.all false
namespace Go.bN
open Go.Conc
section
variable{P:afn}(L:jq P)(m:Mo)(fid n f:Nat)(ro:aeX)(mu:aff)(hold:aeV)
variable{L m fid n f ro mu hold}{s:St}{K:aeN}{k:afb}{ops:aeW}{i:Nat}{is:aff}{dst:aeZ}{σ:ab}
@[simp] theorem Ej{c}:bK L m fid n ro mu hold (f+1) (.inScope c::k) s K=bK L m fid n ro mu hold f k s K:=propext aaL
end
def bo.beside{σ0 σ a kk es}(h:bo σ0 σ a kk es){b x}(hb:σ0 b=none)(d:bJ a≠some b):bo σ0 (σ.set b x) a kk es:=by
 obtain⟨f,g⟩:=h;refine⟨ab.fK f hb,?_⟩;rcases g with h|⟨c,cap,rest,rfl,i,j,k,l,m⟩
 . exact .inl h
 refine .inr ⟨c,cap,rest,rfl,i,j,k,?_,m⟩;have n:c≠b:=λe=>d (by simp[bJ,e])
 rw[ab.ah _ _ n];exact l
