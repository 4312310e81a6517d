import Derived.Test.YtebcbkhnlnkolaaGreatDoorC20
set_option linter.all false
namespace Go.bN
open Go.Conc
def bo.len{σ0 σ a kk es}(h:bo σ0 σ a kk es):(a=.nil/\es=[])\/(∃sp,a=.sl kk es sp)\/∃b cap,a=.gK b 0 es.length cap:=by
 rcases h.2 with⟨rfl,rfl|rfl⟩|⟨c,cap,rest,rfl,_⟩
 . exact .inl ⟨rfl,rfl⟩
 . exact .inr (.inl ⟨_,rfl⟩)
 exact .inr (.inr ⟨c,cap,rfl⟩)
