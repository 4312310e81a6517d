/- Part 2 of the proof. -/
import Derived.Test.YtigilmjkokbblaaGreatDoorK1
set_option linter.all false
namespace Go.bd
open Go.Conc
def dL:AV->Option Nat
 |.ew b _ _ _=>some b
 |_=>none
def aa.yK(σ:aa)(a:AV):aa:=match dL a with|some b=>σ.del b|none=>σ
theorem aa.mK{σ:aa}{a:AV}{b:Nat}(h:dL a≠some b):σ.yK a b=σ b:=by
 unfold aa.yK;cases d:dL a with
 |none=>rfl
 | some c=>
   have:b≠c:=λe=>h (by rw[d,e])
   simp[aa.del,this]
theorem aa.NB{σ:aa}{a:AV}:(σ.yK a).Le σ:=λb x h=>by
 unfold aa.yK at h;cases d:dL a with
 |none=>rw[d]at h;exact h
 | some c=>
   rw[d]at h;simp only[aa.del]at h;split at h
   . cases h
   . exact h
theorem bw.cells{σ0 σ:aa}{a:AV}{kk:Nat}{es:List AV}(h:bw σ0 σ a kk es):a.cells=[a]/\a.flat=true:=by
 obtain⟨_,b⟩:=h;rcases b with⟨_,rfl|rfl⟩|⟨c,cap,rest,rfl,_⟩<;>exact⟨rfl,rfl⟩
theorem bw.ji{σ0 σ:aa}{a:AV}{kk:Nat}{es:List AV}(h:bw σ0 σ a kk es){b:Nat}(hb:dL a=some b):σ0 b=none/\∃l,σ b=some (.cells l):=by
 obtain⟨g,d⟩:=h;rcases d with⟨_,rfl|rfl⟩|⟨c,cap,rest,rfl,e,_,_,f,_⟩
 . cases hb
 . cases hb
 . simp only[dL,Option.some.injEq]at hb
   subst hb;exact⟨e,_,f⟩
theorem bw.here{σ0 σ:aa}{a:AV}{kk:Nat}{es:List AV}(h:bw σ0 σ a kk es):bw (σ.yK a) σ a kk es/\σ0.Le (σ.yK a):=by
 obtain⟨d,e⟩:=h;refine⟨⟨aa.NB,?_⟩,λc x f=>?_⟩
 . rcases e with h|⟨b,cap,rest,rfl,m,i,j,k,l⟩
   . exact .inl h
   . exact .inr ⟨b,cap,rest,rfl,by simp[aa.yK,dL,aa.del],i,j,k,l⟩
 . by_cases g:dL a=some c
   . have:=(bw.ji ⟨d,e⟩ g).1
     rw[f]at this;cases this
   . rw[aa.mK g];exact d c x f
theorem bw.base{σ0 c σ:aa}{a:AV}{kk:Nat}{es:List AV}(h:bw c σ a kk es)(d:σ0.Le c):bw σ0 σ a kk es:=by
 obtain⟨e,f⟩:=h;refine⟨aa.le_trans d e,?_⟩;rcases f with h|⟨b,cap,rest,rfl,g,i,j,k,l⟩
 . exact .inl h
 . refine .inr ⟨b,cap,rest,rfl,?_,i,j,k,l⟩
   cases hb:σ0 b with
   |none=>rfl
   |some x=>have:=d b x hb;rw[g]at this;cases this
theorem bw.keep{σ0 σ d σ':aa}{a:AV}{kk:Nat}{es:List AV}(h:bw σ0 σ a kk es)(e:d.Le σ')(hb:∀b,dL a=some b->σ' b=σ b/\d b=none):bw d σ' a kk es:=by
 obtain⟨l,f⟩:=h;refine⟨e,?_⟩;rcases f with h|⟨c,cap,rest,rfl,m,g,i,j,k⟩
 . exact .inl h
 . exact .inr ⟨c,cap,rest,rfl,(hb c rfl).2,g,i,by rw[(hb c rfl).1];exact j,k⟩
theorem bw.len{σ0 σ:aa}{a:AV}{kk:Nat}{es:List AV}(h:bw σ0 σ a kk es):(a=.nil/\es=[])\/(∃sp,a=.sl kk es sp)\/∃b cap,a=.ew b 0 es.length cap:=by
 rcases h.2 with⟨rfl,rfl|rfl⟩|⟨c,cap,rest,rfl,_⟩
 . exact .inl ⟨rfl,rfl⟩
 . exact .inr (.inl ⟨_,rfl⟩)
 . exact .inr (.inr ⟨c,cap,rfl⟩)
end Go.bd
