import Derived.Test.YtebcbkhnlnkolaaGreatDoorE2
set_option linter.all false
namespace Go.bN
open Go.Conc
section
variable{P:afn}{m:Mo}{fid n:Nat}{ro:aeX}{hold:aeV}{K:aeN}{todo:afb}
def aa.UT{env σ0 σ D rc kk es}  t  (h:bo σ0 σ (env t) kk es) (a:aa P m fid n ro hold todo ⟨env.upd t (.sl kk es .any),σ0,D,rc⟩ K):aa P m fid n ro hold todo ⟨env,σ,D,rc⟩ K:=by
 rcases h.2 with⟨rfl,e|e⟩|⟨b,cap,rest,e,k,f,d,g,l⟩
 . exact aa.Am t (a':=.sl kk [] .any) (by rw[e];exact dR kk) (aa.weaken a h.1)
 . exact aa.Am t (a':=.sl kk [] .any) (by rw[e];exact eZ kk [] .exact) (aa.weaken a h.1)
 have o:=aY d
 refine aa.freeze b _ g (λu=>Fz.upd (t:=t) (a':=.sl kk es .any) (by
  rw[e];refine .sl 0 cap kk es .any f ?_ d (λj x p=>?_) (.inl rfl)
  . have:cap*kk=es.length*kk+(cap-es.length)*kk:=by rw[<-Nat.add_mul];simp_all
    simp_all
  grind) u) (NI.del b _ σ) (aa.weaken a ?_)
 exact λc y i=>by
  have:c≠b:=λq=>by simp_all
  simp only[ab.del,this,aao];exact h.1 c y i
end
