/- Part 3 of the proof. -/
import Derived.Test.YtigilmjkokbblaaGreatDoorN2
set_option linter.all false
namespace Go.bd
open Go.Conc
section
variable{P:Program}(L:iG P){o:Oper}{env:Env}{σ:aa}{K:AV->aa->Prop}{Kp:AV->aa->Prop}
theorem sJ{t len e:Nat}{parts:Array (Nat × Operand)}{it b:TI}{es:List AV}(J:o.op=.buildSlice t len parts)(R:L.tt t=some it)(S:it.kind=.slice e)(M:L.tt e=some b)(B:len*b.size<=16777216)
 (T:(jZ b.zero).cells.all AV.flat=true) (l:len*b.size=0\/(jZ b.zero).cells.length=b.size) (U:es.length=len/\∀e∈es,e.cells.length=b.size)
 (W:mG (λj=>some (j*b.size,b.size)) ((List.range (len*b.size)).map λj=>(jZ b.zero).cells.getD (j % (jZ b.zero).cells.length) .bC) (parts.toList.map λp=>(p.1,ar env p.2))=some (flatten es)) (X:∀r,σ r=none->K (.ew r 0 len len) (σ.set r (.cells (flatten es)))):aK P o env σ K Kp:=
 aK.val (s:=λρ=>Instr.buildSlice t len (parts.map λ(i,x)=>(i,ρ x))) (λρ=>by simp[execOp,J]) λk O ρ Y Z=>by
  obtain⟨hl,D⟩:=tA (k:=k) (ρ:=ρ) (env:=env) (parts:=parts) λp D=>Y p.2 (by simp[J,Op.operands];exact⟨p.1,D⟩)
  have g:=wj (k:=k) T;unfold Instr.buildSlice;refine af (aD L R λd _ hd=>?_)
  rw[bs hd S];dsimp only;refine af (bQ L M ?_);rw[if_neg (by omega)]
  have fin:∀(z:Array Value),(len*b.size=0\/z=b.zero.cells)->eh P (do
   let some cells:=Instr.fill (λi=>some (i*b.size,b.size)) ((Array.range (len*b.size)).map (z[· % z.size]!)) (parts.map λ(i,x)=>(i,ρ x)).toList|stuck  "buildSlice: a part of the wrong size"
   pure (.slice (some (<-newRow e cells)) len len):Sem Value) k O (λv w C=>lR w C λE O2=>k.Le E/\∃a c,V E v a/\Rel E O2 c/\K a c) (λv w C=>k.Le w/\∃a c,V w v a/\Rel w C c/\Kp a c):=by
   intro z y
   have F:px k ((Array.range (len*b.size)).map (z[· % z.size]!)) ((List.range (len*b.size)).map λj=>(jZ b.zero).cells.getD (j % (jZ b.zero).cells.length) .bC):=by
    refine⟨by simp only[Array.size_map,Array.size_range,List.length_map,List.length_range],λj v a m N=>?_,λj v m=>?_⟩
    . have n:j<len*b.size:=by simpa using(Array.getElem?_eq_some_iff.1 m).1
      rcases y with A|rfl
      . omega
      . have G:(jZ b.zero).cells.length≠0:=by
         rcases l with h|h
         . omega
         . rw[h];intro q;rw[q]at n;simp at n
        have u:j % (jZ b.zero).cells.length<(jZ b.zero).cells.length:=Nat.mod_lt _ (by omega)
        simp only[Array.getElem?_map,Array.getElem?_range,n,if_true,Option.map_some,Option.some.injEq,List.getElem?_map,List.getElem?_range]at m N;have Q:=g.1;subst m;subst N;refine g.2.1 (j % (jZ b.zero).cells.length) _ _ ?_ ?_
        . rw[<-Q];rw[<-Q]at u
          rw[getElem!_pos b.zero.cells _ u];simp[u]
        . rw[List.getD_eq_getElem?_getD,List.getElem?_eq_getElem u];rfl
    . have n:j<len*b.size:=by simpa using(Array.getElem?_eq_some_iff.1 m).1
      rcases y with A|rfl
      . omega
      . have G:(jZ b.zero).cells.length≠0:=by
         rcases l with h|h
         . omega
         . rw[h];intro q;rw[q]at n;simp at n
        have u:j % b.zero.cells.size<b.zero.cells.size:=by rw[g.1];exact Nat.mod_lt _ (by omega)
        simp only[Array.getElem?_map,Array.getElem?_range,n,if_true,Option.map_some,Option.some.injEq]at m;subst m;refine g.2.2 (j % b.zero.cells.size) _ ?_;rw[getElem!_pos b.zero.cells _ u];simp[u]
   obtain⟨c',hc,f⟩:=vF _ _ _ _ _ hl D F W;rw[hc];dsimp only;exact af (eY Z f.1 f.2.1 f.2.2 λr w C hn H I=>aj (.here ⟨H,.ew r 0 len len,_,.ew ..,I,X r hn⟩))
  by_cases A:len*b.size=0
  . rw[if_pos A]
    exact af (aj (fin #[] (.inl A)))
  . rw[if_neg A]
    exact af (cU L M (af (aj (fin _ (.inr rfl)))))
end
section
variable{P:Program}{m:Mo}{fid n:Nat}{ro:Option Nat}{hold:List Entry}{s:St}{K:Exit->St->Prop}{k:List Item}
theorem ab.op{ops:Array Oper}{i:Nat}{rest:List Nat}{o:Oper}(f:ops[i]?=some o)(g:cu ops n s.env o)(b:Oper.ok n o=true)(d:∀c,o.op≠.defer c)
 (h:aK P o s.env s.σ (λa σ'=>ab P m fid n ro hold (.inRegion ops rest::k) {s with env:=bo s.env o.dst a,σ:=σ'} K) (λa σ'=>K (.panic a) {s with σ:=σ'})):
 ab P m fid n ro hold (.inRegion ops (i::rest)::k) s K:=λe=>Go.op f g b d (h.mono λa σ' q=>q (by simpa[lr,mJ]using e))
end
end Go.bd
