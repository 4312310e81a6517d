/- Part 1 of the proof. -/
import Derived.Test.YtalogdafegmilaaGreatDoorC36
set_option linter.all false
namespace Go.aN
open Go.Conc
section
variable{P:Program}(L:iE P){k:ag}{O:ah}{Kp:Value->ag->ah->Prop}
end
section
variable{P:Program}(L:iE P){o:Oper}{env:Env}{σ:aa}{K:AV->aa->Prop}{Kp:AV->aa->Prop}
theorem TK{op:BinOp}{t t2 e:Nat}{x y:Operand}{i:TI}{kk:Nat}{es:List AV}{sp:cM}(ho:o.op=.binOp op t x y t2)(ht:L.tt t=some i)(hk:i.kind=.slice e)(hy:ap env y=.nil)
 (hx:ap env x=.sl kk es sp) (hop:op=.eql\/op=.neq) (hK1:es=[]->K (.lit (.bool (op==.eql))) σ) (hK2:K (.lit (.bool (op==.neq))) σ):aG P o env σ K Kp:=
 aG.val (s:=λρ=>do eqGuard op t x y (ρ x) (ρ y);binOp op t (ρ x) (ρ y)) (λρ=>by simp[execOp,ho]) λk O ρ hρ hr=>by
  have h1:=hρ x (by simp[ho,Op.operands])
  have h2:=hρ y (by simp[ho,Op.operands])
  rw[hy]at h2;rw[hx]at h1;have e2:ρ y=.slice none 0 0:=h2.LC
  have e1:∃a n c,ρ x=.slice a n c/\(a.isNone=true->es=[]):=by
   rcases h1.lq with⟨e1,h,_⟩|⟨b,off,cap,N,E,e1,_⟩
   . exact⟨_,_,_,e1,λ_=>h⟩
   . exact⟨_,_,_,e1,λh=>by cases h⟩
  obtain⟨a,n,c,e1,hn⟩:=e1;rw[e1,e2];have hg:eqGuard op t x y (.slice a n c) (.slice none 0 0)=pure ():=by rcases hop with rfl|rfl<;>simp[eqGuard]
  rw[hg];refine af (aj ?_)
  have heq:∀(R:Bool->ag->ah->Prop) (Rp:Value->ag->ah->Prop),R a.isNone k O->eE P (Op.equal t (.slice a n c) (.slice none 0 0)) k O R Rp:=λR Rp hR=>by
   show eE P (Op.equalIn (9999+1) t (.slice a n c) (.slice none 0 0)) k O R Rp;rw[Op.equalIn];refine af (aB L ht λd _ hd=>?_)
   rw[bF hd hk];cases a<;>exact aj hR
  have fin:∀b:Bool,K (.lit (.bool b)) σ->eE P (do pure (.bool b)) k O (λv k' O'=>l8 k' O' λk2 O2=>k.Le k2/\∃a σ',V k2 v a/\Rel k2 O2 σ'/\K a σ') (λv k' O'=>k.Le k'/\∃a σ',V k' v a/\Rel k' O' σ'/\Kp a σ'):=λb hb=>aj (.here ⟨.refl k,_,σ,.lit _,hr,hb⟩)
  rcases hop with rfl|rfl
  . refine af (s:=Op.equal t (.slice a n c) (.slice none 0 0)) (heq _ _ (fin _ ?_))
    cases ha:a.isNone with
    |true=>exact hK1 (hn ha)
    |false=>exact hK2
  . refine af (s:=Op.equal t (.slice a n c) (.slice none 0 0)) (heq _ _ (fin (!a.isNone) ?_))
    cases ha:a.isNone with
    |true=>exact hK1 (hn ha)
    |false=>exact hK2
end
end Go.aN
