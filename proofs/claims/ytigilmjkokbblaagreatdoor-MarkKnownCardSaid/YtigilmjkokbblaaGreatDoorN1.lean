/- Part 1 of the proof. -/
import Derived.Test.YtigilmjkokbblaaGreatDoorC34
set_option linter.all false
namespace Go.bd
open Go.Conc
section
variable{P:Program}(L:iG P){k:ah}{O:ai}{Kp:Value->ah->ai->Prop}
end
section
variable{P:Program}(L:iG P){o:Oper}{env:Env}{σ:aa}{K:AV->aa->Prop}{Kp:AV->aa->Prop}
theorem CA{t e:Nat}{x:Operand}{f g mx:Option Operand}{it n:TI}{b off len cap l h m:Nat}(p:o.op=.slice t x f g mx)(q:L.tt t=some it)(r:it.kind=.slice e)(w:L.tt e=some n)
 (y:ar env x=.ew b off len cap) (hb:zq env len cap f g mx l h m) (z:K (.ew b (if m=l then off else off+l*n.size) (h-l) (m-l)) σ):aK P o env σ K Kp:=
 aK.val (s:=λa=>Instr.sliceAt t (a x) (f.map a) (g.map a) (mx.map a)) (λa=>by simp[execOp,p]) λk O a u A=>by
  obtain⟨B,C⟩:=jM p;have v:=u x B;rw[y]at v;unfold Instr.sliceAt;refine af (aD L q λD _ i=>?_);rw[bs i r];dsimp only;unfold Instr.slice;refine af (aD L q λd _ hd=>?_);rw[bs hd r,v.JV];dsimp only;refine af (jL hb (λo j=>u o (C o j)) ?_);dsimp only;refine af (bQ L w (aj (.here ⟨.refl k,_,σ,?_,A,z⟩)));by_cases c:m=l
  . simp only[if_pos c];exact .ew ..
  . simp only[if_neg c,Option.map_some,gz];exact .ew ..
end
section
variable{P:Program}(L:iG P){k:ah}{O:ai}{Kp:Value->ah->ai->Prop}
end
section
variable{P:Program}(L:iG P){o:Oper}{env:Env}{σ:aa}{K:AV->aa->Prop}{Kp:AV->aa->Prop}
theorem Bj{op:BinOp}{t H e:Nat}{x y:Operand}{i:TI}{kk:Nat}{es:List AV}{sp:cG}(w:o.op=.binOp op t x y H)(I:L.tt t=some i)(J:i.kind=.slice e)(M:ar env y=.nil)
 (Q:ar env x=.sl kk es sp) (l:op=.eql\/op=.neq) (m:es=[]->K (.lit (.bool (op==.eql))) σ) (p:K (.lit (.bool (op==.neq))) σ):aK P o env σ K Kp:=
 aK.val (s:=λg=>do eqGuard op t x y (g x) (g y);binOp op t (g x) (g y)) (λg=>by simp[execOp,w]) λk O g q S=>by
  have D:=q x (by simp[w,Op.operands])
  have F:=q y (by simp[w,Op.operands])
  rw[M]at F;rw[Q]at D;have T:g y=.slice none 0 0:=F.JW
  have j:∃a n c,g x=.slice a n c/\(a.isNone=true->es=[]):=by
   rcases D.lq with⟨Y,j,h,_⟩|⟨b,off,cap,N,E,j,_⟩
   . exact⟨_,_,_,j,λ_=>h⟩
   . exact⟨_,_,_,j,λh=>by cases h⟩
  obtain⟨a,n,c,j,G⟩:=j;rw[j,T];have U:eqGuard op t x y (.slice a n c) (.slice none 0 0)=pure ():=by rcases l with rfl|rfl<;>simp[eqGuard]
  rw[U];refine af (aj ?_)
  have r:∀(R:Bool->ah->ai->Prop) (z:Value->ah->ai->Prop),R a.isNone k O->eh P (Op.equal t (.slice a n c) (.slice none 0 0)) k O R z:=λR z W=>by
   show eh P (Op.equalIn (9999+1) t (.slice a n c) (.slice none 0 0)) k O R z;rw[Op.equalIn];refine af (aD L I λd _ hd=>?_)
   rw[bs hd J];cases a<;>exact aj W
  have fin:∀b:Bool,K (.lit (.bool b)) σ->eh P (do pure (.bool b)) k O (λv u A=>lR u A λB X=>k.Le B/\∃a f,V B v a/\Rel B X f/\K a f) (λv u A=>k.Le u/\∃a f,V u v a/\Rel u A f/\Kp a f):=λb hb=>aj (.here ⟨.refl k,_,σ,.lit _,S,hb⟩)
  rcases l with rfl|rfl
  . refine af (s:=Op.equal t (.slice a n c) (.slice none 0 0)) (r _ _ (fin _ ?_))
    cases C:a.isNone with
    |true=>exact m (G C)
    |false=>exact p
  . refine af (s:=Op.equal t (.slice a n c) (.slice none 0 0)) (r _ _ (fin (!a.isNone) ?_))
    cases C:a.isNone with
    |true=>exact m (G C)
    |false=>exact p
end
end Go.bd
