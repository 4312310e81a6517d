import Derived.Test.YtldmpfccgajobaaGreatDoorC37
set_option linter.all false
namespace Go.aR
open Go.Conc
section
variable{P:Program}(L:jr P){k:ah}{O:aj}{Kp:Value->ah->aj->Prop}
end
section
variable{P:Program}(L:jr P){o:Oper}{env:Env}{σ:aa}{K:AV->aa->Prop}{Kp:AV->aa->Prop}
theorem Ai{op:BinOp}{t H e:Nat}{x y:Operand}{i:TI}{kk:Nat}{es:List AV}{sp:bX}(w:o.op=.binOp op t x y H)(I:L.tt t=some i)(J:i.kind=.slice e)(M:aq env y=.nil)
 (Q:aq env x=.sl kk es sp) (l:op=.eql\/op=.neq) (m:es=[]->K (.lit (.bool (op==.eql))) σ) (p:K (.lit (.bool (op==.neq))) σ):aM P o env σ K Kp:=
 aM.val (s:=λg=>do eqGuard op t x y (g x) (g y);binOp op t (g x) (g y)) (λg=>by simp[execOp,w]) λk O g q S=>by
  have D:=q x (by simp[w,Op.operands])
  have F:=q y (by simp[w,Op.operands])
  rw[M]at F;rw[Q]at D;have T:g y=.slice none 0 0:=F.IG
  have j:∃a n c,g x=.slice a n c/\(a.isNone=true->es=[]):=by
   rcases D.ly with⟨Y,j,h,_⟩|⟨b,off,cap,N,E,j,_⟩
   . exact⟨_,_,_,j,λ_=>h⟩
   . exact⟨_,_,_,j,λh=>by cases h⟩
  obtain⟨a,n,c,j,G⟩:=j;rw[j,T];have U:eqGuard op t x y (.slice a n c) (.slice none 0 0)=pure ():=by rcases l with rfl|rfl<;>simp[eqGuard]
  rw[U];refine af (ak ?_)
  have r:∀(R:Bool->ah->aj->Prop) (z:Value->ah->aj->Prop),R a.isNone k O->fE P (Op.equal t (.slice a n c) (.slice none 0 0)) k O R z:=λR z W=>by
   show fE P (Op.equalIn (9999+1) t (.slice a n c) (.slice none 0 0)) k O R z;rw[Op.equalIn];refine af (aC L I λd _ hd=>?_)
   rw[bN hd J];cases a<;>exact ak W
  have fin:∀b:Bool,K (.lit (.bool b)) σ->fE P (do pure (.bool b)) k O (λv u A=>mN u A λB X=>k.Le B/\∃a f,V B v a/\Rel B X f/\K a f) (λv u A=>k.Le u/\∃a f,V u v a/\Rel u A f/\Kp a f):=λb hb=>ak (.here ⟨.refl k,_,σ,.lit _,S,hb⟩)
  rcases l with rfl|rfl
  . refine af (s:=Op.equal t (.slice a n c) (.slice none 0 0)) (r _ _ (fin _ ?_))
    cases C:a.isNone with
    |true=>exact m (G C)
    |false=>exact p
  . refine af (s:=Op.equal t (.slice a n c) (.slice none 0 0)) (r _ _ (fin (!a.isNone) ?_))
    cases C:a.isNone with
    |true=>exact m (G C)
    |false=>exact p
end
end Go.aR
