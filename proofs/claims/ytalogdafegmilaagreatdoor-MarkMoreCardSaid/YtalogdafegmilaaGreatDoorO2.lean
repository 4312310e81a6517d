/- Part 2 of the proof. -/
import Derived.Test.YtalogdafegmilaaGreatDoorO1
set_option linter.all false
namespace Go.aN
open Go.Conc
theorem zW.of{P:Program}{t ft:Nat}(h1:(match P.underlying t with|some (.struct fs)=>(match fs.toList with|[f,g]=>f.name !=  "_" && f.type==ft && f.offset==0 && (g.name !=  "_" && g.type==ft && g.offset==1)|_=>false)|_=>false)=true)(h2:P.underlying ft=some (.int .i64))(h3:P.stoodInHeld t=false)(h4:P.eqGuardType P.depth t=false):zW P t ft:=by
 refine⟨?_,h2,h3,h4⟩;split at h1
 . next fs e=>
   split at h1
   . next f g e2=>simp only[Bool.and_eq_true,bne_iff_ne,beq_iff_eq]at h1;refine⟨f,g,?_,⟨h1.1.1.1,h1.1.1.2,h1.1.2⟩,h1.2.1.1,h1.2.1.2,h1.2.2⟩;rw[e];congr 2;exact Array.ext' e2
   . cases h1
 . cases h1
section
variable{P:Program}(L:iE P){k:ag}{O:ah}{Kp:Value->ag->ah->Prop}{t ft:Nat}
theorem oJ{K:Value->ag->ah->Prop}{i:TI}{c:Array Value}{n:Nat}{v:Value}(ht:L.tt ft=some i)(ha:i.agg=false)(hc:c[n]?=some v)(h:K v k O):eE P (part ft c n) k O K Kp:=by unfold part;refine af (ow L ht ?_);rw[ha];simp only[Bool.false_eq_true,if_false];rw[hc];exact aj h
variable(M:zW P t ft){i:TI}(ht:L.tt ft=some i)(ha:i.agg=false)
include M ht ha
theorem uH{K:Bool->ag->ah->Prop}{a b c d:Int}(h:K (a==c && b==d) k O):eE P (Op.equal t (.agg #[.int .i64 a,.int .i64 b]) (.agg #[.int .i64 c,.int .i64 d])) k O K Kp:=by
 obtain⟨f,g,h1,⟨h2,h3,h4⟩,g2,g3,g4⟩:=M.hk;show eE P (Op.equalIn (9998+1+1) t (.agg #[.int .i64 a,.int .i64 b]) (.agg #[.int .i64 c,.int .i64 d])) k O K Kp;rw[Op.equalIn];refine af (fG h1 ?_);refine af (bN ?_);rw[M.hs];simp only[Bool.false_eq_true,if_false,List.forIn_toArray,List.forIn_cons,List.forIn_nil];rw[if_pos h2,h3,h4,if_pos g2,g3,g4];refine af (af (af (oJ L ht ha rfl ?_)));refine af (oJ L ht ha rfl ?_);refine af ?_;rw[Op.equalIn];refine af (fG M.hf ?_);simp only[if_true];refine aj ?_;cases hab:(a==c)with
 |false=>rw[hab]at h;exact aj (aj (aj h))
 | true=>
   rw[hab]at h;refine aj ?_;simp only[];refine af (af (oJ L ht ha rfl ?_));refine af (oJ L ht ha rfl ?_);refine af ?_;rw[Op.equalIn];refine af (fG M.hf ?_);simp only[if_true];refine aj ?_;cases hbd:(b==d)with
   |false=>rw[hbd]at h;exact aj (aj (aj h))
   |true=>rw[hbd]at h;exact aj (aj (aj h))
theorem zX{c:Value}{a b:Int}(h:V k c (.agg [.lit (.int .i64 a),.lit (.int .i64 b)])):c=.agg #[.int .i64 a,.int .i64 b]:=by
 cases h with
 | agg c l h1 h2=>
   obtain⟨l'⟩:=c
   match l',h1,h2 with
   |[p,q],_,h2=>have g0:=h2 0 p _ rfl rfl;have g1:=h2 1 q _ rfl rfl;cases g0;cases g1;rfl
theorem wW{o:Oper}{env:Env}{σ:aa}{K Kp:AV->aa->Prop}{op:BinOp}{t2:Nat}{x y:Operand}{a b c d:Int}{r:Bool}(ho:o.op=.binOp op t x y t2)(hx:ap env x=.agg [.lit (.int .i64 a),.lit (.int .i64 b)])(hy:ap env y=.agg [.lit (.int .i64 c),.lit (.int .i64 d)])
 (hop:(op=.eql/\r=(a==c && b==d))\/(op=.neq/\r=!(a==c && b==d))) (hK:K (.lit (.bool r)) σ):aG P o env σ K Kp:=
 aG.val (s:=λρ=>do eqGuard op t x y (ρ x) (ρ y);binOp op t (ρ x) (ρ y)) (λρ=>by simp[execOp,ho]) λk O ρ hρ hr=>by
  have h1:=hρ x (by simp[ho,Op.operands]);have h2:=hρ y (by simp[ho,Op.operands]);rw[hx]at h1;rw[hy]at h2;rw[zX L M ht ha h1,zX L M ht ha h2]
  have hgd:∀{R:Unit->ag->ah->Prop}{Rp:Value->ag->ah->Prop},R () k O->eE P (eqGuard op t x y (.agg #[.int .i64 a,.int .i64 b]) (.agg #[.int .i64 c,.int .i64 d])) k O R Rp:=λhR=>by
   rcases hop with⟨rfl,_⟩|⟨rfl,_⟩
   . unfold eqGuard
     simp only[Bool.not_true,Bool.false_eq_true,if_false];refine af (bN ?_);refine af (bN ?_);rw[M.hg];exact aj hR
   . unfold eqGuard
     simp only[Bool.not_true,Bool.false_eq_true,if_false];refine af (bN ?_);refine af (bN ?_);rw[M.hg];exact aj hR
  refine af (hgd ?_);rcases hop with⟨rfl,rfl⟩|⟨rfl,rfl⟩
  . exact af (s:=Op.equal t _ _) (uH L M ht ha (aj (.here ⟨.refl k,_,σ,.lit _,hr,hK⟩)))
  . exact af (s:=Op.equal t _ _) (uH L M ht ha (aj (.here ⟨.refl k,_,σ,.lit _,hr,hK⟩)))
end
end Go.aN
