/- Part 27 of the proof. -/
import Derived.Test.YtigilmjkokbblaaGreatDoorC26
set_option linter.all false
namespace Go.bd
open Go.Conc
structure Hj(P:Program)(t ft:Nat):Prop where
 hk:∃f g,P.underlying t=some (.struct #[f,g])/\(f.name≠ "_"/\f.type=ft/\f.offset=0)/\(g.name≠ "_"/\g.type=ft/\g.offset=1)
 hf:P.underlying ft=some (.int .i64)
 hs:P.stoodInHeld t=false
 hg:P.eqGuardType P.depth t=false
theorem Hj.of{P:Program}{t ft:Nat}(a:(match P.underlying t with|some (.struct fs)=>(match fs.toList with|[f,g]=>f.name !=  "_" && f.type==ft && f.offset==0 && (g.name !=  "_" && g.type==ft && g.offset==1)|_=>false)|_=>false)=true)(b:P.underlying ft=some (.int .i64))(c:P.stoodInHeld t=false)(d:P.eqGuardType P.depth t=false):Hj P t ft:=by
 refine⟨?_,b,c,d⟩;split at a
 . next fs e=>
   split at a
   . next f g h=>simp only[Bool.and_eq_true,bne_iff_ne,beq_iff_eq]at a;refine⟨f,g,?_,⟨a.1.1.1,a.1.1.2,a.1.2⟩,a.2.1.1,a.2.1.2,a.2.2⟩;rw[e];congr 2;exact Array.ext' h
   . cases a
 . cases a
section
variable{P:Program}(L:iG P){k:ah}{O:ai}{Kp:Value->ah->ai->Prop}{t ft:Nat}
theorem qD{K:Value->ah->ai->Prop}{i:TI}{c:Array Value}{n:Nat}{v:Value}(ht:L.tt ft=some i)(ha:i.agg=false)(a:c[n]?=some v)(h:K v k O):eh P (part ft c n) k O K Kp:=by unfold part;refine af (qd L ht ?_);rw[ha];simp only[Bool.false_eq_true,if_false];rw[a];exact aj h
variable(M:Hj P t ft){i:TI}(ht:L.tt ft=some i)(ha:i.agg=false)
include M ht ha
theorem yd{K:Bool->ah->ai->Prop}{a b c d:Int}(h:K (a==c && b==d) k O):eh P (Op.equal t (.agg #[.int .i64 a,.int .i64 b]) (.agg #[.int .i64 c,.int .i64 d])) k O K Kp:=by
 obtain⟨f,g,j,⟨l,m,n⟩,o,p,q⟩:=M.hk;show eh P (Op.equalIn (9998+1+1) t (.agg #[.int .i64 a,.int .i64 b]) (.agg #[.int .i64 c,.int .i64 d])) k O K Kp;rw[Op.equalIn];refine af (fZ j ?_);refine af (bN ?_);rw[M.hs];simp only[Bool.false_eq_true,if_false,List.forIn_toArray,List.forIn_cons,List.forIn_nil];rw[if_pos l,m,n,if_pos o,p,q];refine af (af (af (qD L ht ha rfl ?_)));refine af (qD L ht ha rfl ?_);refine af ?_;rw[Op.equalIn];refine af (fZ M.hf ?_);simp only;refine aj ?_;cases e:(a==c)with
 |false=>rw[e]at h;exact aj (aj (aj h))
 | true=>
   rw[e]at h;refine aj ?_;simp only[];refine af (af (qD L ht ha rfl ?_));refine af (qD L ht ha rfl ?_);refine af ?_;rw[Op.equalIn];refine af (fZ M.hf ?_);simp only;refine aj ?_;cases i:(b==d)with
   |false=>rw[i]at h;exact aj (aj (aj h))
   |true=>rw[i]at h;exact aj (aj (aj h))
theorem D5{c:Value}{a b:Int}(h:V k c (.agg [.lit (.int .i64 a),.lit (.int .i64 b)])):c=.agg #[.int .i64 a,.int .i64 b]:=by
 cases h with
 | agg c l e d=>
   obtain⟨f⟩:=c
   match f,e,d with
   |[p,q],_,d=>have g:=d 0 p _ rfl rfl;have i:=d 1 q _ rfl rfl;cases g;cases i;rfl
theorem zV{o:Oper}{env:Env}{σ:aa}{K Kp:AV->aa->Prop}{op:BinOp}{q:Nat}{x y:Operand}{a b c d:Int}{r:Bool}(h:o.op=.binOp op t x y q)(u:ar env x=.agg [.lit (.int .i64 a),.lit (.int .i64 b)])(v:ar env y=.agg [.lit (.int .i64 c),.lit (.int .i64 d)])
 (f:(op=.eql/\r=(a==c && b==d))\/(op=.neq/\r=!(a==c && b==d))) (j:K (.lit (.bool r)) σ):aK P o env σ K Kp:=
 aK.val (s:=λe=>do eqGuard op t x y (e x) (e y);binOp op t (e x) (e y)) (λe=>by simp[execOp,h]) λk O e g l=>by
  have m:=g x (by simp[h,Op.operands]);have n:=g y (by simp[h,Op.operands]);rw[u]at m;rw[v]at n;rw[D5 L M ht ha m,D5 L M ht ha n]
  have i:∀{R:Unit->ah->ai->Prop}{w:Value->ah->ai->Prop},R () k O->eh P (eqGuard op t x y (.agg #[.int .i64 a,.int .i64 b]) (.agg #[.int .i64 c,.int .i64 d])) k O R w:=λp=>by
   rcases f with⟨rfl,_⟩|⟨rfl,_⟩
   . unfold eqGuard
     simp only[Bool.not_true,Bool.false_eq_true,if_false];refine af (bN ?_);refine af (bN ?_);rw[M.hg];exact aj p
   . unfold eqGuard
     simp only[Bool.not_true,Bool.false_eq_true,if_false];refine af (bN ?_);refine af (bN ?_);rw[M.hg];exact aj p
  refine af (i ?_);rcases f with⟨rfl,rfl⟩|⟨rfl,rfl⟩
  . exact af (s:=Op.equal t _ _) (yd L M ht ha (aj (.here ⟨.refl k,_,σ,.lit _,l,j⟩)))
  . exact af (s:=Op.equal t _ _) (yd L M ht ha (aj (.here ⟨.refl k,_,σ,.lit _,l,j⟩)))
end
end Go.bd
