import Derived.Test.YtldmpfccgajobaaGreatDoorC26
set_option linter.all false
namespace Go.aR
open Go.Conc
section
variable{P:Program}{m:Mo}{fid n:Nat}{ro:Option Nat}{D:List nj}{rc:Rec}{K:Exit->St->Prop}{k:List Item}{ops:Array Oper}{Kp:AV->aa->Prop}
theorem jw.Rc{i:Nat}{env:Env}{σ:aa}{R b:Env->aa->Prop}(h:jw P m ops n Kp i env σ R)(c:∀env σ,R env σ->b env σ):jw P m ops n Kp i env σ b:=by obtain⟨o,d,e,f⟩:=h;exact⟨o,d,e,f.imp (λh=>⟨h.1,h.2.mono λa g=>c _ _⟩) (λh=>⟨h.1,c _ _ h.2⟩)⟩
theorem dh.inv{Inv:List Nat->Env->aa->Prop}{R:Env->aa->Prop}
 (b:∀done i env σ,(∀j,iX ops j i=true->j∈done)->i∉done->i<ops.size->Inv done env σ->jw P m ops n Kp i env σ (λenv σ=>Inv (i::done) env σ))
 (d:∀done env σ,(∀i,i<ops.size->i∈done)->Inv done env σ->R env σ):
 ∀(l done:List Nat) (env:Env) (σ:aa),jv ops done l->(∀i∈l,i<ops.size)->(∀i,i<ops.size->i∈l\/i∈done)->Inv done env σ->dh P m ops n Kp l env σ R
 |[],done,env,σ,_,_,c,g=>d done env σ (λi p=>(c i p).resolve_left (by simp)) g
 | i :: l,done,env,σ,⟨q,r,s⟩,f,c,g=>by
   obtain⟨o,t,u,v⟩:=b done i env σ q r (f i (by simp)) g
   have next:∀env σ,Inv (i::done) env σ->dh P m ops n Kp l env σ R:=λenv σ h=>dh.inv b d l (i::done) env σ s (λj k=>f j (by simp[k])) (λj k=>by
    rcases c j k with h|h
    . rcases List.mem_cons.1 h with e|e
      . exact .inr (by simp[e])
      . exact .inl e
    . exact .inr (by simp[h])) h
   exact⟨o,t,u,v.imp (λh=>⟨h.1,h.2.mono λa w=>next _ _⟩) (λh=>⟨h.1,next _ _ h.2⟩)⟩
theorem Any.inv{Inv:List Nat->Env->aa->Prop}{R:Env->aa->Prop}{env:Env}{σ:aa}(e:Inv [] env σ)
 (a:∀done i env σ,(∀j,iX ops j i=true->j∈done)->i∉done->i<ops.size->Inv done env σ->jw P m ops n Kp i env σ (λenv σ=>Inv (i::done) env σ))
 (b:∀done env σ,(∀i,i<ops.size->i∈done)->Inv done env σ->R env σ):Any P m ops n Kp [] (List.range ops.size) env σ R:=
 λl ha _ d=>dh.inv a b l [] env σ ha (λi c=>List.mem_range.1 ((d i).1 c)) (λi c=>.inl ((d i).2 (List.mem_range.2 c))) e
theorem bj(L:jr P){mu:List Nat}{i:Nat}{env:Env}{σ:aa}{R:Env->aa->Prop}(h:iy L m mu ops n Kp (.one i .done) env σ R):jw P m ops n Kp i env σ R:=by
 have:=tw L (p:=.done) (λh=>.done h) h;exact this.Rc λenv σ h=>h [] [] [] rfl [] trivial List.nodup_nil (by simp) (by simp)
theorem ab.Nh{hold:List Entry}{id:Nat}{env:Env}{σ:aa}(Inv:List Nat->Env->aa->Prop)(d:P.follows .mixedOrders=true)(e:qg ops=true)(f:Inv [] env σ)
 (a:∀done i env σ,(∀j,iX ops j i=true->j∈done)->i∉done->i<ops.size->Inv done env σ->jw P m ops n (λv σ=>∀env,K (.panic v) ⟨env,σ,D,rc⟩) i env σ (λenv σ=>Inv (i::done) env σ))
 (b:∀done env σ,(∀i,i<ops.size->i∈done)->Inv done env σ->ab P m fid n ro hold k ⟨env,σ,D,rc⟩ K):
 ab P m fid n ro hold (.code (.region id ops true)::k) ⟨env,σ,D,rc⟩ K:=λc=>
 Go.draw d e (Any.inv f a λdone env σ ha g=>b done env σ ha g (by simp only[lX,List.all_cons,Bool.and_eq_true]at c ⊢;exact c.2))
end
structure FW(P:Program)(t ft:Nat):Prop where
 hk:∃f g,P.underlying t=some (.struct #[f,g])/\(f.name≠ "_"/\f.type=ft/\f.offset=0)/\(g.name≠ "_"/\g.type=ft/\g.offset=1)
 hf:P.underlying ft=some (.int .i64)
 hs:P.stoodInHeld t=false
 hg:P.eqGuardType P.depth t=false
theorem FW.of{P:Program}{t ft:Nat}(a:(match P.underlying t with|some (.struct fs)=>(match fs.toList with|[f,g]=>f.name !=  "_" && f.type==ft && f.offset==0 && (g.name !=  "_" && g.type==ft && g.offset==1)|_=>false)|_=>false)=true)(b:P.underlying ft=some (.int .i64))(c:P.stoodInHeld t=false)(d:P.eqGuardType P.depth t=false):FW P t ft:=by
 refine⟨?_,b,c,d⟩;split at a
 . next fs e=>
   split at a
   . next f g h=>simp only[Bool.and_eq_true,bne_iff_ne,beq_iff_eq]at a;refine⟨f,g,?_,⟨a.1.1.1,a.1.1.2,a.1.2⟩,a.2.1.1,a.2.1.2,a.2.2⟩;rw[e];congr 2;exact Array.ext' h
   . cases a
 . cases a
section
variable{P:Program}(L:jr P){k:ah}{O:aj}{Kp:Value->ah->aj->Prop}{t ft:Nat}
theorem qC{K:Value->ah->aj->Prop}{i:TI}{c:Array Value}{n:Nat}{v:Value}(ht:L.tt ft=some i)(ha:i.agg=false)(a:c[n]?=some v)(h:K v k O):fE P (part ft c n) k O K Kp:=by unfold part;refine af (qd L ht ?_);rw[ha];simp only[Bool.false_eq_true,if_false];rw[a];exact ak h
variable(M:FW P t ft){i:TI}(ht:L.tt ft=some i)(ha:i.agg=false)
include M ht ha
theorem xj{K:Bool->ah->aj->Prop}{a b c d:Int}(h:K (a==c && b==d) k O):fE P (Op.equal t (.agg #[.int .i64 a,.int .i64 b]) (.agg #[.int .i64 c,.int .i64 d])) k O K Kp:=by
 obtain⟨f,g,j,⟨l,m,n⟩,o,p,q⟩:=M.hk;show fE P (Op.equalIn (9998+1+1) t (.agg #[.int .i64 a,.int .i64 b]) (.agg #[.int .i64 c,.int .i64 d])) k O K Kp;rw[Op.equalIn];refine af (gM j ?_);refine af (cu ?_);rw[M.hs];simp only[Bool.false_eq_true,if_false,List.forIn_toArray,List.forIn_cons,List.forIn_nil];rw[if_pos l,m,n,if_pos o,p,q];refine af (af (af (qC L ht ha rfl ?_)));refine af (qC L ht ha rfl ?_);refine af ?_;rw[Op.equalIn];refine af (gM M.hf ?_);simp only;refine ak ?_;cases e:(a==c)with
 |false=>rw[e]at h;exact ak (ak (ak h))
 | true=>
   rw[e]at h;refine ak ?_;simp only[];refine af (af (qC L ht ha rfl ?_));refine af (qC L ht ha rfl ?_);refine af ?_;rw[Op.equalIn];refine af (gM M.hf ?_);simp only;refine ak ?_;cases i:(b==d)with
   |false=>rw[i]at h;exact ak (ak (ak h))
   |true=>rw[i]at h;exact ak (ak (ak h))
theorem CU{c:Value}{a b:Int}(h:V k c (.agg [.lit (.int .i64 a),.lit (.int .i64 b)])):c=.agg #[.int .i64 a,.int .i64 b]:=by
 cases h with
 | agg c l e d=>
   obtain⟨f⟩:=c
   match f,e,d with
   |[p,q],_,d=>have g:=d 0 p _ rfl rfl;have i:=d 1 q _ rfl rfl;cases g;cases i;rfl
theorem yN{o:Oper}{env:Env}{σ:aa}{K Kp:AV->aa->Prop}{op:BinOp}{q:Nat}{x y:Operand}{a b c d:Int}{r:Bool}(h:o.op=.binOp op t x y q)(u:aq env x=.agg [.lit (.int .i64 a),.lit (.int .i64 b)])(v:aq env y=.agg [.lit (.int .i64 c),.lit (.int .i64 d)])
 (f:(op=.eql/\r=(a==c && b==d))\/(op=.neq/\r=!(a==c && b==d))) (j:K (.lit (.bool r)) σ):aM P o env σ K Kp:=
 aM.val (s:=λe=>do eqGuard op t x y (e x) (e y);binOp op t (e x) (e y)) (λe=>by simp[execOp,h]) λk O e g l=>by
  have m:=g x (by simp[h,Op.operands]);have n:=g y (by simp[h,Op.operands]);rw[u]at m;rw[v]at n;rw[CU L M ht ha m,CU L M ht ha n]
  have i:∀{R:Unit->ah->aj->Prop}{w:Value->ah->aj->Prop},R () k O->fE P (eqGuard op t x y (.agg #[.int .i64 a,.int .i64 b]) (.agg #[.int .i64 c,.int .i64 d])) k O R w:=λp=>by
   rcases f with⟨rfl,_⟩|⟨rfl,_⟩
   . unfold eqGuard
     simp only[Bool.not_true,Bool.false_eq_true,if_false];refine af (cu ?_);refine af (cu ?_);rw[M.hg];exact ak p
   . unfold eqGuard
     simp only[Bool.not_true,Bool.false_eq_true,if_false];refine af (cu ?_);refine af (cu ?_);rw[M.hg];exact ak p
  refine af (i ?_);rcases f with⟨rfl,rfl⟩|⟨rfl,rfl⟩
  . exact af (s:=Op.equal t _ _) (xj L M ht ha (ak (.here ⟨.refl k,_,σ,.lit _,l,j⟩)))
  . exact af (s:=Op.equal t _ _) (xj L M ht ha (ak (.here ⟨.refl k,_,σ,.lit _,l,j⟩)))
end
end Go.aR
