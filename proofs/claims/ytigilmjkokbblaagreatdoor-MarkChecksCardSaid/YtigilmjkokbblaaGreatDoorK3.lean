/- Part 3 of the proof. -/
import Derived.Test.YtigilmjkokbblaaGreatDoorK2
set_option linter.all false
namespace Go.bd
open Go.Conc
section
variable{P:Program}(L:iG P){m:Mo}
theorem aB.PZ{f:FuncId}{fn:Func}{args:List AV}{σ:aa}{c:dV->aa->Prop}{body:Code}(mu:List Nat)(hold:List Entry)(N k:Nat)(d:P.funcs[f]?=some fn)(hb:fn.body=some body)(e:args.length=k)(a:oa fn k=true)(b:mJ hold body=true)
 (h:bx L m f fn.ntmps none mu hold N [.code body] ⟨dD args,σ,[],.no⟩ (QZ L m fn.results.toList (oc c))):aB P m f args σ c:=by
 simp only[oa,Bool.and_eq_true]at a;refine aB.thaw (aB.intro L d hb (by rw[e];exact Nat.le_of_ble_eq_true a.1) ?_ (Go.bx L mu hold N (by simpa[lr]using b) h));have:=a.2;simpa using this
variable{fid n:Nat}{ro:Option Nat}{hold:List Entry}{K:Exit->St->Prop}{todo:List Item}
end
section
variable{P:Program}(L:iG P){o:Oper}{env:Env}{σ:aa}{K:AV->aa->Prop}{Kp:AV->aa->Prop}
theorem oe{t e:Nat}{x y:Operand}{it g:TI}{n:Int}{A:AV}(I:o.op=.makeSlice t x y)(Z:L.tt t=some it)(hk:it.kind=.slice e)(E:L.tt e=some g)(U:g.size=1)(hb:g.bytes<=1024)
 (W:(jZ g.zero).cells=[A]) (J:A.flat=true) (hx:ar env x=.lit (.int .i64 n)) (hy:ar env y=.lit (.int .i64 n)) (X:0<=n/\n<=1000000)
 (hK:∀b,σ b=none->K (.ew b 0 n.toNat n.toNat) (σ.set b (.cells (List.replicate n.toNat A)))):aK P o env σ K Kp:=
 aK.val (s:=λF=>Instr.makeSlice t (F x) (F y)) (λF=>by simp[execOp,I]) λk O F B hr=>by
  have M:=B x (by simp[I,Op.operands])
  have G:=B y (by simp[I,Op.operands])
  rw[hx]at M;rw[hy]at G;have e1:=cZ M;have e2:=cZ G
  have hw:IntKind.i64.wrap n=n:=by simp[IntKind.wrap,IntKind.signed,IntKind.bits];omega
  have C:g.zero.cells.size=1:=by obtain⟨_,_,_,_,_,_,h⟩:=L.facts E;rw[h];exact U
  have m:=wj (k:=k) (z:=g.zero) (by rw[W];simp[J])
  rw[W]at m;rw[e1,e2];unfold Instr.makeSlice;refine af (aD L Z λd _ hd=>?_)
  rw[bs hd hk];dsimp only;refine af (s:=asInt (.int .i64 n)) (aj ?_);refine af (s:=asInt (.int .i64 n)) (aj ?_);refine af (cV L E λinfo _ _ N _=>?_)
  dsimp only;rw[hw]
  have Q:((decide (n<0)||decide ((info.bytes:Int)*n>2 ^ 48))||decide (n<0)||decide (n>n))=false:=by
   have q:(info.bytes:Int)*n<=1024*1000000:=by rw[N];exact Int.mul_le_mul (by omega) X.2 X.1 (by omega)
   have q2:¬((info.bytes:Int)*n>2 ^ 48):=by omega
   simp;omega
  simp only[Q,Bool.false_eq_true,if_false];refine af (pw ?_);refine af (bQ L E ?_);rw[U]
  have j:∀zero:Array Value,(n.toNat≠0->zero=g.zero.cells)->eh P (do let a <-newRow e ((Array.range (n.toNat*1)).map (zero[· % zero.size]!));pure (Value.slice (some a) n.toNat n.toNat)) k O (λv u H=>lR u H λR O2=>k.Le R/\∃a c,V R v a/\Rel R O2 c/\K a c) (λv u H=>k.Le u/\∃a c,V u v a/\Rel u H c/\Kp a c):=λzero hzero=>by
   have f:∀(i:Nat) v,((Array.range (n.toNat*1)).map (zero[· % zero.size]!))[i]?=some v->i<n.toNat/\g.zero.cells[0]?=some v:=λi v w=>by
    have hi:=(Array.getElem?_eq_some_iff.1 w).1;obtain⟨a7,p⟩:=Array.getElem?_eq_some_iff.1 w;simp at hi p;rw[hzero (by omega),C]at p
    refine⟨by omega,?_⟩
    subst p;simp[Nat.mod_one,C]
   refine af (eY (l:=List.replicate n.toNat A) hr (by simp) (λi v a w ha=>?_) (λi v w=>?_) λr u H S T D=>aj (.here ⟨T,.ew r 0 n.toNat n.toNat,_,.ew ..,D,hK r S⟩))
   . obtain⟨M,G⟩:=f i v w
     have:a=A:=(List.mem_replicate.1 (List.mem_of_getElem? ha)).2;subst this;exact m.2.1 0 v a G rfl
   . exact m.2.2 0 v (f i v w).2
  by_cases Y:n.toNat*1=0
  . rw[if_pos Y]
    refine af (aj ?_);exact j _ (λh=>by omega)
  . rw[if_neg Y]
    refine af (cU L E (af (aj ?_)));exact j _ (λ_=>rfl)
end
theorem P1{es b:List AV}{sp:cG}(g:es.length=b.length)(o:∀e∈es,e.cells=[e])(h:∀e∈b,e.cells=[e])(p:∀(i:Nat) a a',es[i]?=some a->b[i]?=some a'->a.W a'):(AV.sl 1 es sp).W (.sl 1 b .any):=λk v q=>by
 have f1:=cX o;have l:=cX h
 rcases q.Ci with⟨r,rfl,rfl,s⟩|⟨t,off,cap,N,u,c,rfl,z,w,x,A,m,n,B⟩
 . have:b=[]:=List.length_eq_zero_iff.1 g.symm
   subst this;exact .slnil r 1 .any (.inl rfl)
 . rw[f1]at m n
   rw[g];refine .sl t off cap 1 N u b .any c (by omega) w x (λe y=>by rw[h e y];rfl) (λj d=>m j (by rw[l]at d;omega)) (λj a f=>?_) trivial
   rw[l]at f;have d:j<es.length:=by have:=(List.getElem?_eq_some_iff.1 f).1;omega
   exact p j es[j] a (by simp[d]) f k _ (n j _ (by simp[d]))
section
variable{P:Program}{m:Mo}{fid n:Nat}{ro:Option Nat}{hold:List Entry}{K:Exit->St->Prop}{todo:List Item}
theorem ab.J0{env:Env}{σ0 σ:aa}{D:List lQ}{rc:Rec}{kk:Nat}{es:List AV}(t:Nat)(h:bw σ0 σ (env t) kk es)(a:ab P m fid n ro hold todo ⟨env.upd t (.sl kk es .any),σ0,D,rc⟩ K):ab P m fid n ro hold todo ⟨env,σ,D,rc⟩ K:=by
 rcases h.2 with⟨rfl,e|e⟩|⟨b,cap,rest,e,i,k,f,l,o⟩
 . exact ab.zt t (a':=.sl kk [] .any) (by rw[e];exact cW kk) (ab.weaken a h.1)
 . exact ab.zt t (a':=.sl kk [] .any) (by rw[e];exact ck kk [] .exact) (ab.weaken a h.1)
 . have p:=aZ f
   refine ab.freeze b _ l (λu=>Fz.upd (t:=t) (a':=.sl kk es .any) (by
    rw[e];refine .sl 0 cap kk es .any k ?_ f (λj x g=>?_) (.inl rfl)
    . have:cap*kk=es.length*kk+(cap-es.length)*kk:=by rw[<-Nat.add_mul];congr 1;omega
      simp only[List.length_append,p,o];omega
    . rw[Nat.zero_add,List.getElem?_append_left (List.getElem?_eq_some_iff.1 g).1];exact g) u) (Hw.del b _ σ) (ab.weaken a ?_)
   exact λc y d=>by
    have:c≠b:=λq=>by rw[q,i]at d;cases d
    simp only[aa.del,this,if_false];exact h.1 c y d
theorem ab.NC{env:Env}{σ:aa}{D:List lQ}{rc:Rec}{b d i:Nat}{l cs:List AV}{es:List AV}{sp:cG}{at_:Nat}(hd:d≠b)(hb:σ b=some (.cells l))(z:∀e∈l,e.cells=[e])(E:σ d=some (.cells cs))(g:cs[at_]?=some (.sl 1 es sp))(k:∀e∈es,e.cells=[e])(A:es[i]?=some (.ew b 0 l.length l.length))
 (F:ab P m fid n ro hold todo ⟨env,(σ.del b).set d (.cells (cs.set at_ (.sl 1 (es.set i (.sl 1 l .any)) sp))),D,rc⟩ K):ab P m fid n ro hold todo ⟨env,σ,D,rc⟩ K:=by
 have r:=cX z;refine ab.freeze b l hb (λu=>.refl _) (λy x c=>?_) F;by_cases e:y=d
 . subst e
   simp[aa.set]at c;subst c;refine⟨hd,.inr ⟨cs,_,E,rfl,by simp,λj a G s o=>?_⟩⟩;by_cases B:j=at_
   . subst B
     rw[g]at s;cases s;have f:=(List.getElem?_eq_some_iff.1 g).1;rw[List.getElem?_set_self f]at o;cases o;refine .rows es _ sp (by simp) k (λx t=>?_) (λp a G v q=>?_)
     . rcases List.mem_or_eq_of_mem_set t with t|rfl
       . exact k x t
       . rfl
     . by_cases C:p=i
       . subst C
         rw[A]at v;cases v;have f:=(List.getElem?_eq_some_iff.1 A).1;rw[List.getElem?_set_self f]at q;cases q;exact .sl 0 l.length 1 l .any (Nat.le_refl _) (by omega) (λe H=>by rw[z e H];rfl) (λj a h=>by rw[r]at h;simpa using h) (.inl rfl)
       . rw[List.getElem?_set_ne (Ne.symm C)]at q
         rw[v]at q;cases q;exact .refl _
   . rw[List.getElem?_set_ne (Ne.symm B)]at o
     rw[s]at o;cases o;exact .refl _
 . rw[aa.ag _ _ e]at c
   unfold aa.del at c;split at c
   . cases c
   . next w=>exact⟨w,.inl c⟩
end
end Go.bd
