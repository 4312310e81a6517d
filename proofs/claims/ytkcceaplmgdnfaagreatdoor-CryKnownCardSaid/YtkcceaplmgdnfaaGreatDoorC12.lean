import Derived.Test.YtkcceaplmgdnfaaGreatDoorC11
set_option linter.all false
namespace Go.bu
open Go.Conc
theorem uf(a b:Int):(a==b)=decide (a=b):=by grind
theorem mC{a b c:Bool}{p q:Prop}[Decidable p][Decidable q](h:q↔(a=false/\b=false/\c=false/\p)):decide q=(!a && !b && !c && decide p):=by grind
set_option maxHeartbeats 1000000 in
theorem MD{P:Program}{f:Fl}{y:Sy}(o:f.At y){op:BinOp}{t:TypeId}{a b r:SV}{x z:Value}(h:IG f op a b=some r)(g:SR y a x)(hb:SR y b z):∃v,l8 P (binOp op t x z)=some v/\SR y r v:=by
 have hN:=o.hN;have hc:=o.hc;unfold IG at h;split at h
 ·
  rename_i L K S j m;obtain⟨rfl,l,p⟩:=g;have hb:z=.int .i32 m:=hb;subst hb;split at h
  . rename_i d
    simp only[Option.some.injEq]at h;subst h;refine⟨.int .i32 (bits .and .i32 (enc L K S (y.N+j)) m),rfl,?_⟩;have e:m=(m.toNat:Int):=by omega
    show Value.int .i32 _=.int .i32 _;congr 1;rw[e];exact MC ⟨l,by omega⟩ (by omega)
  . cases h
 ·
  rename_i L K S j m;obtain⟨rfl,l,p⟩:=g;have hb:z=.int .i32 m:=hb;subst hb;have q:∀k:Nat,k<8->bits .or .i32 (enc L K S (y.N+j)) (k:Int)=((8*(y.N+j).toNat+((L.toNat+2*K.toNat+4*S.toNat)|||k):Nat):Int):=λk D=>OZ ⟨l,by omega⟩ D
  have I:(((y.N+j).toNat:Nat):Int)=y.N+j:=Int.toNat_of_nonneg l;split at h
  . rename_i d;subst d
    simp only[Option.some.injEq]at h;subst h;refine⟨.int .i32 (bits .or .i32 (enc L K S (y.N+j)) 1),rfl,?_,l,p⟩;congr 1;have:=q 1 (by omega)
    rw[show((1:Nat):Int)=1 from rfl]at this
    rw[this];unfold enc;cases L<;>cases K<;>cases S<;>simp[Bool.toNat]<;>omega
  split at h
  . rename_i d;subst d
    simp only[Option.some.injEq]at h;subst h;refine⟨.int .i32 (bits .or .i32 (enc L K S (y.N+j)) 2),rfl,?_,l,p⟩;congr 1;have:=q 2 (by omega)
    rw[show((2:Nat):Int)=2 from rfl]at this
    rw[this];unfold enc;cases L<;>cases K<;>cases S<;>simp[Bool.toNat]<;>omega
  split at h
  . rename_i d;subst d
    simp only[Option.some.injEq]at h;subst h;refine⟨.int .i32 (bits .or .i32 (enc L K S (y.N+j)) 4),rfl,?_,l,p⟩;congr 1;have:=q 4 (by omega)
    rw[show((4:Nat):Int)=4 from rfl]at this
    rw[this];unfold enc;cases L<;>cases K<;>cases S<;>simp[Bool.toNat]<;>omega
  . cases h
 ·
  rename_i L K S j m;obtain⟨rfl,l,p⟩:=g;have hb:z=.int .i32 m:=hb;subst hb;split at h
  . rename_i d;subst d
    simp only[Option.some.injEq]at h;subst h;refine⟨.int .i32 (bits .andNot .i32 (enc L K S (y.N+j)) 2),rfl,?_,l,p⟩;rw[Ba ⟨l,by omega⟩]
  . cases h
 ·
  rename_i L K S j m;obtain⟨rfl,l,p⟩:=g;have hb:z=.int .i32 m:=hb;subst hb;have s:=kN (L:=L) (K:=K) (S:=S) (N:=y.N+j);split at h
  . rename_i d;subst d
    split at h
    . simp only[Option.some.injEq]at h;subst h
      refine⟨.int .i32 (IntKind.i32.wrap (enc L K S (y.N+j)+8)),rfl,?_,by omega,by omega⟩
      rw[ia (by omega) (by omega)]
      congr 1;unfold enc;omega
    . cases h
  split at h
  . rename_i d;subst d
    split at h
    . rename_i E;subst E
      simp only[Option.some.injEq]at h;subst h;refine⟨.int .i32 (IntKind.i32.wrap (enc false K S (y.N+j)+1)),rfl,?_,l,p⟩;rw[ia (by omega) (by omega)]
      congr 1;unfold enc;simp[Bool.toNat];omega
    . cases h
  . cases h
 ·
  rename_i L K S j m;obtain⟨rfl,l,p⟩:=g;have hb:z=.int .i32 m:=hb;subst hb;have s:=kN (L:=L) (K:=K) (S:=S) (N:=y.N+j);split at h
  . rename_i d
    obtain⟨rfl,rfl,A⟩:=d;rw[o.n0]at A;simp at A;simp only[Option.some.injEq]at h;subst h;refine⟨.int .i32 (IntKind.i32.wrap (enc L K S (y.N+0)-8)),rfl,?_,by omega,by omega⟩
    rw[ia (by omega) (by omega)]
    congr 1;unfold enc;omega
  . cases h
 ·
  rename_i L K S j m;obtain⟨rfl,l,p⟩:=g;have hb:z=.int .u64 m:=hb;subst hb;have s:=kN (L:=L) (K:=K) (S:=S) (N:=y.N+j);split at h
  . rename_i d
    obtain⟨rfl,rfl⟩:=d;simp only[Option.some.injEq]at h;subst h;refine⟨.int .i32 ((enc L K S (y.N+0)).fdiv (2 ^ 3)),rfl,?_⟩;show Value.int .i32 _=.int .i32 _;congr 1;rw[Int.fdiv_eq_ediv_of_nonneg _ (by decide)]
    omega
  . cases h
 ·
  rename_i L K S j m;obtain⟨rfl,l,p⟩:=g;have hb:z=.int .i32 m:=hb;subst hb;split at h
  . rename_i d
    obtain⟨rfl,rfl⟩:=d;simp only[Option.some.injEq]at h;subst h;refine⟨.bool (enc L K S (y.N+0)==0),rfl,?_⟩;show Value.bool _=.bool _;congr 1;rw[o.n0,uf];have:=vw (L:=L) (K:=K) (S:=S) l;rw[Int.add_zero]at this ⊢;exact mC this
  . cases h
 ·
  rename_i L K S j m;obtain⟨rfl,l,p⟩:=g;have hb:z=.int .i32 m:=hb;subst hb;split at h
  . rename_i d
    obtain⟨rfl,rfl⟩:=d;simp only[Option.some.injEq]at h;subst h;refine⟨.bool (enc L K S (y.N+0)!=0),rfl,?_⟩;show Value.bool _=.bool _;congr 1;rw[o.n0];have:=vw (L:=L) (K:=K) (S:=S) l;rw[Int.add_zero]at this ⊢;rw[bne,uf,mC this]
  . cases h
 ·
  rename_i m;have g:x=.int .i32 y.N:=g;have hb:z=.int .i32 m:=hb;subst g;subst hb;split at h
  . rename_i d;subst d
    simp only[Option.some.injEq]at h;subst h;exact⟨.bool (y.N==0),rfl,by show Value.bool _=.bool _;rw[o.n0,uf]⟩
  split at h
  . rename_i d;subst d
    simp only[Option.some.injEq]at h;subst h;exact⟨.bool (y.N==1),rfl,by show Value.bool _=.bool _;rw[o.n1,uf]⟩
  . cases h
 . rename_i m
   have g:x=.int .i32 y.N:=g;have hb:z=.int .i32 m:=hb;subst g;subst hb;split at h
   . rename_i d;subst d
     simp only[Option.some.injEq]at h;subst h;exact⟨.bool (y.N !=0),rfl,by show Value.bool _=.bool _;rw[o.n0,bne,uf]⟩
   split at h
   . rename_i d;subst d
     simp only[Option.some.injEq]at h;subst h;exact⟨.bool (y.N !=1),rfl,by show Value.bool _=.bool _;rw[o.n1,bne,uf]⟩
   . cases h
 ·
  rename_i w m;have g:x=.int .u64 (dN y.c w):=g;have hb:z=.int .u64 m:=hb;subst g;subst hb
  have F:dN y.c w=((y.c.toNat*4294967296+w:Nat):Int):=by have:((y.c.toNat:Nat):Int)=y.c:=Int.toNat_of_nonneg hc.1;rw[Int.natCast_add,Int.natCast_mul,this];rfl
  split at h
  . rename_i d
    obtain⟨rfl,u⟩:=d;simp only[Option.some.injEq]at h;subst h;refine⟨.int .u64 (bits .and .u64 (dN y.c w) 2147483648),rfl,?_⟩;show Value.int .u64 _=.int .u64 _;congr 1
    have G:bits .and .u64 (dN y.c w) 4294967295=(w:Int):=by
     have:=bits_mask .u64 64 (by decide) (λn a b=>jz a b) 32 (by omega) (dN y.c w) (by unfold dN;omega) (by unfold dN;omega)
     rw[show((2:Int) ^ 32-1)=4294967295 from rfl]at this
     rw[this];unfold dN;omega
    rw[F,show(2147483648:Int)=((2147483648:Nat):Int)from rfl,(bits_nat .u64 64 (by decide) (λn a b=>jz a b) _ _ (by omega) (by omega)).1]
    have e:(y.c.toNat*4294967296+w) &&& 2147483648=0:=by
     apply Nat.eq_of_testBit_eq;intro i;rw[Nat.testBit_and,Nat.zero_testBit]
     have hb:(2147483648:Nat).testBit i=decide (31=i):=by have:=Nat.testBit_two_pow (n:=31) (m:=i);simpa using this
     rw[hb]
     by_cases B:31=i
     . subst B
       have l:=Nat.testBit_two_pow_mul_add (i:=32) y.c.toNat (b:=w) (by omega) 31
       simp only[show 31<32 by omega,if_true]at l
       rw[show y.c.toNat*4294967296+w=2 ^ 32*y.c.toNat+w by omega,l]
       rw[Nat.testBit_lt_two_pow (by omega:w<2 ^ 31)];rfl
     . simp[B]
    rw[e];rfl
  split at h
  . rename_i d
    obtain⟨rfl,u⟩:=d;simp only[Option.some.injEq]at h;subst h;refine⟨.int .u64 (bits .and .u64 (dN y.c w) 2147483647),rfl,?_⟩;show Value.int .u64 _=.int .u64 _;congr 1;have:=bits_mask .u64 64 (by decide) (λn a b=>jz a b) 31 (by omega) (dN y.c w) (by unfold dN;omega) (by unfold dN;omega)
    rw[show((2:Int) ^ 31-1)=2147483647 from rfl]at this
    rw[this];unfold dN;omega
  . cases h
 ·
  rename_i w m;have g:x=.int .u64 (dN y.c w):=g;have hb:z=.int .u64 m:=hb;subst g;subst hb;split at h
  . rename_i d
    obtain⟨rfl,u⟩:=d;simp only[Option.some.injEq]at h;subst h;refine⟨.int .u64 ((dN y.c w).fdiv (2 ^ 32)),rfl,?_⟩;show Value.int .u64 _=.int .u64 _;congr 1;rw[Int.fdiv_eq_ediv_of_nonneg _ (by decide)]
    unfold dN;omega
  . cases h
 . rename_i m
   have g:x=.int .i32 y.c:=g;have hb:z=.int .i32 m:=hb;subst g;subst hb;split at h
   . rename_i d;subst d
     simp only[Option.some.injEq]at h;subst h;exact⟨.bool (y.c==0),rfl,by show Value.bool _=.bool _;rw[o.c0,uf]⟩
   split at h
   . rename_i d;subst d
     simp only[Option.some.injEq]at h;subst h;exact⟨.bool (y.c==1),rfl,by show Value.bool _=.bool _;rw[o.c1,uf]⟩
   split at h
   . rename_i d;subst d
     simp only[Option.some.injEq]at h;subst h;refine⟨.bool (y.c==-1),rfl,?_⟩;show Value.bool _=.bool _;have:¬y.c=-1:=by omega
     rw[uf];simp[this]
   . cases h
 . rename_i m
   have g:x=.int .i32 y.c:=g;have hb:z=.int .i32 m:=hb;subst g;subst hb;split at h
   . rename_i d;subst d
     simp only[Option.some.injEq]at h;subst h;refine⟨.bool (decide (y.c<0)),rfl,?_⟩;show Value.bool _=.bool _;have:¬y.c<0:=by omega
     simp[this]
   . cases h
 . rename_i m
   have g:x=.int .i32 y.c:=g;have hb:z=.int .i32 m:=hb;subst g;subst hb;split at h
   . rename_i d;subst d
     simp only[Option.some.injEq]at h;subst h;refine⟨.bool (decide (y.c>0)),rfl,?_⟩;show Value.bool _=.bool _;rw[o.c0];congr 1
     by_cases C:y.c=0
     . simp[C]
     . have:y.c>0:=by omega
       simp[C,this]
   . cases h
 . rename_i w H
   have g:x=.int .u64 (dN y.c w):=g;have hb:z=.int .u64 (dN y.c H):=hb;subst g;subst hb;split at h
   . rename_i d;subst d
     simp only[Option.some.injEq]at h;subst h;exact⟨.bool (dN y.c w !=dN y.c w),rfl,by show Value.bool _=.bool _;simp⟩
   . cases h
 . rename_i w m
   have g:x=.int .u64 (dN y.c w):=g;have hb:z=.int .u64 m:=hb;subst g;subst hb;split at h
   . rename_i d;subst d
     simp only[Option.some.injEq]at h;subst h;refine⟨.bool (dN y.c w !=0),rfl,?_⟩;show Value.bool _=.bool _;rw[o.c0];congr 1;have:dN y.c w=0↔(y.c=0/\w=0):=by unfold dN;omega
     rw[bne,uf]
     have e:decide (dN y.c w=0)=(decide (y.c=0) && decide (w=0)):=by rw[Bool.eq_iff_iff,Bool.and_eq_true,decide_eq_true_iff,decide_eq_true_iff,decide_eq_true_iff];exact this
     rw[e]
   . cases h
 . rename_i w m
   have g:x=.int .u64 (dN y.c w):=g;have hb:z=.int .u64 m:=hb;subst g;subst hb;split at h
   . rename_i d
     obtain⟨rfl,u⟩:=d;simp only[Option.some.injEq]at h;subst h;refine⟨.int .u64 (IntKind.u64.wrap (dN y.c w+1)),rfl,?_⟩;show Value.int .u64 _=.int .u64 _;rw[jz (by unfold dN;omega) (by unfold dN;omega)]
     congr 1;unfold dN;push_cast;omega
   . cases h
 . rename_i m
   have g:x=.int .i64 y.ws:=g;have hb:z=.int .i64 m:=hb;subst g;subst hb;split at h
   . rename_i d;subst d
     simp only[Option.some.injEq]at h;subst h;exact⟨.bool (y.ws==0),rfl,by show Value.bool _=.bool _;rw[o.wz,uf]⟩
   . cases h
 . rename_i m
   have g:x=.int .i64 y.ws:=g;have hb:z=.int .i64 m:=hb;subst g;subst hb;split at h
   . rename_i d;subst d
     simp only[Option.some.injEq]at h;subst h;exact⟨.bool (y.ws !=0),rfl,by show Value.bool _=.bool _;rw[o.wz,bne,uf]⟩
   . cases h
 . have g:x=.int .i64 y.tn:=g
   have hb:z=.int .i64 y.ws:=hb;subst g;subst hb;simp only[Option.some.injEq]at h;subst h;exact⟨_,rfl,rfl⟩
 . rename_i m
   have g:x=.int .i64 (IntKind.i64.wrap (y.tn-y.ws)):=g;have hb:z=.int .i64 m:=hb;subst g;subst hb;split at h
   . rename_i d;subst d
     simp only[Option.some.injEq]at h;subst h;exact⟨.bool (decide (IntKind.i64.wrap (y.tn-y.ws)>1000000)),rfl,by show Value.bool _=.bool _;rw[o.tb]⟩
   . cases h
 . cases h
inductive Bb where
 |run
 |ret
def Bb.of:Bb->FrameMode
 |.run=>.run
 |.ret=>.returning
structure iX where
 fn:FuncId
 todo:List Item
 env:List SV
 defers:List Deferred
 mode:Bb
 kind:CallKind
def sv(env:List SV):Operand->SV
 |.tmp t=>env.getD t .bJ
 |.const v=>.lit v
 |.global g=>.lit (.pointer (some ⟨g,0,none⟩))
 |.func f=>.lit (.func (.func f) #[] #[])
def TA(P:Program)(f:Fl)(ρ:Operand->SV)(o:Op):Option SV:=
 match o with
 |.move x=>some (ρ x)
 |.assign x=>some (ρ x)
 |.pick c a b=>match ρ c with|.lit (.bool x)=>some (if x then ρ a else ρ b)|_=>none
 | .binOp op t x y _=>
   match IG f op (ρ x) (ρ y)with
   |some r=>some r
   | none=>match ρ x,ρ y with
     |.lit (.int k a),.lit (.int d b)=>(l8 P (binOp op t (.int k a) (.int d b))).map .lit
     |_,_=>none
 |.unOp .not _ x=>match ρ x with|.lit (.bool b)=>some (.lit (.bool !b))|_=>none
 |.nilCheck x=>match ρ x with|.lit (.pointer (some a))=>some (.lit (.pointer (some a)))|_=>none
 |.fieldAddr s x e=>match ρ x with|.lit (.pointer (some a))=>(l8 P (Instr.fieldAt s (.pointer (some a)) e)).map .lit|_=>none
 | .convert src dst x=>
   match ρ x with
   |.lit v=>(l8 P (convert src dst v)).map .lit
   |.EU=>match P.underlying src,P.underlying dst with|some _,some (.int .i32)=>some .F3|_,_=>none
   |_=>none
 |_=>none
theorem Bc{P:Program}{op:BinOp}{t:TypeId}{x y:Operand}{k k':IntKind}{a b:Int}:l8 P (eqGuard op t x y (.int k a) (.int k' b))=some ():=by unfold eqGuard;split<;>rfl
theorem SR.int{y:Sy}{a:SV}{x:Value}(h:SR y a x)(b:∀v,a≠.lit v)(c:a≠.bJ):∃k n,x=.int k n:=by
 cases a with
 |bJ=>simp_all
 |lit v=>simp_all
 |word _ _ _ _=>exact⟨_,_,h.1⟩
 |_=>exact⟨_,_,h⟩
theorem IH{f:Fl}{op:BinOp}{a b r:SV}{y:Sy}{x z:Value}(h:IG f op a b=some r)(g:SR y a x)(hb:SR y b z):∃k n k' c,x=.int k n/\z=.int k' c:=by
 unfold IG at h
 split at h<;>first
  |(cases h;done)
  | (obtain⟨k,n,d⟩:=g.int (by intro v e;cases e) (by intro e;cases e)
     first
     |exact⟨k,n,_,_,d,hb⟩
     |(obtain⟨k',c,i⟩:=hb.int (by intro v e;cases e) (by intro e;cases e);exact⟨k,n,k',c,d,i⟩))
theorem zs{α:Type}{P:Program}{s:Sem α}{g:α->SV}{r:SV}(h:(l8 P s).map g=some r):∃a,l8 P s=some a/\r=g a:=by
 cases q:l8 P s with
 |none=>simp_all
 |some a=>simp_all
theorem oP{P:Program}{s:Sem Value}{v:Value}(h:l8 P s=some v):l8 P (do pure (.value (<-s)):Sem Next)=some (.value v):=by
 show l8 P (Sem.bind s λa=>(pure (Next.value a):Sem Next))=_;rw[kM s h];rfl
theorem O0{P:Program}{f:Fl}{y:Sy}(A:f.At y){ρ:Operand->SV}{ρ':Operand->Value}{o:Oper}{r:SV}(h:TA P f ρ o.op=some r)(i:∀x,SR y (ρ x) (ρ' x)):∃v,l8 P (execOp ρ' o)=some (.value v)/\SR y r v:=by
 unfold TA at h;split at h
 . rename_i x e
   simp only[Option.some.injEq]at h;subst h;exact⟨ρ' x,by simp[execOp,e];rfl,i x⟩
 . rename_i x e
   simp only[Option.some.injEq]at h;subst h;exact⟨ρ' x,by simp[execOp,e];rfl,i x⟩
 . rename_i c a b e
   split at h
   . rename_i x j
     simp only[Option.some.injEq]at h;subst h;have hc:=i c;rw[j]at hc;have hc:ρ' c=.bool x:=hc;refine⟨if x then ρ' a else ρ' b,?_,?_⟩
     . simp only[execOp,e,hc]
       cases x<;>rfl
     grind
   . cases h
 . rename_i op t x z nl e
   have key:∀{k n m p},ρ' x=.int k n->ρ' z=.int m p->∀{v},l8 P (binOp op t (.int k n) (.int m p))=some v->l8 P (execOp ρ' o)=some (.value v):=by
    intro k n m p g q v l;have:execOp ρ' o=(do pure (.value (<-(do eqGuard op t x z (ρ' x) (ρ' z);binOp op t (ρ' x) (ρ' z)))):Sem Next):=by simp only[execOp,e]
    rw[this,g,q];refine oP ?_;show l8 P ((eqGuard op t x z (.int k n) (.int m p)).bind λ_=>binOp op t (.int k n) (.int m p))=_
    rw[kM _ Bc];exact l
   split at h
   . rename_i F w
     simp only[Option.some.injEq]at h;subst h;obtain⟨k,n,m,p,g,q⟩:=IH w (i x) (i z);obtain⟨v,l,G⟩:=MD (P:=P) A (t:=t) w (i x) (i z)
     simp_all
   . split at h
     . rename_i k a m b j B
       obtain⟨v,l,rfl⟩:=zs h;have g:=i x;have q:=i z;rw[j]at g;rw[B]at q;exact⟨v,key g q l,rfl⟩
     . cases h
 . rename_i t x e
   split at h
   . rename_i b j
     simp only[Option.some.injEq]at h;subst h;have g:=i x;rw[j]at g;have g:ρ' x=.bool b:=g;exact⟨.bool !b,by simp only[execOp,e,g];rfl,rfl⟩
   . cases h
 . rename_i x e
   split at h
   . rename_i a j
     simp only[Option.some.injEq]at h;subst h;have g:=i x;rw[j]at g;have g:ρ' x=.pointer (some a):=g;exact⟨_,by simp only[execOp,e,g];rfl,rfl⟩
   . cases h
 . rename_i s x H e
   split at h
   . rename_i a j
     obtain⟨v,l,rfl⟩:=zs h;have g:=i x;rw[j]at g;have g:ρ' x=.pointer (some a):=g;refine⟨v,?_,rfl⟩;simp only[execOp,e,g];exact oP l
   . cases h
 . rename_i src dst x e
   split at h
   . rename_i u j
     obtain⟨v,l,rfl⟩:=zs h;have g:=i x;rw[j]at g;have g:ρ' x=u:=g;refine⟨v,?_,rfl⟩;simp only[execOp,e,g];exact oP l
   . rename_i j
     split at h
     . rename_i d w hd
       simp only[Option.some.injEq]at h;subst h;have g:=i x;rw[j]at g;have g:ρ' x=.int .u64 y.c:=g;refine⟨.int .i32 y.c,?_,rfl⟩;simp only[execOp,e,g];refine oP ?_
       have C:l8 P (underlying src)=some d:=by unfold underlying;show l8 P (Sem.bind program _)=_;rw[kM program (a:=P) rfl,w];rfl
       have D:l8 P (underlying dst)=some (.int .i32):=by unfold underlying;show l8 P (Sem.bind program _)=_;rw[kM program (a:=P) rfl,hd];rfl
       unfold convert;show l8 P (Sem.bind (underlying src) _)=_;rw[kM _ C];show l8 P (Sem.bind (underlying dst) _)=_;rw[kM _ D];have E:IntKind.i32.wrap y.c=y.c:=ia (by have:=A.hc;omega) (by have:=A.hc;omega)
       show some (Value.int .i32 (IntKind.i32.wrap y.c))=_;rw[E]
     . cases h
   . cases h
 . cases h
def ye(ops:Array Oper)(env:List SV)(o:Oper):Option Bool:=
 match o.guard with
 |none=>some true
 | some (j,b)=>match (ops[j]?).bind (·.dst)with
   | some d=>match env.getD d .bJ with
     |.lit (.bool x)=>some (x==b)
     |_=>none
   |none=>none
def vz(fr:iX)(v:SV):Option iX:=
 match fr.todo with
 |.inRegion ops (i::rest)::k=>some {fr with env:=(match (ops[i]?).bind (·.dst)with|some d=>fr.env.set d v|none=>fr.env),todo:=.inRegion ops rest::k}
 |_=>none
def Rd(fn:Func)(env:List SV):Option SV:=
 match fn.results.toList with
 |[]=>some (.lit (.tuple #[]))
 |[.tmp t]=>some (env.getD t .bJ)
 |_=>none
def NZ(P:Program)(env:List SV)(c:Call):Option iX:=
 match c.callee with
 | .value (.func g)=>match P.funcs[g]? with
   | some fn=>match fn.body with
     |some body=>if fn.name= "runtime.NumGoroutine" then none else some {fn:=g,todo:=[.code body],env:=c.args.toList.map (sv env)++List.replicate (fn.ntmps-c.args.size) .bJ,defers:=[],mode:=.run,kind:=.normal}
     |none=>none
   |none=>none
 |_=>none
def II(c:Call):Option Deferred:=
 match c.callee with
 |.value (.func g)=>if c.args=#[]then some {target:=.fn (.func g) #[],args:=#[]}else none
 |_=>none
def ss(P : Program)(f:Fl)(fr:iX)(st:List iX):Option (iX × List iX):=
 match fr.mode with
 | .ret=>match st with
   |[]=>none
   | c ::e=>match fr.defers,fr.kind,P.funcs[fr.fn]? with
     | [],.normal,some fn=>match Rd fn fr.env with
       |some v=>(vz c v).map (·,e)
       |none=>none
     |_,_,_=>none
 | .run => match fr.todo with
   |[]=>some ({fr with mode:=.ret},st)
   |.code .ret::_=>some ({fr with mode:=.ret},st)
   |.code .skip::k=>some ({fr with todo:=k},st)
   |.inBlock _::k=>some ({fr with todo:=k},st)
   |.inScope _::k=>some ({fr with todo:=k},st)
   |.inRegion _ []::k=>some ({fr with todo:=k},st)
   |.code (.seq a b)::k=>some ({fr with todo:=.code a::.code b::k},st)
   |.code (.block id c)::k=>some ({fr with todo:=.code c::.inBlock id::k},st)
   |.code (.scope c)::k=>some ({fr with todo:=.code c::.inScope c::k},st)
   |.code (.loop c)::k=>some ({fr with todo:=.code c::.inLoop c::k},st)
   |.inLoop c::k=>some ({fr with todo:=.code c::.inLoop c::k},st)
   |.code (.exit id)::k=>(exitTo id k).map λg=>({fr with todo:=g},st)
   | .code (.cond c a b)::k=>match sv fr.env c with
     |.lit (.bool x)=>some ({fr with todo:=.code (if x then a else b)::k},st)
     |_=>none
   |.code (.region id ops false)::k=>some ({fr with todo:=.inRegion ops (List.range ops.size)::k},st)
   | .inRegion ops (i::rest)::k=>match ops[i]? with
     |none=>none
     | some o=>match ye ops fr.env o with
       |none=>none
       |some false=>(vz fr .bJ).map (·,st)
       | some true=>match o.op with
         |.call c=>(NZ P fr.env c).map (·,fr::st)
         | .defer c=>match II c with
           |some d=>(vz fr .bJ).map λs=>({s with defers:=d::s.defers},st)
           |none=>none
         | op=>match TA P f (sv fr.env) op with
           |some v=>(vz fr v).map (·,st)
           |none=>none
   |_=>none
def sgo(P:Program)(f:Fl):Nat->iX->List iX->iX × List iX
 |0,fr,st=>(fr,st)
 | n+1,fr,st=>match ss P f fr st with
   |some (a,b)=>sgo P f n a b
   |none=>(fr,st)
structure FR(y:Sy)(s:iX)(fr:Frame):Prop where
 fn:fr.fn=s.fn
 todo:fr.todo=s.todo
 defers:fr.defers=s.defers
 mode:fr.mode=s.mode.of
 kind:fr.kind=s.kind
 ro:fr.roundOf=none
 size:fr.tmps.size=s.env.length
 env:∀t,SR y (s.env.getD t .bJ) (fr.tmps.getD t undef)
def lj(y:Sy):List iX->List Frame->Prop
 |[],[]=>True
 |s::ss,f::fs=>FR y s f/\lj y ss fs
 |_,_=>False
def qd(P:Program)(Wd:World->Prop)(g g':Goroutine):Prop:=g.status=.running/\∀main w,Wd w->stepG P main g w=.go g' w #[]
def iu(P:Program)(Wd:World->Prop):Nat->Goroutine->Goroutine->Prop
 |0,g,a=>g=a
 |n+1,g,a=>∃b,qd P Wd g b/\iu P Wd n b a
def qO(P:Program)(Wd:World->Prop)(g g':Goroutine):Prop:=∃n,iu P Wd n g g'
theorem iu.trans{P:Program}{Wd:World->Prop}:∀{n m:Nat}{a b c:Goroutine},iu P Wd n a b->iu P Wd m b c->iu P Wd (n+m) a c
 |0,m,a,b,c,h,d=>by obtain rfl:=h;simp_all
 | n+1,m,a,b,c,h,d=>by
   obtain⟨e,f,g⟩:=h;rw[show n+1+m=(n+m)+1 by omega];exact⟨e,f,g.trans d⟩
theorem qO.trans{P:Program}{Wd:World->Prop}{a b c:Goroutine}(h:qO P Wd a b)(d:qO P Wd b c):qO P Wd a c:=let ⟨n,h⟩:=h;let ⟨m,d⟩:=d;⟨n+m,h.trans d⟩
theorem qd.yf{P:Program}{Wd:World->Prop}{a b:Goroutine}(h:qd P Wd a b):qO P Wd a b:=⟨1,b,h,rfl⟩
theorem FR.sv{y:Sy}{s:iX}{fr:Frame}(h:FR y s fr)(x:Operand):SR y (sv s.env x) (fr.eval x):=by
 cases x with
 |tmp t=>exact h.env t
 |const v=>rfl
 |global g=>rfl
 |func f=>rfl
theorem FR.fin{y:Sy}{s s':iX}{fr:Frame}{v:SV}{x:Value}(h:FR y s fr)(a:vz s v=some s')(p:SR y v x):FR y s' (fr.finish x):=by
 obtain⟨fn,tmps,todo,defs,mode,kind,ro⟩:=fr;obtain⟨b,c,f,g,j,l,m,n⟩:=h;simp only at b c f g j l m n;subst c;unfold vz at a;split at a
 . rename_i ops i rest k e
   simp only[Option.some.injEq]at a;subst a;simp only[Frame.finish,e];refine⟨b,rfl,f,g,j,l,?_,λt=>?_⟩
   . grind
   . cases q:(ops[i]?).bind (·.dst)with
     |none=>simp_all
     | some d=>
       simp only;by_cases o:d=t
       . subst o
         by_cases hd:d<tmps.size
         . simp_all
         grind
       simp_all
 . cases a
theorem nZ{y:Sy}{s:iX}{fr:Frame}{ops:Array Oper}{o:Oper}{b:Bool}(h:FR y s fr)(a:ye ops s.env o=some b):Region.wanted o (yielded ops fr.tmps)=b:=by
 unfold ye at a;unfold Region.wanted;cases i:o.guard with
 |none=>simp_all
 | some p=>
   obtain⟨j,c⟩:=p;rw[i]at a;simp only at a ⊢;cases g:ops[j]? with
   |none=>simp_all
   | some k=>
     rw[g]at a;cases hd:k.dst with
     |none=>simp_all
     | some d=>
       simp only[Option.bind_some,hd]at a;have f:=h.env d;split at a
       . rename_i x l
         rw[l]at f;have f:fr.tmps.getD d undef=.bool x:=f
         have e:fr.tmps[d]?=some (.bool x):=by
          by_cases e:d<fr.tmps.size
          . simp_all
          . simp[Array.getD,e,undef]at f
         simp only[Option.some.injEq]at a;simp[yielded,g,hd,e,a]
       . cases a
theorem lj.lE{y:Sy}{fs:List Frame}(h:lj y [] fs):fs=[]:=by cases fs with|nil=>rfl|cons _ _=>exact h.elim
theorem lj.cons_inv{y:Sy}{s:iX}{l:List iX}{fs:List Frame}(h:lj y (s::l) fs):∃f a,fs=f::a/\FR y s f/\lj y l a:=by
 cases fs with
 |nil=>exact h.elim
 |cons f a=>exact⟨f,a,rfl,h.1,h.2⟩
theorem fE{P:Program}{fn:FuncId}:seen P fn #[]=#[]:=rfl
theorem apply_pure{P:Program}{fr:Frame}{cs:List Frame}{s:Sem Next}{n:Next}(h:l8 P s=some n)(w:World):stepG.apply P true fr cs none s w=stepG.apply P true fr cs none (pure n) w:=by have a:=IF s h w #[];have b:(pure n:Sem Next).runT P w #[]=(.ok n w,#[]):=rfl;simp only[stepG.apply,if_true,a,b]
theorem mD{P:Program}{main:Bool}{fid:FuncId}{k:List Item}{ops:Array Oper}{i:Nat}{rest:List Nat}{o:Oper}{tmps:Array Value}{defs:List Deferred}{kind:CallKind}{cs:List Frame}(a:ops[i]?=some o)(b:Region.wanted o (yielded ops tmps)=true)(w:World):
 stepG P main (G ⟨fid,tmps,.inRegion ops (i::rest)::k,defs,.run,kind,none⟩ cs) w=
  stepG.apply P true ⟨fid,tmps,.inRegion ops (i::rest)::k,defs,.run,kind,none⟩ cs none (execOp (Frame.eval ⟨fid,tmps,.inRegion ops (i::rest)::k,defs,.run,kind,none⟩) o) w:=by
 simp only[G,stepG,stepG.exec,stepG.oper,Frame.oper?,a,b,Option.map_some,Option.getD_some,if_true]
theorem IJ{P:Program}{main:Bool}{fid:FuncId}{k:List Item}{ops:Array Oper}{i:Nat}{rest:List Nat}{o:Oper}{tmps:Array Value}{defs:List Deferred}{kind:CallKind}{cs:List Frame}(a:ops[i]?=some o)(b:Region.wanted o (yielded ops tmps)=false)(w:World):
 stepG P main (G ⟨fid,tmps,.inRegion ops (i::rest)::k,defs,.run,kind,none⟩ cs) w=.go (G (Frame.finish ⟨fid,tmps,.inRegion ops (i::rest)::k,defs,.run,kind,none⟩ undef) cs) w #[]:=by
 have h:((ops[i]?).map (Region.wanted · (yielded ops tmps))).getD false=false:=by grind
 simp only[G,stepG,stepG.exec,h];rfl
theorem xx{P:Program}{ρ:Operand->Value}{o:Oper}{c:Call}{g:FuncId}{fn:Func}{body:Code}(e:o.op=.call c)(f:c.callee=.value (.func g))(h:P.funcs[g]?=some fn)(hb:fn.body=some body)(b:fn.name≠ "runtime.NumGoroutine")(d:ρ (.func g)=.func (.func g) #[] #[]):
 l8 P (execOp ρ o)=some (.enter g (c.args.map ρ)):=by
 simp only[execOp,e,resolve,f,d,Deferred.ofValue];show l8 P (callFunc g ((#[]++c.args.map ρ)++#[]))=_;unfold callFunc;show l8 P (Sem.bind program _)=_;rw[kM program (a:=P) rfl];simp[h,hb,b];rfl
theorem N1{P:Program}{Wd:World->Prop}{f:Fl}{y:Sy}(hf:f.At y){s s':iX}{st D:List iX}{fr:Frame}{frs:List Frame}(h:ss P f s st=some (s',D))(hr:FR y s fr)(A:lj y st frs):
 ∃r l,FR y s' r/\lj y D l/\∀cs,qd P Wd (G fr (frs++cs)) (G r (l++cs)):=by
 have q:=hr;obtain⟨fn,tmps,todo,defs,mode,kind,ro⟩:=fr;obtain⟨S,m,L,I,M,h6,X,T⟩:=hr;simp only at S m L I M h6 X T;subst h6;unfold ss at h;split at h
 ·
  rename_i U;rw[U]at I;have I:mode=.returning:=I;subst I;split at h
  . cases h
  rename_i c a9;split at h
  . rename_i E hd hk F
    obtain⟨fc,l,rfl,hc,Y⟩:=A.cons_inv;split at h
    . rename_i v C
      obtain⟨V,j,e⟩:=Option.map_eq_some_iff.1 h;simp only[Prod.mk.injEq]at e;obtain⟨rfl,rfl⟩:=e
      have N:∃x,SR y v x/\∀w,(results E tmps).runT P w #[]=(.ok x w,#[]):=by
       unfold Rd at C;split at C
       . rename_i O
         simp only[Option.some.injEq]at C;subst C;have O:E.results=#[]:=by simp_all
         exact⟨.tuple #[],rfl,λw=>by simp[results,O]⟩
       . rename_i t O
         simp only[Option.some.injEq]at C;subst C;have O:E.results=#[.tmp t]:=by grind
         exact⟨tmps.getD t undef,T t,λw=>by simp[results,O]⟩
       . cases C
      obtain⟨x,Z,ab⟩:=N;refine⟨fc.finish x,l,hc.fin j Z,Y,λcs=>⟨rfl,λmain w _=>?_⟩⟩;rw[hd]at L;rw[hk]at M;subst L;subst M;subst S;have e1:(results E tmps).run P w=.ok x w:=by simp_all
      have e2:(results E tmps).events P w #[]=#[]:=by simp_all
      simp[G,stepG,unwind,F,e1,e2,doReturn,GStep.after,fE]
    . cases h
  . cases h
 . rename_i U
   rw[U]at I;have I:mode=.run:=I;subst I
   have ctl:∀B:List Item,(∀main cs w,stepG P main (G ⟨fn,tmps,todo,defs,.run,kind,none⟩ (frs++cs)) w=.go (G ⟨fn,tmps,B,defs,.run,kind,none⟩ (frs++cs)) w #[])->some ({s with todo:=B},st)=some (s',D) ->
    ∃r l,FR y s' r/\lj y D l/\∀cs,qd P Wd (G ⟨fn,tmps,todo,defs,.run,kind,none⟩ (frs++cs)) (G r (l++cs)):=λB hs e=>by
    simp only[Option.some.injEq,Prod.mk.injEq]at e;obtain⟨rfl,rfl⟩:=e;exact⟨_,frs,⟨S,rfl,L,by rw[U];rfl,M,rfl,X,T⟩,A,λcs=>⟨rfl,λmain w _=>hs main cs w⟩⟩
   have ret:(∀main cs w,stepG P main (G ⟨fn,tmps,todo,defs,.run,kind,none⟩ (frs++cs)) w=.go (G ⟨fn,tmps,todo,defs,.returning,kind,none⟩ (frs++cs)) w #[])->some ({s with mode:=.ret},st)=some (s',D) ->
    ∃r l,FR y s' r/\lj y D l/\∀cs,qd P Wd (G ⟨fn,tmps,todo,defs,.run,kind,none⟩ (frs++cs)) (G r (l++cs)):=λhs e=>by
    simp only[Option.some.injEq,Prod.mk.injEq]at e;obtain⟨rfl,rfl⟩:=e;exact⟨_,frs,⟨S,m,L,rfl,M,rfl,X,T⟩,A,λcs=>⟨rfl,λmain w _=>hs main cs w⟩⟩
   split at h
   . rename_i n;rw[n]at m;subst m
     exact ret (λ_ _ _=>by simp[G,stepG,stepG.exec]) h
   . rename_i n;rw[n]at m;subst m
     exact ret (λ_ _ _=>by simp[G,stepG,stepG.exec]) h
   . rename_i n;rw[n]at m;subst m
     exact ctl _ (λ_ _ _=>by simp[G,stepG,stepG.exec]) h
   . rename_i n;rw[n]at m;subst m
     exact ctl _ (λ_ _ _=>by simp[G,stepG,stepG.exec]) h
   . rename_i n;rw[n]at m;subst m
     exact ctl _ (λ_ _ _=>by simp[G,stepG,stepG.exec]) h
   . rename_i n;rw[n]at m;subst m
     exact ctl _ (λ_ _ _=>by simp[G,stepG,stepG.exec]) h
   . rename_i n;rw[n]at m;subst m
     exact ctl _ (λ_ _ _=>by simp[G,stepG,stepG.exec]) h
   . rename_i n;rw[n]at m;subst m
     exact ctl _ (λ_ _ _=>by simp[G,stepG,stepG.exec]) h
   . rename_i n;rw[n]at m;subst m
     exact ctl _ (λ_ _ _=>by simp[G,stepG,stepG.exec]) h
   . rename_i n;rw[n]at m;subst m
     exact ctl _ (λ_ _ _=>by simp[G,stepG,stepG.exec]) h
   . rename_i n;rw[n]at m;subst m
     exact ctl _ (λ_ _ _=>by simp[G,stepG,stepG.exec]) h
   . rename_i id k n;rw[n]at m;subst m
     obtain⟨k',he,e⟩:=Option.map_eq_some_iff.1 h;exact ctl k' (λ_ _ _=>by simp[G,stepG,stepG.exec,he]) (by rw[e])
   . rename_i c a b k n;rw[n]at m;subst m
     split at h
     . rename_i x Q
       have C:=q.sv c;rw[Q]at C;have C:Frame.eval ⟨fn,tmps,.code (.cond c a b)::k,defs,.run,kind,none⟩ c=.bool x:=C;exact ctl _ (λ_ _ _=>by simp[G,stepG,stepG.exec,C]) h
     . cases h
   . rename_i n;rw[n]at m;subst m
     exact ctl _ (λ_ _ _=>by simp[G,stepG,stepG.exec]) h
   . rename_i ops i rest k n;rw[n]at m;subst m
     split at h
     . cases h
     . rename_i o W
       split at h
       . cases h
       . rename_i hw
         obtain⟨V,j,e⟩:=Option.map_eq_some_iff.1 h;simp only[Prod.mk.injEq]at e;obtain⟨rfl,rfl⟩:=e;exact⟨_,frs,q.fin j trivial,A,λcs=>⟨rfl,λmain w _=>IJ W (nZ q hw) w⟩⟩
       . rename_i hw
         have J:=nZ q hw;split at h
         . rename_i c K
           obtain⟨V,j,e⟩:=Option.map_eq_some_iff.1 h;simp only[Prod.mk.injEq]at e;obtain⟨rfl,rfl⟩:=e;unfold NZ at j;split at j
           . rename_i g R
             split at j
             . rename_i E F
               split at j
               . rename_i body H
                 split at j
                 . cases j
                 rename_i a7;simp only[Option.some.injEq]at j;subst j;refine⟨Frame.enter P g (c.args.map (Frame.eval ⟨fn,tmps,.inRegion ops (i::rest)::k,defs,.run,kind,none⟩)) .normal,⟨fn,tmps,.inRegion ops (i::rest)::k,defs,.run,kind,none⟩::frs,?_,⟨q,A⟩,λcs=>⟨rfl,λmain w _=>?_⟩⟩
                 . refine⟨rfl,by simp[Frame.enter,F,H],rfl,rfl,rfl,rfl,by simp[Frame.enter,F],λt=>?_⟩
                   simp only[Frame.enter,F,Option.map_some,Option.getD_some];rw[Array.getD_eq_getD_getElem?,List.getD_eq_getElem?_getD];by_cases n:t<c.args.size
                   . rw[Array.getElem?_append_left (by simp_all),List.getElem?_append_left (by simp_all)]
                     simp only[Array.getElem?_map,List.getElem?_map,Array.getElem?_toList];rw[Array.getElem?_eq_getElem n];exact q.sv _
                   . rw[Array.getElem?_append_right (by simp;omega),List.getElem?_append_right (by simp;omega)]
                     simp only[List.length_map,Array.length_toList,List.getElem?_replicate];split<;>trivial
                 . rw[mD W J,apply_pure (xx K R F H a7 rfl)]
                   simp only[stepG.apply,if_true,GStep.after];have u:(pure (.enter g (c.args.map (Frame.eval ⟨fn,tmps,.inRegion ops (i::rest)::k,defs,.run,kind,none⟩))):Sem Next).runT P w #[]=(.ok (.enter g (c.args.map (Frame.eval ⟨fn,tmps,.inRegion ops (i::rest)::k,defs,.run,kind,none⟩))) w,#[]):=rfl;simp only[u,ite_self,fE,G,List.cons_append];rfl
               . cases j
             . cases j
           . cases j
         . rename_i c K
           split at h
           . rename_i d hd
             obtain⟨V,j,e⟩:=Option.map_eq_some_iff.1 h;simp only[Prod.mk.injEq]at e;obtain⟨rfl,rfl⟩:=e
             have Q:l8 P (execOp (Frame.eval ⟨fn,tmps,.inRegion ops (i::rest)::k,defs,.run,kind,none⟩) o)=some (.defer d):=by
              unfold II at hd;split at hd
              . rename_i g hg
                split at hd
                . rename_i ha
                  simp only[Option.some.injEq]at hd;subst hd;have em:(#[]:Array Operand).map (Frame.eval ⟨fn,tmps,.inRegion ops (i::rest)::k,defs,.run,kind,none⟩)=#[]:=by simp
                  simp only[execOp,K,resolve,hg,ha,em];rfl
                . cases hd
              . cases hd
             have p:=q.fin (x:=undef) j trivial;have e1:Frame.finish ⟨fn,tmps,.inRegion ops (i::rest)::k,d::defs,.run,kind,none⟩ undef={Frame.finish ⟨fn,tmps,.inRegion ops (i::rest)::k,defs,.run,kind,none⟩ undef with defers:=d::(Frame.finish ⟨fn,tmps,.inRegion ops (i::rest)::k,defs,.run,kind,none⟩ undef).defers}:=rfl;refine⟨{Frame.finish ⟨fn,tmps,.inRegion ops (i::rest)::k,defs,.run,kind,none⟩ undef with defers:=d::(Frame.finish ⟨fn,tmps,.inRegion ops (i::rest)::k,defs,.run,kind,none⟩ undef).defers},frs,⟨p.fn,p.todo,congrArg (List.cons d) p.defers,p.mode,p.kind,p.ro,p.size,p.env⟩,A,λcs=>⟨rfl,λmain w _=>?_⟩⟩;rw[mD W J,apply_pure Q];have u:(pure (.defer d):Sem Next).runT P w #[]=(.ok (.defer d) w,#[]):=rfl;simp only[stepG.apply,if_true,u,ite_self,fE,GStep.after,G]
             grind
           . cases h
         . rename_i ad al
           split at h
           . rename_i v C
             obtain⟨V,j,e⟩:=Option.map_eq_some_iff.1 h;simp only[Prod.mk.injEq]at e;obtain⟨rfl,rfl⟩:=e;obtain⟨x,Q,a8⟩:=O0 hf (ρ':=Frame.eval ⟨fn,tmps,.inRegion ops (i::rest)::k,defs,.run,kind,none⟩) C (λz=>q.sv z);refine⟨_,frs,q.fin j a8,A,λcs=>⟨rfl,λmain w _=>?_⟩⟩;rw[mD W J,apply_pure Q];have u:(pure (.value x):Sem Next).runT P w #[]=(.ok (.value x) w,#[]):=rfl;simp only[stepG.apply,if_true,u,ite_self,fE,GStep.after,G];rfl
           . cases h
   . cases h
theorem kO{P:Program}{Wd:World->Prop}{f:Fl}{y:Sy}(i:f.At y):∀(n:Nat){s:iX}{st:List iX}{fr:Frame}{frs:List Frame},FR y s fr->lj y st frs ->
 ∃m c a,FR y (sgo P f n s st).1 c/\lj y (sgo P f n s st).2 a/\∀cs,iu P Wd m (G fr (frs++cs)) (G c (a++cs))
 |0,s,st,fr,frs,g,b=>⟨0,fr,frs,g,b,λ_=>rfl⟩
 | n+1,s,st,fr,frs,g,b=>by
   unfold sgo;cases e:ss P f s st with
   |none=>exact⟨0,fr,frs,g,b,λ_=>rfl⟩
   |some p=>obtain⟨u,j⟩:=p;obtain⟨c,a,k,l,o⟩:=N1 i e g b;obtain⟨m,h,d,q,r,t⟩:=kO i n k l;exact⟨m+1,h,d,q,r,λcs=>⟨_,o cs,t cs⟩⟩
end Go.bu
