import Derived.Test.YtkcceaplmgdnfaaGreatDoorC10
set_option linter.all false
namespace Go.bQ
open Go.Conc
abbrev abJ:=List (Nat × SV)
abbrev acA:=List SV
theorem vD(a b:Int):(a==b)=decide (a=b):=by grind
theorem nF{a b c:Bool}{p q:Prop}[Decidable p][Decidable q](h:q↔(a=false/\b=false/\c=false/\p)):decide q=(!a && !b && !c && decide p):=by grind
set_option maxHeartbeats 1000000 in
theorem On{P:acD}{f:Fl}{y:Sy}(o:f.At y){op:BinOp}{t:TypeId}{a b r:SV}{x z:Value}(h:Kl f op a b=some r)(g:SR y a x)(hb:SR y b z):∃v,m7 P (binOp op t x z)=some v/\SR y r v:=by
 have hN:=o.hN;have hc:=o.hc;unfold Kl at h;split at h
 ·
  rename_i L K S j m;obtain⟨rfl,l,p⟩:=g;have hb:z=.int .i32 m:=hb;subst hb;split at h
  . rename_i d
    simp only[kn]at h;subst h;refine⟨.int .i32 (bits .and .i32 (enc L K S (y.N+j)) m),rfl,?_⟩;have e:m=(m.toNat:Int):=by omega
    show Value.int .i32 _=.int .i32 _;congr 1;rw[e];exact Om ⟨l,by omega⟩ (by omega)
  . cases h
 ·
  rename_i L K S j m;obtain⟨rfl,l,p⟩:=g;have hb:z=.int .i32 m:=hb;subst hb;have q:∀k:Nat,k<8->bits .or .i32 (enc L K S (y.N+j)) (k:Int)=((8*(y.N+j).toNat+((L.toNat+2*K.toNat+4*S.toNat)|||k):Nat):Int):=λk D=>QQ ⟨l,by omega⟩ D
  have I:(((y.N+j).toNat:Nat):Int)=y.N+j:=Int.toNat_of_nonneg l;split at h
  . rename_i d;subst d
    simp only[kn]at h;subst h;refine⟨.int .i32 (bits .or .i32 (enc L K S (y.N+j)) 1),rfl,?_,l,p⟩;congr 1;have:=q 1 (by omega)
    rw[show((1:Nat):Int)=1 from rfl]at this
    rw[this];unfold enc;cases L<;>cases K<;>cases S<;>simp[Bool.toNat]<;>omega
  split at h
  . rename_i d;subst d
    simp only[kn]at h;subst h;refine⟨.int .i32 (bits .or .i32 (enc L K S (y.N+j)) 2),rfl,?_,l,p⟩;congr 1;have:=q 2 (by omega)
    rw[show((2:Nat):Int)=2 from rfl]at this
    rw[this];unfold enc;cases L<;>cases K<;>cases S<;>simp[Bool.toNat]<;>omega
  split at h
  . rename_i d;subst d
    simp only[kn]at h;subst h;refine⟨.int .i32 (bits .or .i32 (enc L K S (y.N+j)) 4),rfl,?_,l,p⟩;congr 1;have:=q 4 (by omega)
    rw[show((4:Nat):Int)=4 from rfl]at this
    rw[this];unfold enc;cases L<;>cases K<;>cases S<;>simp[Bool.toNat]<;>omega
  . cases h
 ·
  rename_i L K S j m;obtain⟨rfl,l,p⟩:=g;have hb:z=.int .i32 m:=hb;subst hb;split at h
  . rename_i d;subst d
    simp only[kn]at h;subst h;refine⟨.int .i32 (bits .andNot .i32 (enc L K S (y.N+j)) 2),rfl,?_,l,p⟩;rw[CB ⟨l,by omega⟩]
  . cases h
 ·
  rename_i L K S j m;obtain⟨rfl,l,p⟩:=g;have hb:z=.int .i32 m:=hb;subst hb;have s:=lI (L:=L) (K:=K) (S:=S) (N:=y.N+j);split at h
  . rename_i d;subst d
    split at h
    . simp only[kn]at h;subst h
      refine⟨.int .i32 (IntKind.i32.wrap (enc L K S (y.N+j)+8)),rfl,?_,by omega,by omega⟩
      rw[iU (by omega) (by omega)]
      congr 1;unfold enc;omega
    . cases h
  split at h
  . rename_i d;subst d
    split at h
    . rename_i E;subst E
      simp only[kn]at h;subst h;refine⟨.int .i32 (IntKind.i32.wrap (enc false K S (y.N+j)+1)),rfl,?_,l,p⟩;rw[iU (by omega) (by omega)]
      congr 1;unfold enc;simp[Bool.toNat];omega
    . cases h
  . cases h
 ·
  rename_i L K S j m;obtain⟨rfl,l,p⟩:=g;have hb:z=.int .i32 m:=hb;subst hb;have s:=lI (L:=L) (K:=K) (S:=S) (N:=y.N+j);split at h
  . rename_i d
    obtain⟨rfl,rfl,A⟩:=d;rw[o.n0]at A;simp at A;simp only[kn]at h;subst h;refine⟨.int .i32 (IntKind.i32.wrap (enc L K S (y.N+0)-8)),rfl,?_,by omega,by omega⟩
    rw[iU (by omega) (by omega)]
    congr 1;unfold enc;omega
  . cases h
 ·
  rename_i L K S j m;obtain⟨rfl,l,p⟩:=g;have hb:z=.int .u64 m:=hb;subst hb;have s:=lI (L:=L) (K:=K) (S:=S) (N:=y.N+j);split at h
  . rename_i d
    obtain⟨rfl,rfl⟩:=d;simp only[kn]at h;subst h;refine⟨.int .i32 ((enc L K S (y.N+0)).fdiv (2 ^ 3)),rfl,?_⟩;show Value.int .i32 _=.int .i32 _;congr 1;rw[Int.fdiv_eq_ediv_of_nonneg _ (by decide)]
    omega
  . cases h
 ·
  rename_i L K S j m;obtain⟨rfl,l,p⟩:=g;have hb:z=.int .i32 m:=hb;subst hb;split at h
  . rename_i d
    obtain⟨rfl,rfl⟩:=d;simp only[kn]at h;subst h;refine⟨.bool (enc L K S (y.N+0)==0),rfl,?_⟩;show Value.bool _=.bool _;congr 1;rw[o.n0,vD];have:=xg (L:=L) (K:=K) (S:=S) l;rw[abr]at this ⊢;exact nF this
  . cases h
 ·
  rename_i L K S j m;obtain⟨rfl,l,p⟩:=g;have hb:z=.int .i32 m:=hb;subst hb;split at h
  . rename_i d
    obtain⟨rfl,rfl⟩:=d;simp only[kn]at h;subst h;refine⟨.bool (enc L K S (y.N+0)!=0),rfl,?_⟩;show Value.bool _=.bool _;congr 1;rw[o.n0];have:=xg (L:=L) (K:=K) (S:=S) l;rw[abr]at this ⊢;rw[bne,vD,nF this]
  . cases h
 ·
  rename_i m;have g:x=.int .i32 y.N:=g;have hb:z=.int .i32 m:=hb;subst g;subst hb;split at h
  . rename_i d;subst d
    simp only[kn]at h;subst h;exact⟨.bool (y.N==0),rfl,by show Value.bool _=.bool _;rw[o.n0,vD]⟩
  split at h
  . rename_i d;subst d
    simp only[kn]at h;subst h;exact⟨.bool (y.N==1),rfl,by show Value.bool _=.bool _;rw[o.n1,vD]⟩
  . cases h
 . rename_i m
   have g:x=.int .i32 y.N:=g;have hb:z=.int .i32 m:=hb;subst g;subst hb;split at h
   . rename_i d;subst d
     simp only[kn]at h;subst h;exact⟨.bool (y.N !=0),rfl,by show Value.bool _=.bool _;rw[o.n0,bne,vD]⟩
   split at h
   . rename_i d;subst d
     simp only[kn]at h;subst h;exact⟨.bool (y.N !=1),rfl,by show Value.bool _=.bool _;rw[o.n1,bne,vD]⟩
   . cases h
 ·
  rename_i w m;have g:x=.int .u64 (ew y.c w):=g;have hb:z=.int .u64 m:=hb;subst g;subst hb
  have F:ew y.c w=((y.c.toNat*4294967296+w:Nat):Int):=by have:((y.c.toNat:Nat):Int)=y.c:=Int.toNat_of_nonneg hc.1;rw[Int.natCast_add,Int.natCast_mul,this];rfl
  split at h
  . rename_i d
    obtain⟨rfl,u⟩:=d;simp only[kn]at h;subst h;refine⟨.int .u64 (bits .and .u64 (ew y.c w) 2147483648),rfl,?_⟩;show Value.int .u64 _=.int .u64 _;congr 1
    have G:bits .and .u64 (ew y.c w) 4294967295=(w:Int):=by
     have:=bits_mask .u64 64 (by decide) (λn a b=>jZ a b) 32 (by omega) (ew y.c w) (by unfold ew;omega) (by unfold ew;omega)
     rw[show((2:Int) ^ 32-1)=4294967295 from rfl]at this
     rw[this];unfold ew;omega
    rw[F,show(2147483648:Int)=((2147483648:Nat):Int)from rfl,(bits_nat .u64 64 (by decide) (λn a b=>jZ a b) _ _ (by omega) (by omega)).1]
    have e:(y.c.toNat*4294967296+w) &&& 2147483648=0:=by
     apply Nat.eq_of_testBit_eq;intro i;rw[Nat.testBit_and,Nat.zero_testBit]
     have hb:(2147483648:Nat).testBit i=decide (31=i):=by have:=Nat.testBit_two_pow (n:=31) (m:=i);simpa using this
     rw[hb]
     by_cases B:31=i
     . subst B
       have l:=aao (i:=32) y.c.toNat (b:=w) (by omega) 31
       simp only[show 31<32 by omega,if_true]at l
       rw[show y.c.toNat*4294967296+w=2 ^ 32*y.c.toNat+w by omega,l]
       rw[Nat.testBit_lt_two_pow (by omega:w<2 ^ 31)];rfl
     . simp[B]
    rw[e];rfl
  split at h
  . rename_i d
    obtain⟨rfl,u⟩:=d;simp only[kn]at h;subst h;refine⟨.int .u64 (bits .and .u64 (ew y.c w) 2147483647),rfl,?_⟩;show Value.int .u64 _=.int .u64 _;congr 1;have:=bits_mask .u64 64 (by decide) (λn a b=>jZ a b) 31 (by omega) (ew y.c w) (by unfold ew;omega) (by unfold ew;omega)
    rw[show((2:Int) ^ 31-1)=2147483647 from rfl]at this
    rw[this];unfold ew;omega
  . cases h
 ·
  rename_i w m;have g:x=.int .u64 (ew y.c w):=g;have hb:z=.int .u64 m:=hb;subst g;subst hb;split at h
  . rename_i d
    obtain⟨rfl,u⟩:=d;simp only[kn]at h;subst h;refine⟨.int .u64 ((ew y.c w).fdiv (2 ^ 32)),rfl,?_⟩;show Value.int .u64 _=.int .u64 _;congr 1;rw[Int.fdiv_eq_ediv_of_nonneg _ (by decide)]
    unfold ew;omega
  . cases h
 . rename_i m
   have g:x=.int .i32 y.c:=g;have hb:z=.int .i32 m:=hb;subst g;subst hb;split at h
   . rename_i d;subst d
     simp only[kn]at h;subst h;exact⟨.bool (y.c==0),rfl,by show Value.bool _=.bool _;rw[o.c0,vD]⟩
   split at h
   . rename_i d;subst d
     simp only[kn]at h;subst h;exact⟨.bool (y.c==1),rfl,by show Value.bool _=.bool _;rw[o.c1,vD]⟩
   split at h
   . rename_i d;subst d
     simp only[kn]at h;subst h;refine⟨.bool (y.c==-1),rfl,?_⟩;show Value.bool _=.bool _;have:¬y.c=-1:=by omega
     rw[vD];simp[this]
   . cases h
 . rename_i m
   have g:x=.int .i32 y.c:=g;have hb:z=.int .i32 m:=hb;subst g;subst hb;split at h
   . rename_i d;subst d
     simp only[kn]at h;subst h;refine⟨.bool (decide (y.c<0)),rfl,?_⟩;show Value.bool _=.bool _;have:¬y.c<0:=by omega
     simp[this]
   . cases h
 . rename_i m
   have g:x=.int .i32 y.c:=g;have hb:z=.int .i32 m:=hb;subst g;subst hb;split at h
   . rename_i d;subst d
     simp only[kn]at h;subst h;refine⟨.bool (decide (y.c>0)),rfl,?_⟩;show Value.bool _=.bool _;rw[o.c0];congr 1
     by_cases C:y.c=0
     . simp[C]
     . have:y.c>0:=by omega
       simp[C,this]
   . cases h
 . rename_i w H
   have g:x=.int .u64 (ew y.c w):=g;have hb:z=.int .u64 (ew y.c H):=hb;subst g;subst hb;split at h
   . rename_i d;subst d
     simp only[kn]at h;subst h;exact⟨.bool (ew y.c w !=ew y.c w),rfl,by show Value.bool _=.bool _;simp⟩
   . cases h
 . rename_i w m
   have g:x=.int .u64 (ew y.c w):=g;have hb:z=.int .u64 m:=hb;subst g;subst hb;split at h
   . rename_i d;subst d
     simp only[kn]at h;subst h;refine⟨.bool (ew y.c w !=0),rfl,?_⟩;show Value.bool _=.bool _;rw[o.c0];congr 1;have:ew y.c w=0↔(y.c=0/\w=0):=by unfold ew;omega
     rw[bne,vD]
     have e:decide (ew y.c w=0)=(decide (y.c=0) && decide (w=0)):=by rw[abt,zj,decide_eq_true_iff,decide_eq_true_iff,decide_eq_true_iff];exact this
     rw[e]
   . cases h
 . rename_i w m
   have g:x=.int .u64 (ew y.c w):=g;have hb:z=.int .u64 m:=hb;subst g;subst hb;split at h
   . rename_i d
     obtain⟨rfl,u⟩:=d;simp only[kn]at h;subst h;refine⟨.int .u64 (IntKind.u64.wrap (ew y.c w+1)),rfl,?_⟩;show Value.int .u64 _=.int .u64 _;rw[jZ (by unfold ew;omega) (by unfold ew;omega)]
     congr 1;unfold ew;push_cast;omega
   . cases h
 . rename_i m
   have g:x=.int .i64 y.ws:=g;have hb:z=.int .i64 m:=hb;subst g;subst hb;split at h
   . rename_i d;subst d
     simp only[kn]at h;subst h;exact⟨.bool (y.ws==0),rfl,by show Value.bool _=.bool _;rw[o.wz,vD]⟩
   . cases h
 . rename_i m
   have g:x=.int .i64 y.ws:=g;have hb:z=.int .i64 m:=hb;subst g;subst hb;split at h
   . rename_i d;subst d
     simp only[kn]at h;subst h;exact⟨.bool (y.ws !=0),rfl,by show Value.bool _=.bool _;rw[o.wz,bne,vD]⟩
   . cases h
 . have g:x=.int .i64 y.tn:=g
   have hb:z=.int .i64 y.ws:=hb;subst g;subst hb;simp only[kn]at h;subst h;exact⟨_,rfl,rfl⟩
 . rename_i m
   have g:x=.int .i64 (IntKind.i64.wrap (y.tn-y.ws)):=g;have hb:z=.int .i64 m:=hb;subst g;subst hb;split at h
   . rename_i d;subst d
     simp only[kn]at h;subst h;exact⟨.bool (decide (IntKind.i64.wrap (y.tn-y.ws)>1000000)),rfl,by show Value.bool _=.bool _;rw[o.tb]⟩
   . cases h
 . cases h
inductive CC where
 |run
 |ret
def CC.of:CC->FrameMode
 |.run=>.run
 |.ret=>.returning
structure jJ where
 fn:FuncId
 todo:acm
 env:acA
 defers:abR
 mode:CC
 kind:acv
def sv(env:acA):acE->SV
 |.tmp t=>env.getD t .cE
 |.const v=>.lit v
 |.global g=>.lit (.pointer (some ⟨g,0,none⟩))
 |.func f=>.lit (.func (.func f) #[] #[])
def Vt(P:acD)(f:Fl)(ρ:acE->SV)(o:Op):Option SV:=
 match o with
 |.move x=>some (ρ x)
 |.assign x=>some (ρ x)
 |.pick c a b=>match ρ c with|.lit (.bool x)=>some (if x then ρ a else ρ b)|_=>none
 | .binOp op t x y _=>
   match Kl f op (ρ x) (ρ y)with
   |some r=>some r
   | none=>match ρ x,ρ y with
     |.lit (.int k a),.lit (.int d b)=>(m7 P (binOp op t (.int k a) (.int d b))).map .lit
     |_,_=>none
 |.unOp .not _ x=>match ρ x with|.lit (.bool b)=>some (.lit (.bool !b))|_=>none
 |.nilCheck x=>match ρ x with|.lit (.pointer (some a))=>some (.lit (.pointer (some a)))|_=>none
 |.fieldAddr s x e=>match ρ x with|.lit (.pointer (some a))=>(m7 P (Instr.fieldAt s (.pointer (some a)) e)).map .lit|_=>none
 | .convert src dst x=>
   match ρ x with
   |.lit v=>(m7 P (convert src dst v)).map .lit
   |.Gs=>match P.underlying src,P.underlying dst with|some _,some (.int .i32)=>some .HK|_,_=>none
   |_=>none
 |_=>none
theorem CD{P:acD}{op:BinOp}{t:TypeId}{x y:acE}{k k':IntKind}{a b:Int}:m7 P (eqGuard op t x y (.int k a) (.int k' b))=some ():=by unfold eqGuard;split<;>rfl
theorem SR.int{y:Sy}{a:SV}{x:Value}(h:SR y a x)(b:∀v,a≠.lit v)(hj:a≠.cE):∃k n,x=.int k n:=by
 cases a with
 |cE=>simp_all
 |lit v=>simp_all
 |word _ _ _ _=>exact⟨_,_,h.1⟩
 |_=>exact⟨_,_,h⟩
theorem Km{f:Fl}{op:BinOp}{a b r:SV}{y:Sy}{x z:Value}(h:Kl f op a b=some r)(g:SR y a x)(hb:SR y b z):∃k n k' c,x=.int k n/\z=.int k' c:=by
 unfold Kl at h
 split at h<;>first
  |(cases h;done)
  | (obtain⟨k,n,d⟩:=g.int (by intro v e;cases e) (by intro e;cases e)
     first
     |exact⟨k,n,_,_,d,hb⟩
     |(obtain⟨k',c,i⟩:=hb.int (by intro v e;cases e) (by intro e;cases e);exact⟨k,n,k',c,d,i⟩))
theorem Bg{α:Type}{P:acD}{s:Sem α}{g:α->SV}{r:SV}(h:(m7 P s).map g=some r):∃a,m7 P s=some a/\r=g a:=by
 cases q:m7 P s with
 |none=>simp_all
 |some a=>simp_all
theorem qp{P:acD}{s:Sem Value}{v:Value}(h:m7 P s=some v):m7 P (do pure (.value (<-s)):Sem Next)=some (.value v):=by
 show m7 P (Sem.bind s λa=>(pure (Next.value a):Sem Next))=_;rw[lH s h];rfl
theorem QR{P:acD}{f:Fl}{y:Sy}(A:f.At y){ρ:acE->SV}{ρ':abN}{o:Oper}{r:SV}(h:Vt P f ρ o.op=some r)(i:∀x,SR y (ρ x) (ρ' x)):∃v,m7 P (execOp ρ' o)=some (.value v)/\SR y r v:=by
 unfold Vt at h;split at h
 . rename_i x e
   simp only[kn]at h;subst h;exact⟨ρ' x,by simp[execOp,e];rfl,i x⟩
 . rename_i x e
   simp only[kn]at h;subst h;exact⟨ρ' x,by simp[execOp,e];rfl,i x⟩
 . rename_i c a b e
   split at h
   . rename_i x j
     simp only[kn]at h;subst h;have hc:=i c;rw[j]at hc;have hc:ρ' c=.bool x:=hc;refine⟨if x then ρ' a else ρ' b,?_,?_⟩
     . simp only[execOp,e,hc]
       cases x<;>rfl
     grind
   . cases h
 . rename_i op t x z nl e
   have key:∀{k n m p},ρ' x=.int k n->ρ' z=.int m p->∀{v},m7 P (binOp op t (.int k n) (.int m p))=some v->m7 P (execOp ρ' o)=some (.value v):=by
    intro k n m p g q v l;have:execOp ρ' o=(do pure (.value (<-(do eqGuard op t x z (ρ' x) (ρ' z);binOp op t (ρ' x) (ρ' z)))):Sem Next):=by simp only[execOp,e]
    rw[this,g,q];refine qp ?_;show m7 P ((eqGuard op t x z (.int k n) (.int m p)).bind λ_=>binOp op t (.int k n) (.int m p))=_
    rw[lH _ CD];exact l
   split at h
   . rename_i F w
     simp only[kn]at h;subst h;obtain⟨k,n,m,p,g,q⟩:=Km w (i x) (i z);obtain⟨v,l,G⟩:=On (P:=P) A (t:=t) w (i x) (i z)
     simp_all
   . split at h
     . rename_i k a m b j B
       obtain⟨v,l,rfl⟩:=Bg h;have g:=i x;have q:=i z;rw[j]at g;rw[B]at q;exact⟨v,key g q l,rfl⟩
     . cases h
 . rename_i t x e
   split at h
   . rename_i b j
     simp only[kn]at h;subst h;have g:=i x;rw[j]at g;have g:ρ' x=.bool b:=g;exact⟨.bool !b,by simp only[execOp,e,g];rfl,rfl⟩
   . cases h
 . rename_i x e
   split at h
   . rename_i a j
     simp only[kn]at h;subst h;have g:=i x;rw[j]at g;have g:ρ' x=.pointer (some a):=g;exact⟨_,by simp only[execOp,e,g];rfl,rfl⟩
   . cases h
 . rename_i s x H e
   split at h
   . rename_i a j
     obtain⟨v,l,rfl⟩:=Bg h;have g:=i x;rw[j]at g;have g:ρ' x=.pointer (some a):=g;refine⟨v,?_,rfl⟩;simp only[execOp,e,g];exact qp l
   . cases h
 . rename_i src dst x e
   split at h
   . rename_i u j
     obtain⟨v,l,rfl⟩:=Bg h;have g:=i x;rw[j]at g;have g:ρ' x=u:=g;refine⟨v,?_,rfl⟩;simp only[execOp,e,g];exact qp l
   . rename_i j
     split at h
     . rename_i d w hd
       simp only[kn]at h;subst h;have g:=i x;rw[j]at g;have g:ρ' x=.int .u64 y.c:=g;refine⟨.int .i32 y.c,?_,rfl⟩;simp only[execOp,e,g];refine qp ?_
       have C:m7 P (underlying src)=some d:=by unfold underlying;show m7 P (Sem.bind program _)=_;rw[lH program (a:=P) rfl,w];rfl
       have D:m7 P (underlying dst)=some (.int .i32):=by unfold underlying;show m7 P (Sem.bind program _)=_;rw[lH program (a:=P) rfl,hd];rfl
       unfold convert;show m7 P (Sem.bind (underlying src) _)=_;rw[lH _ C];show m7 P (Sem.bind (underlying dst) _)=_;rw[lH _ D];have E:IntKind.i32.wrap y.c=y.c:=iU (by have:=A.hc;omega) (by have:=A.hc;omega)
       show some (Value.int .i32 (IntKind.i32.wrap y.c))=_;rw[E]
     . cases h
   . cases h
 . cases h
def zJ(ops:acd)(env:acA)(o:Oper):Option Bool:=
 match o.guard with
 |none=>some true
 | some (j,b)=>match (ops[j]?).bind (·.dst)with
   | some d=>match env.getD d .cE with
     |.lit (.bool x)=>some (x==b)
     |_=>none
   |none=>none
def xh(fr:jJ)(v:SV):Option jJ:=
 match fr.todo with
 |.inRegion ops (i::rest)::k=>some {fr with env:=(match (ops[i]?).bind (·.dst)with|some d=>fr.env.set d v|none=>fr.env),todo:=.inRegion ops rest::k}
 |_=>none
def Tg(fn:Func)(env:acA):Option SV:=
 match fn.results.toList with
 |[]=>some (.lit (.tuple #[]))
 |[.tmp t]=>some (env.getD t .cE)
 |_=>none
def PS(P:acD)(env:acA)(c:Call):Option jJ:=
 match c.callee with
 | .value (.func g)=>match P.funcs[g]? with
   | some fn=>match fn.body with
     |some body=>if fn.name= "runtime.NumGoroutine" then none else some {fn:=g,todo:=[.code body],env:=c.args.toList.map (sv env)++List.replicate (fn.ntmps-c.args.size) .cE,defers:=[],mode:=.run,kind:=.normal}
     |none=>none
   |none=>none
 |_=>none
def Kn(c:Call):Option Deferred:=
 match c.callee with
 |.value (.func g)=>if c.args=#[]then some {target:=.fn (.func g) #[],args:=#[]}else none
 |_=>none
def ss(P : acD)(f:Fl)(fr:jJ)(st:List jJ):Option (jJ × List jJ):=
 match fr.mode with
 | .ret=>match st with
   |[]=>none
   | c ::e=>match fr.defers,fr.kind,P.funcs[fr.fn]? with
     | [],.normal,some fn=>match Tg fn fr.env with
       |some v=>(xh c v).map (·,e)
       |none=>none
     |_,_,_=>none
 | .run => match fr.todo with
   |[]=>some ({fr with mode:=.ret},st)
   |.code .ret::_=>some ({fr with mode:=.ret},st)
   |.code .skip::k=>some ({fr with todo:=k},st)
   |.inBlock _::k=>some ({fr with todo:=k},st)
   |.inScope _::k=>some ({fr with todo:=k},st)
   |.inRegion _ []::k=>some ({fr with todo:=k},st)
   |.code (.seq a b)::k=>some ({fr with todo:=.code a::.code b::k},st)
   |.code (.block id c)::k=>some ({fr with todo:=.code c::.inBlock id::k},st)
   |.code (.scope c)::k=>some ({fr with todo:=.code c::.inScope c::k},st)
   |.code (.loop c)::k=>some ({fr with todo:=.code c::.inLoop c::k},st)
   |.inLoop c::k=>some ({fr with todo:=.code c::.inLoop c::k},st)
   |.code (.exit id)::k=>(exitTo id k).map λg=>({fr with todo:=g},st)
   | .code (.cond c a b)::k=>match sv fr.env c with
     |.lit (.bool x)=>some ({fr with todo:=.code (if x then a else b)::k},st)
     |_=>none
   |.code (.region id ops false)::k=>some ({fr with todo:=.inRegion ops (List.range ops.size)::k},st)
   | .inRegion ops (i::rest)::k=>match ops[i]? with
     |none=>none
     | some o=>match zJ ops fr.env o with
       |none=>none
       |some false=>(xh fr .cE).map (·,st)
       | some true=>match o.op with
         |.call c=>(PS P fr.env c).map (·,fr::st)
         | .defer c=>match Kn c with
           |some d=>(xh fr .cE).map λs=>({s with defers:=d::s.defers},st)
           |none=>none
         | op=>match Vt P f (sv fr.env) op with
           |some v=>(xh fr v).map (·,st)
           |none=>none
   |_=>none
def sgo(P:acD)(f:Fl):Nat->jJ->List jJ->jJ × List jJ
 |0,fr,st=>(fr,st)
 | n+1,fr,st=>match ss P f fr st with
   |some (a,b)=>sgo P f n a b
   |none=>(fr,st)
structure FR(y:Sy)(s:jJ)(fr:Frame):Prop where
 fn:fr.fn=s.fn
 todo:fr.todo=s.todo
 defers:fr.defers=s.defers
 mode:fr.mode=s.mode.of
 kind:fr.kind=s.kind
 ro:fr.roundOf=none
 size:fr.tmps.size=s.env.length
 env:∀t,SR y (s.env.getD t .cE) (fr.tmps.getD t undef)
def l8(y:Sy):List jJ->acb->Prop
 |[],[]=>True
 |s::ss,f::fs=>FR y s f/\l8 y ss fs
 |_,_=>False
def rJ(P:acD)(Wd:abZ)(g g':aco):Prop:=g.status=.running/\∀main w,Wd w->stepG P main g w=.go g' w #[]
def jb(P:acD)(Wd:abZ):Nat->aco->aco->Prop
 |0,g,a=>g=a
 |n+1,g,a=>∃b,rJ P Wd g b/\jb P Wd n b a
def sB(P:acD)(Wd:abZ)(g g':aco):Prop:=∃n,jb P Wd n g g'
theorem jb.trans{P:acD}{Wd:abZ}:∀{n m:Nat}{a b c:aco},jb P Wd n a b->jb P Wd m b c->jb P Wd (n+m) a c
 |0,m,a,b,c,h,d=>by obtain rfl:=h;simp_all
 | n+1,m,a,b,c,h,d=>by
   obtain⟨e,f,g⟩:=h;rw[show n+1+m=(n+m)+1 by omega];exact⟨e,f,g.trans d⟩
theorem sB.trans{P:acD}{Wd:abZ}{a b c:aco}(h:sB P Wd a b)(d:sB P Wd b c):sB P Wd a c:=let ⟨n,h⟩:=h;let ⟨m,d⟩:=d;⟨n+m,h.trans d⟩
theorem rJ.zK{P:acD}{Wd:abZ}{a b:aco}(h:rJ P Wd a b):sB P Wd a b:=⟨1,b,h,rfl⟩
theorem FR.sv{y:Sy}{s:jJ}{fr:Frame}(h:FR y s fr)(x:acE):SR y (sv s.env x) (fr.eval x):=by
 cases x with
 |tmp t=>exact h.env t
 |const v=>rfl
 |global g=>rfl
 |func f=>rfl
theorem FR.fin{y:Sy}{s s':jJ}{fr:Frame}{v:SV}{x:Value}(h:FR y s fr)(a:xh s v=some s')(p:SR y v x):FR y s' (fr.finish x):=by
 obtain⟨fn,tmps,todo,defs,mode,kind,ro⟩:=fr;obtain⟨b,c,f,g,j,l,m,n⟩:=h;simp only at b c f g j l m n;subst c;unfold xh at a;split at a
 . rename_i ops i rest k e
   simp only[kn]at a;subst a;simp only[Frame.finish,e];refine⟨b,rfl,f,g,j,l,?_,λt=>?_⟩
   . grind
   . cases q:(ops[i]?).bind (·.dst)with
     |none=>simp_all
     | some d=>
       simp only;by_cases o:d=t
       . subst o
         by_cases hd:d<tmps.size
         . simp_all
         grind
       simp_all
 . cases a
theorem pG{y:Sy}{s:jJ}{fr:Frame}{ops:acd}{o:Oper}{b:Bool}(h:FR y s fr)(a:zJ ops s.env o=some b):Region.wanted o (yielded ops fr.tmps)=b:=by
 unfold zJ at a;unfold Region.wanted;cases i:o.guard with
 |none=>simp_all
 | some p=>
   obtain⟨j,c⟩:=p;rw[i]at a;simp only at a ⊢;cases g:ops[j]? with
   |none=>simp_all
   | some k=>
     rw[g]at a;cases hd:k.dst with
     |none=>simp_all
     | some d=>
       simp only[Option.bind_some,hd]at a;have f:=h.env d;split at a
       . rename_i x l
         rw[l]at f;have f:fr.tmps.getD d undef=.bool x:=f
         have e:fr.tmps[d]?=some (.bool x):=by
          by_cases e:d<fr.tmps.size
          . simp_all
          . simp[Array.getD,e,undef]at f
         simp only[kn]at a;simp[yielded,g,hd,e,a]
       . cases a
theorem l8.mC{y:Sy}{fs:acb}(h:l8 y [] fs):fs=[]:=by cases fs with|nil=>rfl|cons _ _=>exact h.elim
theorem l8.cons_inv{y:Sy}{s:jJ}{l:List jJ}{fs:acb}(h:l8 y (s::l) fs):∃f a,fs=f::a/\FR y s f/\l8 y l a:=by
 cases fs with
 |nil=>exact h.elim
 |cons f a=>exact⟨f,a,rfl,h.1,h.2⟩
theorem gK{P:acD}{fn:FuncId}:seen P fn #[]=#[]:=rfl
theorem apply_pure{P:acD}{fr:Frame}{cs:acb}{s:Sem Next}{n:Next}(h:m7 P s=some n)(w:World):stepG.apply P true fr cs none s w=stepG.apply P true fr cs none (pure n) w:=by have a:=Kk s h w #[];have b:(pure n:Sem Next).runT P w #[]=(.ok n w,#[]):=rfl;simp only[stepG.apply,if_true,a,b]
theorem nG{P:acD}{main:Bool}{fid:FuncId}{k:acm}{ops:acd}{i:Nat}{rest:acr}{o:Oper}{tmps:abY}{defs:abR}{kind:acv}{cs:acb}(a:ops[i]?=some o)(b:Region.wanted o (yielded ops tmps)=true)(w:World):
 stepG P main (G ⟨fid,tmps,.inRegion ops (i::rest)::k,defs,.run,kind,none⟩ cs) w=
  stepG.apply P true ⟨fid,tmps,.inRegion ops (i::rest)::k,defs,.run,kind,none⟩ cs none (execOp (Frame.eval ⟨fid,tmps,.inRegion ops (i::rest)::k,defs,.run,kind,none⟩) o) w:=by
 simp only[G,stepG,stepG.exec,stepG.oper,Frame.oper?,a,b,ZR,aaf,if_true]
theorem Ko{P:acD}{main:Bool}{fid:FuncId}{k:acm}{ops:acd}{i:Nat}{rest:acr}{o:Oper}{tmps:abY}{defs:abR}{kind:acv}{cs:acb}(a:ops[i]?=some o)(b:Region.wanted o (yielded ops tmps)=false)(w:World):
 stepG P main (G ⟨fid,tmps,.inRegion ops (i::rest)::k,defs,.run,kind,none⟩ cs) w=.go (G (Frame.finish ⟨fid,tmps,.inRegion ops (i::rest)::k,defs,.run,kind,none⟩ undef) cs) w #[]:=by
 have h:((ops[i]?).map (Region.wanted · (yielded ops tmps))).getD false=false:=by grind
 simp only[G,stepG,stepG.exec,h];rfl
theorem yU{P:acD}{ρ:abN}{o:Oper}{c:Call}{g:FuncId}{fn:Func}{body:Code}(e:o.op=.call c)(f:c.callee=.value (.func g))(h:P.funcs[g]?=some fn)(hb:fn.body=some body)(b:fn.name≠ "runtime.NumGoroutine")(d:ρ (.func g)=.func (.func g) #[] #[]):
 m7 P (execOp ρ o)=some (.enter g (c.args.map ρ)):=by
 simp only[execOp,e,resolve,f,d,Deferred.ofValue];show m7 P (callFunc g ((#[]++c.args.map ρ)++#[]))=_;unfold callFunc;show m7 P (Sem.bind program _)=_;rw[lH program (a:=P) rfl];simp[h,hb,b];rfl
theorem PT{P:acD}{Wd:abZ}{f:Fl}{y:Sy}(hf:f.At y){s s':jJ}{st D:List jJ}{fr:Frame}{frs:acb}(h:ss P f s st=some (s',D))(hr:FR y s fr)(A:l8 y st frs):
 ∃r l,FR y s' r/\l8 y D l/\∀cs,rJ P Wd (G fr (frs++cs)) (G r (l++cs)):=by
 have q:=hr;obtain⟨fn,tmps,todo,defs,mode,kind,ro⟩:=fr;obtain⟨S,m,L,I,M,h6,X,T⟩:=hr;simp only at S m L I M h6 X T;subst h6;unfold ss at h;split at h
 ·
  rename_i U;rw[U]at I;have I:mode=.returning:=I;subst I;split at h
  . cases h
  rename_i c a9;split at h
  . rename_i E hd hk F
    obtain⟨fc,l,rfl,hc,Y⟩:=A.cons_inv;split at h
    . rename_i v C
      obtain⟨V,j,e⟩:=Option.map_eq_some_iff.1 h;simp only[zG]at e;obtain⟨rfl,rfl⟩:=e
      have N:∃x,SR y v x/\∀w,(results E tmps).runT P w #[]=(.ok x w,#[]):=by
       unfold Tg at C;split at C
       . rename_i O
         simp only[kn]at C;subst C;have O:E.results=#[]:=by simp_all
         exact⟨.tuple #[],rfl,λw=>by simp[results,O]⟩
       . rename_i t O
         simp only[kn]at C;subst C;have O:E.results=#[.tmp t]:=by grind
         exact⟨tmps.getD t undef,T t,λw=>by simp[results,O]⟩
       . cases C
      obtain⟨x,Z,ad⟩:=N;refine⟨fc.finish x,l,hc.fin j Z,Y,λcs=>⟨rfl,λmain w _=>?_⟩⟩;rw[hd]at L;rw[hk]at M;subst L;subst M;subst S;have e1:(results E tmps).run P w=.ok x w:=by simp_all
      have e2:(results E tmps).events P w #[]=#[]:=by simp_all
      simp[G,stepG,unwind,F,e1,e2,doReturn,GStep.after,gK]
    . cases h
  . cases h
 . rename_i U
   rw[U]at I;have I:mode=.run:=I;subst I
   have ctl:∀B:acm,(∀main cs w,stepG P main (G ⟨fn,tmps,todo,defs,.run,kind,none⟩ (frs++cs)) w=.go (G ⟨fn,tmps,B,defs,.run,kind,none⟩ (frs++cs)) w #[])->some ({s with todo:=B},st)=some (s',D) ->
    ∃r l,FR y s' r/\l8 y D l/\∀cs,rJ P Wd (G ⟨fn,tmps,todo,defs,.run,kind,none⟩ (frs++cs)) (G r (l++cs)):=λB hs e=>by
    simp only[kn,zG]at e;obtain⟨rfl,rfl⟩:=e;exact⟨_,frs,⟨S,rfl,L,by rw[U];rfl,M,rfl,X,T⟩,A,λcs=>⟨rfl,λmain w _=>hs main cs w⟩⟩
   have ret:(∀main cs w,stepG P main (G ⟨fn,tmps,todo,defs,.run,kind,none⟩ (frs++cs)) w=.go (G ⟨fn,tmps,todo,defs,.returning,kind,none⟩ (frs++cs)) w #[])->some ({s with mode:=.ret},st)=some (s',D) ->
    ∃r l,FR y s' r/\l8 y D l/\∀cs,rJ P Wd (G ⟨fn,tmps,todo,defs,.run,kind,none⟩ (frs++cs)) (G r (l++cs)):=λhs e=>by
    simp only[kn,zG]at e;obtain⟨rfl,rfl⟩:=e;exact⟨_,frs,⟨S,m,L,rfl,M,rfl,X,T⟩,A,λcs=>⟨rfl,λmain w _=>hs main cs w⟩⟩
   split at h
   . rename_i n;rw[n]at m;subst m
     exact ret (λ_ _ _=>by simp[G,stepG,stepG.exec]) h
   . rename_i n;rw[n]at m;subst m
     exact ret (λ_ _ _=>by simp[G,stepG,stepG.exec]) h
   . rename_i n;rw[n]at m;subst m
     exact ctl _ (λ_ _ _=>by simp[G,stepG,stepG.exec]) h
   . rename_i n;rw[n]at m;subst m
     exact ctl _ (λ_ _ _=>by simp[G,stepG,stepG.exec]) h
   . rename_i n;rw[n]at m;subst m
     exact ctl _ (λ_ _ _=>by simp[G,stepG,stepG.exec]) h
   . rename_i n;rw[n]at m;subst m
     exact ctl _ (λ_ _ _=>by simp[G,stepG,stepG.exec]) h
   . rename_i n;rw[n]at m;subst m
     exact ctl _ (λ_ _ _=>by simp[G,stepG,stepG.exec]) h
   . rename_i n;rw[n]at m;subst m
     exact ctl _ (λ_ _ _=>by simp[G,stepG,stepG.exec]) h
   . rename_i n;rw[n]at m;subst m
     exact ctl _ (λ_ _ _=>by simp[G,stepG,stepG.exec]) h
   . rename_i n;rw[n]at m;subst m
     exact ctl _ (λ_ _ _=>by simp[G,stepG,stepG.exec]) h
   . rename_i n;rw[n]at m;subst m
     exact ctl _ (λ_ _ _=>by simp[G,stepG,stepG.exec]) h
   . rename_i id k n;rw[n]at m;subst m
     obtain⟨k',he,e⟩:=Option.map_eq_some_iff.1 h;exact ctl k' (λ_ _ _=>by simp[G,stepG,stepG.exec,he]) (by rw[e])
   . rename_i c a b k n;rw[n]at m;subst m
     split at h
     . rename_i x Q
       have C:=q.sv c;rw[Q]at C;have C:Frame.eval ⟨fn,tmps,.code (.cond c a b)::k,defs,.run,kind,none⟩ c=.bool x:=C;exact ctl _ (λ_ _ _=>by simp[G,stepG,stepG.exec,C]) h
     . cases h
   . rename_i n;rw[n]at m;subst m
     exact ctl _ (λ_ _ _=>by simp[G,stepG,stepG.exec]) h
   . rename_i ops i rest k n;rw[n]at m;subst m
     split at h
     . cases h
     . rename_i o W
       split at h
       . cases h
       . rename_i hw
         obtain⟨V,j,e⟩:=Option.map_eq_some_iff.1 h;simp only[zG]at e;obtain⟨rfl,rfl⟩:=e;exact⟨_,frs,q.fin j trivial,A,λcs=>⟨rfl,λmain w _=>Ko W (pG q hw) w⟩⟩
       . rename_i hw
         have J:=pG q hw;split at h
         . rename_i c K
           obtain⟨V,j,e⟩:=Option.map_eq_some_iff.1 h;simp only[zG]at e;obtain⟨rfl,rfl⟩:=e;unfold PS at j;split at j
           . rename_i g R
             split at j
             . rename_i E F
               split at j
               . rename_i body H
                 split at j
                 . cases j
                 rename_i a7;simp only[kn]at j;subst j;refine⟨Frame.enter P g (c.args.map (Frame.eval ⟨fn,tmps,.inRegion ops (i::rest)::k,defs,.run,kind,none⟩)) .normal,⟨fn,tmps,.inRegion ops (i::rest)::k,defs,.run,kind,none⟩::frs,?_,⟨q,A⟩,λcs=>⟨rfl,λmain w _=>?_⟩⟩
                 . refine⟨rfl,by simp[Frame.enter,F,H],rfl,rfl,rfl,rfl,by simp[Frame.enter,F],λt=>?_⟩
                   simp only[Frame.enter,F,ZR,aaf];rw[abb,zA];by_cases n:t<c.args.size
                   . rw[abh (by simp_all),ZS (by simp_all)]
                     simp only[aaq,ZT,abv];rw[ZJ n];exact q.sv _
                   . rw[aaB (by simp;omega),ZK (by simp;omega)]
                     simp only[ZE,Array.length_toList,List.getElem?_replicate];split<;>trivial
                 . rw[nG W J,apply_pure (yU K R F H a7 rfl)]
                   simp only[stepG.apply,if_true,GStep.after];have u:(pure (.enter g (c.args.map (Frame.eval ⟨fn,tmps,.inRegion ops (i::rest)::k,defs,.run,kind,none⟩))):Sem Next).runT P w #[]=(.ok (.enter g (c.args.map (Frame.eval ⟨fn,tmps,.inRegion ops (i::rest)::k,defs,.run,kind,none⟩))) w,#[]):=rfl;simp only[u,ite_self,gK,G,List.cons_append];rfl
               . cases j
             . cases j
           . cases j
         . rename_i c K
           split at h
           . rename_i d hd
             obtain⟨V,j,e⟩:=Option.map_eq_some_iff.1 h;simp only[zG]at e;obtain⟨rfl,rfl⟩:=e
             have Q:m7 P (execOp (Frame.eval ⟨fn,tmps,.inRegion ops (i::rest)::k,defs,.run,kind,none⟩) o)=some (.defer d):=by
              unfold Kn at hd;split at hd
              . rename_i g hg
                split at hd
                . rename_i ha
                  simp only[kn]at hd;subst hd;have em:(#[]:abQ).map (Frame.eval ⟨fn,tmps,.inRegion ops (i::rest)::k,defs,.run,kind,none⟩)=#[]:=by simp
                  simp only[execOp,K,resolve,hg,ha,em];rfl
                . cases hd
              . cases hd
             have p:=q.fin (x:=undef) j trivial;have e1:Frame.finish ⟨fn,tmps,.inRegion ops (i::rest)::k,d::defs,.run,kind,none⟩ undef={Frame.finish ⟨fn,tmps,.inRegion ops (i::rest)::k,defs,.run,kind,none⟩ undef with defers:=d::(Frame.finish ⟨fn,tmps,.inRegion ops (i::rest)::k,defs,.run,kind,none⟩ undef).defers}:=rfl;refine⟨{Frame.finish ⟨fn,tmps,.inRegion ops (i::rest)::k,defs,.run,kind,none⟩ undef with defers:=d::(Frame.finish ⟨fn,tmps,.inRegion ops (i::rest)::k,defs,.run,kind,none⟩ undef).defers},frs,⟨p.fn,p.todo,congrArg (List.cons d) p.defers,p.mode,p.kind,p.ro,p.size,p.env⟩,A,λcs=>⟨rfl,λmain w _=>?_⟩⟩;rw[nG W J,apply_pure Q];have u:(pure (.defer d):Sem Next).runT P w #[]=(.ok (.defer d) w,#[]):=rfl;simp only[stepG.apply,if_true,u,ite_self,gK,GStep.after,G]
             grind
           . cases h
         . rename_i al av
           split at h
           . rename_i v C
             obtain⟨V,j,e⟩:=Option.map_eq_some_iff.1 h;simp only[zG]at e;obtain⟨rfl,rfl⟩:=e;obtain⟨x,Q,a8⟩:=QR hf (ρ':=Frame.eval ⟨fn,tmps,.inRegion ops (i::rest)::k,defs,.run,kind,none⟩) C (λz=>q.sv z);refine⟨_,frs,q.fin j a8,A,λcs=>⟨rfl,λmain w _=>?_⟩⟩;rw[nG W J,apply_pure Q];have u:(pure (.value x):Sem Next).runT P w #[]=(.ok (.value x) w,#[]):=rfl;simp only[stepG.apply,if_true,u,ite_self,gK,GStep.after,G];rfl
           . cases h
   . cases h
theorem lJ{P:acD}{Wd:abZ}{f:Fl}{y:Sy}(i:f.At y):∀(n:Nat){s:jJ}{st:List jJ}{fr:Frame}{frs:acb},FR y s fr->l8 y st frs ->
 ∃m c a,FR y (sgo P f n s st).1 c/\l8 y (sgo P f n s st).2 a/\∀cs,jb P Wd m (G fr (frs++cs)) (G c (a++cs))
 |0,s,st,fr,frs,g,b=>⟨0,fr,frs,g,b,λ_=>rfl⟩
 | n+1,s,st,fr,frs,g,b=>by
   unfold sgo;cases e:ss P f s st with
   |none=>exact⟨0,fr,frs,g,b,λ_=>rfl⟩
   |some p=>obtain⟨u,j⟩:=p;obtain⟨c,a,k,l,o⟩:=PT i e g b;obtain⟨m,h,d,q,r,t⟩:=lJ i n k l;exact⟨m+1,h,d,q,r,λcs=>⟨_,o cs,t cs⟩⟩
