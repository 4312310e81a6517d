/- Part 13 of the proof. -/
import Derived.Test.YtigilmjkokbblaaGreatDoorC12
set_option linter.all false
namespace Go.bd
open Go.Conc
def nc{α:Type}(P:Program):Sem α->Option α
 |.pure a=>some a
 |.program f=>nc P (f P)
 |_=>none
theorem KC{α:Type}{P:Program}(s:Sem α):∀{a:α},nc P s=some a->∀w es,s.runT P w es=(.ok a w,es):=by
 induction s with
 |pure b=>intro a h w es;simp only[nc,Option.some.injEq]at h;subst h;rfl
 |program f c=>intro a h w es;simp only[nc]at h;simp only[Sem.runT];exact c P h w es
 |_=>intro a h;simp[nc]at h
theorem l9{α β:Type}{P:Program}{f:α->Sem β}(s:Sem α):∀{a:α},nc P s=some a->nc P (s.bind f)=nc P (f a):=by
 induction s with
 |pure b=>intro a h;simp only[nc,Option.some.injEq]at h;subst h;rfl
 |program g c=>intro a h;simp only[nc]at h;exact c P h
 |_=>intro a h;simp[nc]at h
def enc(L K S:Bool)(N:Int):Int:=8*N+(L.toNat+2*K.toNat+4*S.toNat:Nat)
theorem Bv{L K S:Bool}{N:Int}(h:0<=N):enc L K S N=((8*N.toNat+(L.toNat+2*K.toNat+4*S.toNat):Nat):Int):=by
 unfold enc;have:(N.toNat:Int)=N:=Int.toNat_of_nonneg h
 push_cast
 omega
theorem UZ{N:Nat}{b m:Nat}(hb:b<8)(a:m<8):(8*N+b) &&& m=b &&& m:=by
 have d:m=m % 2 ^ 3:=by omega
 apply Nat.eq_of_testBit_eq;intro i;simp only[Nat.testBit_and];by_cases c:i<3
 . congr 1
   have:=Nat.testBit_two_pow_mul_add (i:=3) N (b:=b) (by omega) i;simp only[c,if_true]at this;exact this
 . have:m.testBit i=false:=Nat.testBit_lt_two_pow (Nat.lt_of_lt_of_le a (by
    have:2 ^ 3<=2 ^ i:=Nat.pow_le_pow_right (by omega) (by omega);omega))
   rw[this];simp
theorem Og{N:Nat}{b m:Nat}(hb:b<8)(g:m<8):(8*N+b)|||m=8*N+(b|||m):=by
 have e:=Nat.two_pow_add_eq_or_of_lt (i:=3) (b:=b) (by omega) N;have a:b|||m<2 ^ 3:=Nat.or_lt_two_pow (by omega) (by omega);have d:=Nat.two_pow_add_eq_or_of_lt (i:=3) (b:=b|||m) a N;have f:8*N+b=2 ^ 3*N|||b:=e;have c:8*N+(b|||m)=2 ^ 3*N|||(b|||m):=d;rw[f,c,Nat.or_assoc]
def U1(N:Int):Prop:=0<=N/\N<=1000000
theorem Oh{L K S:Bool}{N:Int}(h:U1 N){m:Nat}(a:m<8):bits .and .i32 (enc L K S N) (m:Int)=(((L.toNat+2*K.toNat+4*S.toNat) &&& m:Nat):Int):=by
 have hb:L.toNat+2*K.toNat+4*S.toNat<8:=by cases L<;>cases K<;>cases S<;>decide
 rw[Bv h.1,(bits_nat .i32 31 (by decide) wraps_i32 _ m (by have:=h.2;omega) (by omega)).1,UZ hb a]
theorem Qq{L K S:Bool}{N:Int}(h:U1 N){m:Nat}(a:m<8):bits .or .i32 (enc L K S N) (m:Int)=((8*N.toNat+((L.toNat+2*K.toNat+4*S.toNat)|||m):Nat):Int):=by
 have hb:L.toNat+2*K.toNat+4*S.toNat<8:=by cases L<;>cases K<;>cases S<;>decide
 rw[Bv h.1,(bits_nat .i32 31 (by decide) wraps_i32 _ m (by have:=h.2;omega) (by omega)).2,Og hb a]
theorem U2{a b c d:Nat}(hb:b<8)(hd:d<8):(8*a+b) &&& (8*c+d)=8*(a &&& c)+(b &&& d):=by
 apply Nat.eq_of_testBit_eq;intro i;have f:=Nat.testBit_two_pow_mul_add (i:=3) a (b:=b) (by omega) i;have g:=Nat.testBit_two_pow_mul_add (i:=3) c (b:=d) (by omega) i;have h:=Nat.testBit_two_pow_mul_add (i:=3) (a &&& c) (b:=b &&& d) (by have:=Nat.and_le_left (n:=b) (m:=d);omega) i;have e:(2:Nat) ^ 3=8:=rfl;rw[e]at f g h;rw[Nat.testBit_and,f,g,h];split<;>simp
theorem C9{L K S:Bool}{N:Int}(h:U1 N):bits .andNot .i32 (enc L K S N) 2=enc L false S N:=by
 have hb:L.toNat+2*K.toNat+4*S.toNat<8:=by cases L<;>cases K<;>cases S<;>decide
 have e:((N.toNat:Nat):Int)=N:=Int.toNat_of_nonneg h.1;have f:=h.2
 have a:(BitVec.ofInt 32 (enc L K S N)).toNat=8*N.toNat+(L.toNat+2*K.toNat+4*S.toNat):=by rw[Bv h.1,BitVec.ofInt_natCast,BitVec.toNat_ofNat];exact Nat.mod_eq_of_lt (by omega)
 have b:(~~~(BitVec.ofInt 32 2)).toNat=8*536870911+5:=by decide
 have c:N.toNat &&& 536870911=N.toNat:=by
  have:=Nat.and_two_pow_sub_one_eq_mod N.toNat 29;rw[show 2 ^ 29-1=536870911 from rfl]at this
  rw[this];exact Nat.mod_eq_of_lt (by omega)
 have d:(L.toNat+2*K.toNat+4*S.toNat) &&& 5=L.toNat+4*S.toNat:=by cases L<;>cases K<;>cases S<;>decide
 show IntKind.i32.wrap ((BitVec.ofInt 32 (enc L K S N) &&& ~~~(BitVec.ofInt 32 2)).toNat:Int)=_;rw[BitVec.toNat_and,a,b,U2 hb (by omega),c,d,wraps_i32 _ (Int.natCast_nonneg _) (by cases L<;>cases S<;>simp[Bool.toNat]<;>omega)]
 unfold enc;cases L<;>cases S<;>simp[Bool.toNat]<;>omega
def eC(c:Int)(w:Nat):Int:=c*4294967296+w
inductive SV where
 |bC
 |lit (v:Value)
 |word (L K S:Bool) (δ:Int)
 |cnt
 |eC (w:Nat)
 |GG
 |H3
 |H4
 |now
 |SS
structure Fl where
 n0:Bool
 n1:Bool
 c0:Bool
 c1:Bool
 wz:Bool
 tb:Bool
structure Sy where
 N:Int
 c:Int
 ws:Int
 tn:Int
structure Fl.At(f:Fl)(y:Sy):Prop where
 hN:0<=y.N/\y.N<=1000
 hc:0<=y.c/\y.c<=1000
 n0:f.n0=decide (y.N=0)
 n1:f.n1=decide (y.N=1)
 c0:f.c0=decide (y.c=0)
 c1:f.c1=decide (y.c=1)
 wz:f.wz=decide (y.ws=0)
 tb:f.tb=decide (IntKind.i64.wrap (y.tn-y.ws)>1000000)
def SR(y:Sy):SV->Value->Prop
 |.bC,_=>True
 |.lit v,x=>x=v
 |.word L K S a,x=>x=.int .i32 (enc L K S (y.N+a))/\0<=y.N+a/\a<=2
 |.cnt,x=>x=.int .i32 y.N
 |.eC w,x=>x=.int .u64 (eC y.c w)
 |.GG,x=>x=.int .u64 y.c
 |.H3,x=>x=.int .i32 y.c
 |.H4,x=>x=.int .i64 y.ws
 |.now,x=>x=.int .i64 y.tn
 |.SS,x=>x=.int .i64 (IntKind.i64.wrap (y.tn-y.ws))
def KG(f:Fl)(op:BinOp)(a b:SV):Option SV:=
 match op,a,b with
 |.and,.word L K S c,.lit (.int .i32 m)=>if 0<=m/\m<8 then some (.lit (.int .i32 (((L.toNat+2*K.toNat+4*S.toNat) &&& m.toNat:Nat):Int)))else none
 |.or,.word L K S c,.lit (.int .i32 m)=>if m=1 then some (.word true K S c)else if m=2 then some (.word L true S c)else if m=4 then some (.word L K true c)else none
 |.andNot,.word L K S c,.lit (.int .i32 m)=>if m=2 then some (.word L false S c)else none
 |.add,.word L K S c,.lit (.int .i32 m)=>if m=8 then(if c<=1 then some (.word L K S (c+1))else none)else if m=1 then(if L=false then some (.word true K S c)else none)else none
 |.sub,.word L K S c,.lit (.int .i32 m)=>if m=8/\c=0/\f.n0=false then some (.word L K S (-1))else none
 |.shr,.word _ _ _ c,.lit (.int .u64 m)=>if m=3/\c=0 then some .cnt else none
 |.eql,.word L K S c,.lit (.int .i32 m)=>if m=0/\c=0 then some (.lit (.bool (!L && !K && !S && f.n0)))else none
 |.neq,.word L K S c,.lit (.int .i32 m)=>if m=0/\c=0 then some (.lit (.bool !(!L && !K && !S && f.n0)))else none
 |.eql,.cnt,.lit (.int .i32 m)=>if m=0 then some (.lit (.bool f.n0))else if m=1 then some (.lit (.bool f.n1))else none
 |.neq,.cnt,.lit (.int .i32 m)=>if m=0 then some (.lit (.bool !f.n0))else if m=1 then some (.lit (.bool !f.n1))else none
 |.and,.eC w,.lit (.int .u64 m)=>if m=2147483648/\w<=1000 then some (.lit (.int .u64 0))else if m=2147483647/\w<=1000 then some (.lit (.int .u64 w))else none
 |.shr,.eC w,.lit (.int .u64 m)=>if m=32/\w<=1000 then some .GG else none
 |.eql,.H3,.lit (.int .i32 m)=>if m=0 then some (.lit (.bool f.c0))else if m=1 then some (.lit (.bool f.c1))else if m=-1 then some (.lit (.bool false))else none
 |.lss,.H3,.lit (.int .i32 m)=>if m=0 then some (.lit (.bool false))else none
 |.gtr,.H3,.lit (.int .i32 m)=>if m=0 then some (.lit (.bool !f.c0))else none
 |.neq,.eC w,.eC d=>if w=d then some (.lit (.bool false))else none
 |.neq,.eC w,.lit (.int .u64 m)=>if m=0 then some (.lit (.bool !(f.c0 && decide (w=0))))else none
 |.add,.eC w,.lit (.int .u64 m)=>if m=1/\w<=1000 then some (.eC (w+1))else none
 |.eql,.H4,.lit (.int .i64 m)=>if m=0 then some (.lit (.bool f.wz))else none
 |.neq,.H4,.lit (.int .i64 m)=>if m=0 then some (.lit (.bool !f.wz))else none
 |.sub,.now,.H4=>some .SS
 |.gtr,.SS,.lit (.int .i64 m)=>if m=1000000 then some (.lit (.bool f.tb))else none
 |_,_,_=>none
theorem iS{n:Int}(a:-2147483648<=n)(b:n<2147483648):IntKind.i32.wrap n=n:=by rw[IntKind.wrap_i32];omega
theorem kC{n:Int}(a:0<=n)(b:n<18446744073709551616):IntKind.u64.wrap n=n:=by simp[IntKind.wrap,IntKind.bits,IntKind.signed];omega
theorem ma{L K S:Bool}{N:Int}:8*N<=enc L K S N/\enc L K S N<=8*N+7:=by unfold enc;cases L<;>cases K<;>cases S<;>simp[Bool.toNat]<;>omega
theorem xx{L K S:Bool}{N:Int}(h:0<=N):enc L K S N=0↔(L=false/\K=false/\S=false/\N=0):=by unfold enc;cases L<;>cases K<;>cases S<;>simp[Bool.toNat]<;>omega
theorem vA(a b:Int):(a==b)=decide (a=b):=by by_cases h:a=b<;>simp[h]
theorem nO{a b c:Bool}{p q:Prop}[Decidable p][Decidable q](h:q↔(a=false/\b=false/\c=false/\p)):decide q=(!a && !b && !c && decide p):=by by_cases d:p<;>cases a<;>cases b<;>cases c<;>simp_all
set_option maxHeartbeats 1000000 in
theorem Oi{P:Program}{f:Fl}{y:Sy}(o:f.At y){op:BinOp}{t:TypeId}{a b r:SV}{x z:Value}(h:KG f op a b=some r)(g:SR y a x)(hb:SR y b z):∃v,nc P (binOp op t x z)=some v/\SR y r v:=by
 have hN:=o.hN;have hc:=o.hc;unfold KG at h;split at h
 ·
  rename_i L K S j m;obtain⟨rfl,l,p⟩:=g;have hb:z=.int .i32 m:=hb;subst hb;split at h
  . rename_i d
    simp only[Option.some.injEq]at h;subst h;refine⟨.int .i32 (bits .and .i32 (enc L K S (y.N+j)) m),rfl,?_⟩;have e:m=(m.toNat:Int):=by omega
    show Value.int .i32 _=.int .i32 _;congr 1;rw[e];exact Oh ⟨l,by omega⟩ (by omega)
  . cases h
 ·
  rename_i L K S j m;obtain⟨rfl,l,p⟩:=g;have hb:z=.int .i32 m:=hb;subst hb;have q:∀k:Nat,k<8->bits .or .i32 (enc L K S (y.N+j)) (k:Int)=((8*(y.N+j).toNat+((L.toNat+2*K.toNat+4*S.toNat)|||k):Nat):Int):=λk D=>Qq ⟨l,by omega⟩ D
  have I:(((y.N+j).toNat:Nat):Int)=y.N+j:=Int.toNat_of_nonneg l;split at h
  . rename_i d;subst d
    simp only[Option.some.injEq]at h;subst h;refine⟨.int .i32 (bits .or .i32 (enc L K S (y.N+j)) 1),rfl,?_,l,p⟩;congr 1;have:=q 1 (by omega)
    rw[show((1:Nat):Int)=1 from rfl]at this
    rw[this];unfold enc;cases L<;>cases K<;>cases S<;>simp[Bool.toNat]<;>omega
  split at h
  . rename_i d;subst d
    simp only[Option.some.injEq]at h;subst h;refine⟨.int .i32 (bits .or .i32 (enc L K S (y.N+j)) 2),rfl,?_,l,p⟩;congr 1;have:=q 2 (by omega)
    rw[show((2:Nat):Int)=2 from rfl]at this
    rw[this];unfold enc;cases L<;>cases K<;>cases S<;>simp[Bool.toNat]<;>omega
  split at h
  . rename_i d;subst d
    simp only[Option.some.injEq]at h;subst h;refine⟨.int .i32 (bits .or .i32 (enc L K S (y.N+j)) 4),rfl,?_,l,p⟩;congr 1;have:=q 4 (by omega)
    rw[show((4:Nat):Int)=4 from rfl]at this
    rw[this];unfold enc;cases L<;>cases K<;>cases S<;>simp[Bool.toNat]<;>omega
  . cases h
 ·
  rename_i L K S j m;obtain⟨rfl,l,p⟩:=g;have hb:z=.int .i32 m:=hb;subst hb;split at h
  . rename_i d;subst d
    simp only[Option.some.injEq]at h;subst h;refine⟨.int .i32 (bits .andNot .i32 (enc L K S (y.N+j)) 2),rfl,?_,l,p⟩;rw[C9 ⟨l,by omega⟩]
  . cases h
 ·
  rename_i L K S j m;obtain⟨rfl,l,p⟩:=g;have hb:z=.int .i32 m:=hb;subst hb;have s:=ma (L:=L) (K:=K) (S:=S) (N:=y.N+j);split at h
  . rename_i d;subst d
    split at h
    . simp only[Option.some.injEq]at h;subst h
      refine⟨.int .i32 (IntKind.i32.wrap (enc L K S (y.N+j)+8)),rfl,?_,by omega,by omega⟩
      rw[iS (by omega) (by omega)]
      congr 1;unfold enc;omega
    . cases h
  split at h
  . rename_i d;subst d
    split at h
    . rename_i E;subst E
      simp only[Option.some.injEq]at h;subst h;refine⟨.int .i32 (IntKind.i32.wrap (enc false K S (y.N+j)+1)),rfl,?_,l,p⟩;rw[iS (by omega) (by omega)]
      congr 1;unfold enc;simp[Bool.toNat];omega
    . cases h
  . cases h
 ·
  rename_i L K S j m;obtain⟨rfl,l,p⟩:=g;have hb:z=.int .i32 m:=hb;subst hb;have s:=ma (L:=L) (K:=K) (S:=S) (N:=y.N+j);split at h
  . rename_i d
    obtain⟨rfl,rfl,A⟩:=d;rw[o.n0]at A;simp at A;simp only[Option.some.injEq]at h;subst h;refine⟨.int .i32 (IntKind.i32.wrap (enc L K S (y.N+0)-8)),rfl,?_,by omega,by omega⟩
    rw[iS (by omega) (by omega)]
    congr 1;unfold enc;omega
  . cases h
 ·
  rename_i L K S j m;obtain⟨rfl,l,p⟩:=g;have hb:z=.int .u64 m:=hb;subst hb;have s:=ma (L:=L) (K:=K) (S:=S) (N:=y.N+j);split at h
  . rename_i d
    obtain⟨rfl,rfl⟩:=d;simp only[Option.some.injEq]at h;subst h;refine⟨.int .i32 ((enc L K S (y.N+0)).fdiv (2 ^ 3)),rfl,?_⟩;show Value.int .i32 _=.int .i32 _;congr 1;rw[Int.fdiv_eq_ediv_of_nonneg _ (by decide)]
    omega
  . cases h
 ·
  rename_i L K S j m;obtain⟨rfl,l,p⟩:=g;have hb:z=.int .i32 m:=hb;subst hb;split at h
  . rename_i d
    obtain⟨rfl,rfl⟩:=d;simp only[Option.some.injEq]at h;subst h;refine⟨.bool (enc L K S (y.N+0)==0),rfl,?_⟩;show Value.bool _=.bool _;congr 1;rw[o.n0,vA];have:=xx (L:=L) (K:=K) (S:=S) l;rw[Int.add_zero]at this ⊢;exact nO this
  . cases h
 ·
  rename_i L K S j m;obtain⟨rfl,l,p⟩:=g;have hb:z=.int .i32 m:=hb;subst hb;split at h
  . rename_i d
    obtain⟨rfl,rfl⟩:=d;simp only[Option.some.injEq]at h;subst h;refine⟨.bool (enc L K S (y.N+0)!=0),rfl,?_⟩;show Value.bool _=.bool _;congr 1;rw[o.n0];have:=xx (L:=L) (K:=K) (S:=S) l;rw[Int.add_zero]at this ⊢;rw[bne,vA,nO this]
  . cases h
 ·
  rename_i m;have g:x=.int .i32 y.N:=g;have hb:z=.int .i32 m:=hb;subst g;subst hb;split at h
  . rename_i d;subst d
    simp only[Option.some.injEq]at h;subst h;exact⟨.bool (y.N==0),rfl,by show Value.bool _=.bool _;rw[o.n0,vA]⟩
  split at h
  . rename_i d;subst d
    simp only[Option.some.injEq]at h;subst h;exact⟨.bool (y.N==1),rfl,by show Value.bool _=.bool _;rw[o.n1,vA]⟩
  . cases h
 . rename_i m
   have g:x=.int .i32 y.N:=g;have hb:z=.int .i32 m:=hb;subst g;subst hb;split at h
   . rename_i d;subst d
     simp only[Option.some.injEq]at h;subst h;exact⟨.bool (y.N !=0),rfl,by show Value.bool _=.bool _;rw[o.n0,bne,vA]⟩
   split at h
   . rename_i d;subst d
     simp only[Option.some.injEq]at h;subst h;exact⟨.bool (y.N !=1),rfl,by show Value.bool _=.bool _;rw[o.n1,bne,vA]⟩
   . cases h
 ·
  rename_i w m;have g:x=.int .u64 (eC y.c w):=g;have hb:z=.int .u64 m:=hb;subst g;subst hb
  have F:eC y.c w=((y.c.toNat*4294967296+w:Nat):Int):=by have:((y.c.toNat:Nat):Int)=y.c:=Int.toNat_of_nonneg hc.1;rw[Int.natCast_add,Int.natCast_mul,this];rfl
  split at h
  . rename_i d
    obtain⟨rfl,u⟩:=d;simp only[Option.some.injEq]at h;subst h;refine⟨.int .u64 (bits .and .u64 (eC y.c w) 2147483648),rfl,?_⟩;show Value.int .u64 _=.int .u64 _;congr 1
    have G:bits .and .u64 (eC y.c w) 4294967295=(w:Int):=by
     have:=bits_mask .u64 64 (by decide) (λn a b=>kC a b) 32 (by omega) (eC y.c w) (by unfold eC;omega) (by unfold eC;omega)
     rw[show((2:Int) ^ 32-1)=4294967295 from rfl]at this
     rw[this];unfold eC;omega
    rw[F,show(2147483648:Int)=((2147483648:Nat):Int)from rfl,(bits_nat .u64 64 (by decide) (λn a b=>kC a b) _ _ (by omega) (by omega)).1]
    have e:(y.c.toNat*4294967296+w) &&& 2147483648=0:=by
     apply Nat.eq_of_testBit_eq;intro i;rw[Nat.testBit_and,Nat.zero_testBit]
     have hb:(2147483648:Nat).testBit i=decide (31=i):=by have:=Nat.testBit_two_pow (n:=31) (m:=i);simpa using this
     rw[hb]
     by_cases B:31=i
     . subst B
       have l:=Nat.testBit_two_pow_mul_add (i:=32) y.c.toNat (b:=w) (by omega) 31
       simp only[show 31<32 by omega,if_true]at l
       rw[show y.c.toNat*4294967296+w=2 ^ 32*y.c.toNat+w by omega,l]
       rw[Nat.testBit_lt_two_pow (by omega:w<2 ^ 31)];rfl
     . simp[B]
    rw[e];rfl
  split at h
  . rename_i d
    obtain⟨rfl,u⟩:=d;simp only[Option.some.injEq]at h;subst h;refine⟨.int .u64 (bits .and .u64 (eC y.c w) 2147483647),rfl,?_⟩;show Value.int .u64 _=.int .u64 _;congr 1;have:=bits_mask .u64 64 (by decide) (λn a b=>kC a b) 31 (by omega) (eC y.c w) (by unfold eC;omega) (by unfold eC;omega)
    rw[show((2:Int) ^ 31-1)=2147483647 from rfl]at this
    rw[this];unfold eC;omega
  . cases h
 ·
  rename_i w m;have g:x=.int .u64 (eC y.c w):=g;have hb:z=.int .u64 m:=hb;subst g;subst hb;split at h
  . rename_i d
    obtain⟨rfl,u⟩:=d;simp only[Option.some.injEq]at h;subst h;refine⟨.int .u64 ((eC y.c w).fdiv (2 ^ 32)),rfl,?_⟩;show Value.int .u64 _=.int .u64 _;congr 1;rw[Int.fdiv_eq_ediv_of_nonneg _ (by decide)]
    unfold eC;omega
  . cases h
 . rename_i m
   have g:x=.int .i32 y.c:=g;have hb:z=.int .i32 m:=hb;subst g;subst hb;split at h
   . rename_i d;subst d
     simp only[Option.some.injEq]at h;subst h;exact⟨.bool (y.c==0),rfl,by show Value.bool _=.bool _;rw[o.c0,vA]⟩
   split at h
   . rename_i d;subst d
     simp only[Option.some.injEq]at h;subst h;exact⟨.bool (y.c==1),rfl,by show Value.bool _=.bool _;rw[o.c1,vA]⟩
   split at h
   . rename_i d;subst d
     simp only[Option.some.injEq]at h;subst h;refine⟨.bool (y.c==-1),rfl,?_⟩;show Value.bool _=.bool _;have:¬y.c=-1:=by omega
     rw[vA];simp[this]
   . cases h
 . rename_i m
   have g:x=.int .i32 y.c:=g;have hb:z=.int .i32 m:=hb;subst g;subst hb;split at h
   . rename_i d;subst d
     simp only[Option.some.injEq]at h;subst h;refine⟨.bool (decide (y.c<0)),rfl,?_⟩;show Value.bool _=.bool _;have:¬y.c<0:=by omega
     simp[this]
   . cases h
 . rename_i m
   have g:x=.int .i32 y.c:=g;have hb:z=.int .i32 m:=hb;subst g;subst hb;split at h
   . rename_i d;subst d
     simp only[Option.some.injEq]at h;subst h;refine⟨.bool (decide (y.c>0)),rfl,?_⟩;show Value.bool _=.bool _;rw[o.c0];congr 1
     by_cases C:y.c=0
     . simp[C]
     . have:y.c>0:=by omega
       simp[C,this]
   . cases h
 . rename_i w H
   have g:x=.int .u64 (eC y.c w):=g;have hb:z=.int .u64 (eC y.c H):=hb;subst g;subst hb;split at h
   . rename_i d;subst d
     simp only[Option.some.injEq]at h;subst h;exact⟨.bool (eC y.c w !=eC y.c w),rfl,by show Value.bool _=.bool _;simp⟩
   . cases h
 . rename_i w m
   have g:x=.int .u64 (eC y.c w):=g;have hb:z=.int .u64 m:=hb;subst g;subst hb;split at h
   . rename_i d;subst d
     simp only[Option.some.injEq]at h;subst h;refine⟨.bool (eC y.c w !=0),rfl,?_⟩;show Value.bool _=.bool _;rw[o.c0];congr 1;have:eC y.c w=0↔(y.c=0/\w=0):=by unfold eC;omega
     rw[bne,vA]
     have e:decide (eC y.c w=0)=(decide (y.c=0) && decide (w=0)):=by rw[Bool.eq_iff_iff,Bool.and_eq_true,decide_eq_true_iff,decide_eq_true_iff,decide_eq_true_iff];exact this
     rw[e]
   . cases h
 . rename_i w m
   have g:x=.int .u64 (eC y.c w):=g;have hb:z=.int .u64 m:=hb;subst g;subst hb;split at h
   . rename_i d
     obtain⟨rfl,u⟩:=d;simp only[Option.some.injEq]at h;subst h;refine⟨.int .u64 (IntKind.u64.wrap (eC y.c w+1)),rfl,?_⟩;show Value.int .u64 _=.int .u64 _;rw[kC (by unfold eC;omega) (by unfold eC;omega)]
     congr 1;unfold eC;push_cast;omega
   . cases h
 . rename_i m
   have g:x=.int .i64 y.ws:=g;have hb:z=.int .i64 m:=hb;subst g;subst hb;split at h
   . rename_i d;subst d
     simp only[Option.some.injEq]at h;subst h;exact⟨.bool (y.ws==0),rfl,by show Value.bool _=.bool _;rw[o.wz,vA]⟩
   . cases h
 . rename_i m
   have g:x=.int .i64 y.ws:=g;have hb:z=.int .i64 m:=hb;subst g;subst hb;split at h
   . rename_i d;subst d
     simp only[Option.some.injEq]at h;subst h;exact⟨.bool (y.ws !=0),rfl,by show Value.bool _=.bool _;rw[o.wz,bne,vA]⟩
   . cases h
 . have g:x=.int .i64 y.tn:=g
   have hb:z=.int .i64 y.ws:=hb;subst g;subst hb;simp only[Option.some.injEq]at h;subst h;exact⟨_,rfl,rfl⟩
 . rename_i m
   have g:x=.int .i64 (IntKind.i64.wrap (y.tn-y.ws)):=g;have hb:z=.int .i64 m:=hb;subst g;subst hb;split at h
   . rename_i d;subst d
     simp only[Option.some.injEq]at h;subst h;exact⟨.bool (decide (IntKind.i64.wrap (y.tn-y.ws)>1000000)),rfl,by show Value.bool _=.bool _;rw[o.tb]⟩
   . cases h
 . cases h
inductive C' where
 |run
 |ret
def C'.of:C'->FrameMode
 |.run=>.run
 |.ret=>.returning
structure jG where
 fn:FuncId
 todo:List Item
 env:List SV
 defers:List Deferred
 mode:C'
 kind:CallKind
def sv(env:List SV):Operand->SV
 |.tmp t=>env.getD t .bC
 |.const v=>.lit v
 |.global g=>.lit (.pointer (some ⟨g,0,none⟩))
 |.func f=>.lit (.func (.func f) #[] #[])
def U3(P:Program)(f:Fl)(ρ:Operand->SV)(o:Op):Option SV:=
 match o with
 |.move x=>some (ρ x)
 |.assign x=>some (ρ x)
 |.pick c a b=>match ρ c with|.lit (.bool x)=>some (if x then ρ a else ρ b)|_=>none
 | .binOp op t x y _=>
   match KG f op (ρ x) (ρ y)with
   |some r=>some r
   | none=>match ρ x,ρ y with
     |.lit (.int k a),.lit (.int d b)=>(nc P (binOp op t (.int k a) (.int d b))).map .lit
     |_,_=>none
 |.unOp .not _ x=>match ρ x with|.lit (.bool b)=>some (.lit (.bool !b))|_=>none
 |.nilCheck x=>match ρ x with|.lit (.pointer (some a))=>some (.lit (.pointer (some a)))|_=>none
 |.fieldAddr s x e=>match ρ x with|.lit (.pointer (some a))=>(nc P (Instr.fieldAt s (.pointer (some a)) e)).map .lit|_=>none
 | .convert src dst x=>
   match ρ x with
   |.lit v=>(nc P (convert src dst v)).map .lit
   |.GG=>match P.underlying src,P.underlying dst with|some _,some (.int .i32)=>some .H3|_,_=>none
   |_=>none
 |_=>none
theorem Da{P:Program}{op:BinOp}{t:TypeId}{x y:Operand}{k k':IntKind}{a b:Int}:nc P (eqGuard op t x y (.int k a) (.int k' b))=some ():=by unfold eqGuard;split<;>rfl
theorem SR.int{y:Sy}{a:SV}{x:Value}(h:SR y a x)(b:∀v,a≠.lit v)(c:a≠.bC):∃k n,x=.int k n:=by
 cases a with
 |bC=>exact absurd rfl c
 |lit v=>exact absurd rfl (b v)
 |word _ _ _ _=>exact⟨_,_,h.1⟩
 |_=>exact⟨_,_,h⟩
theorem KH{f:Fl}{op:BinOp}{a b r:SV}{y:Sy}{x z:Value}(h:KG f op a b=some r)(g:SR y a x)(hb:SR y b z):∃k n k' c,x=.int k n/\z=.int k' c:=by
 unfold KG at h
 split at h<;>first
  |(cases h;done)
  | (obtain⟨k,n,d⟩:=g.int (by intro v e;cases e) (by intro e;cases e)
     first
     |exact⟨k,n,_,_,d,hb⟩
     |(obtain⟨k',c,i⟩:=hb.int (by intro v e;cases e) (by intro e;cases e);exact⟨k,n,k',c,d,i⟩))
theorem Bw{α:Type}{P:Program}{s:Sem α}{g:α->SV}{r:SV}(h:(nc P s).map g=some r):∃a,nc P s=some a/\r=g a:=by
 cases q:nc P s with
 |none=>rw[q]at h;simp at h
 |some a=>rw[q]at h;simp at h;exact⟨a,rfl,h.symm⟩
theorem qw{P:Program}{s:Sem Value}{v:Value}(h:nc P s=some v):nc P (do pure (.value (<-s)):Sem Next)=some (.value v):=by
 show nc P (Sem.bind s λa=>(pure (Next.value a):Sem Next))=_;rw[l9 s h];rfl
theorem Qr{P:Program}{f:Fl}{y:Sy}(A:f.At y){ρ:Operand->SV}{ρ':Operand->Value}{o:Oper}{r:SV}(h:U3 P f ρ o.op=some r)(g:∀x,SR y (ρ x) (ρ' x)):∃v,nc P (execOp ρ' o)=some (.value v)/\SR y r v:=by
 unfold U3 at h;split at h
 . rename_i x e
   simp only[Option.some.injEq]at h;subst h;exact⟨ρ' x,by simp[execOp,e];rfl,g x⟩
 . rename_i x e
   simp only[Option.some.injEq]at h;subst h;exact⟨ρ' x,by simp[execOp,e];rfl,g x⟩
 . rename_i c a b e
   split at h
   . rename_i x j
     simp only[Option.some.injEq]at h;subst h;have hc:=g c;rw[j]at hc;have hc:ρ' c=.bool x:=hc;refine⟨if x then ρ' a else ρ' b,?_,?_⟩
     . simp only[execOp,e,hc]
       cases x<;>rfl
     . cases x
       . exact g b
       . exact g a
   . cases h
 . rename_i op t x z nl e
   have key:∀{k n m q},ρ' x=.int k n->ρ' z=.int m q->∀{v},nc P (binOp op t (.int k n) (.int m q))=some v->nc P (execOp ρ' o)=some (.value v):=by
    intro k n m q i p v l;have:execOp ρ' o=(do pure (.value (<-(do eqGuard op t x z (ρ' x) (ρ' z);binOp op t (ρ' x) (ρ' z)))):Sem Next):=by simp only[execOp,e]
    rw[this,i,p];refine qw ?_;show nc P ((eqGuard op t x z (.int k n) (.int m q)).bind λ_=>binOp op t (.int k n) (.int m q))=_
    rw[l9 _ Da];exact l
   split at h
   . rename_i G w
     simp only[Option.some.injEq]at h;subst h;obtain⟨k,n,m,q,i,p⟩:=KH w (g x) (g z);obtain⟨v,l,B⟩:=Oi (P:=P) A (t:=t) w (g x) (g z);rw[i,p]at l;exact⟨v,key i p l,B⟩
   . split at h
     . rename_i k a m b j C
       obtain⟨v,l,rfl⟩:=Bw h;have i:=g x;have p:=g z;rw[j]at i;rw[C]at p;exact⟨v,key i p l,rfl⟩
     . cases h
 . rename_i t x e
   split at h
   . rename_i b j
     simp only[Option.some.injEq]at h;subst h;have i:=g x;rw[j]at i;have i:ρ' x=.bool b:=i;exact⟨.bool !b,by simp only[execOp,e,i];rfl,rfl⟩
   . cases h
 . rename_i x e
   split at h
   . rename_i a j
     simp only[Option.some.injEq]at h;subst h;have i:=g x;rw[j]at i;have i:ρ' x=.pointer (some a):=i;exact⟨_,by simp only[execOp,e,i];rfl,rfl⟩
   . cases h
 . rename_i s x H e
   split at h
   . rename_i a j
     obtain⟨v,l,rfl⟩:=Bw h;have i:=g x;rw[j]at i;have i:ρ' x=.pointer (some a):=i;refine⟨v,?_,rfl⟩;simp only[execOp,e,i];exact qw l
   . cases h
 . rename_i src dst x e
   split at h
   . rename_i u j
     obtain⟨v,l,rfl⟩:=Bw h;have i:=g x;rw[j]at i;have i:ρ' x=u:=i;refine⟨v,?_,rfl⟩;simp only[execOp,e,i];exact qw l
   . rename_i j
     split at h
     . rename_i d w hd
       simp only[Option.some.injEq]at h;subst h;have i:=g x;rw[j]at i;have i:ρ' x=.int .u64 y.c:=i;refine⟨.int .i32 y.c,?_,rfl⟩;simp only[execOp,e,i];refine qw ?_
       have D:nc P (underlying src)=some d:=by unfold underlying;show nc P (Sem.bind program _)=_;rw[l9 program (a:=P) rfl,w];rfl
       have E:nc P (underlying dst)=some (.int .i32):=by unfold underlying;show nc P (Sem.bind program _)=_;rw[l9 program (a:=P) rfl,hd];rfl
       unfold convert;show nc P (Sem.bind (underlying src) _)=_;rw[l9 _ D];show nc P (Sem.bind (underlying dst) _)=_;rw[l9 _ E];have F:IntKind.i32.wrap y.c=y.c:=iS (by have:=A.hc;omega) (by have:=A.hc;omega)
       show some (Value.int .i32 (IntKind.i32.wrap y.c))=_;rw[F]
     . cases h
   . cases h
 . cases h
def zY(ops:Array Oper)(env:List SV)(o:Oper):Option Bool:=
 match o.guard with
 |none=>some true
 | some (j,b)=>match (ops[j]?).bind (·.dst)with
   | some d=>match env.getD d .bC with
     |.lit (.bool x)=>some (x==b)
     |_=>none
   |none=>none
def xy(fr:jG)(v:SV):Option jG:=
 match fr.todo with
 |.inRegion ops (i::rest)::k=>some {fr with env:=(match (ops[i]?).bind (·.dst)with|some d=>fr.env.set d v|none=>fr.env),todo:=.inRegion ops rest::k}
 |_=>none
def SU(fn:Func)(env:List SV):Option SV:=
 match fn.results.toList with
 |[]=>some (.lit (.tuple #[]))
 |[.tmp t]=>some (env.getD t .bC)
 |_=>none
def Pr(P:Program)(env:List SV)(c:Call):Option jG:=
 match c.callee with
 | .value (.func g)=>match P.funcs[g]? with
   | some fn=>match fn.body with
     |some body=>if fn.name= "runtime.NumGoroutine" then none else some {fn:=g,todo:=[.code body],env:=c.args.toList.map (sv env)++List.replicate (fn.ntmps-c.args.size) .bC,defers:=[],mode:=.run,kind:=.normal}
     |none=>none
   |none=>none
 |_=>none
def KI(c:Call):Option Deferred:=
 match c.callee with
 |.value (.func g)=>if c.args=#[]then some {target:=.fn (.func g) #[],args:=#[]}else none
 |_=>none
def ss(P : Program)(f:Fl)(fr:jG)(st:List jG):Option (jG × List jG):=
 match fr.mode with
 | .ret=>match st with
   |[]=>none
   | c ::e=>match fr.defers,fr.kind,P.funcs[fr.fn]? with
     | [],.normal,some fn=>match SU fn fr.env with
       |some v=>(xy c v).map (·,e)
       |none=>none
     |_,_,_=>none
 | .run => match fr.todo with
   |[]=>some ({fr with mode:=.ret},st)
   |.code .ret::_=>some ({fr with mode:=.ret},st)
   |.code .skip::k=>some ({fr with todo:=k},st)
   |.inBlock _::k=>some ({fr with todo:=k},st)
   |.inScope _::k=>some ({fr with todo:=k},st)
   |.inRegion _ []::k=>some ({fr with todo:=k},st)
   |.code (.seq a b)::k=>some ({fr with todo:=.code a::.code b::k},st)
   |.code (.block id c)::k=>some ({fr with todo:=.code c::.inBlock id::k},st)
   |.code (.scope c)::k=>some ({fr with todo:=.code c::.inScope c::k},st)
   |.code (.loop c)::k=>some ({fr with todo:=.code c::.inLoop c::k},st)
   |.inLoop c::k=>some ({fr with todo:=.code c::.inLoop c::k},st)
   |.code (.exit id)::k=>(exitTo id k).map λg=>({fr with todo:=g},st)
   | .code (.cond c a b)::k=>match sv fr.env c with
     |.lit (.bool x)=>some ({fr with todo:=.code (if x then a else b)::k},st)
     |_=>none
   |.code (.region id ops false)::k=>some ({fr with todo:=.inRegion ops (List.range ops.size)::k},st)
   | .inRegion ops (i::rest)::k=>match ops[i]? with
     |none=>none
     | some o=>match zY ops fr.env o with
       |none=>none
       |some false=>(xy fr .bC).map (·,st)
       | some true=>match o.op with
         |.call c=>(Pr P fr.env c).map (·,fr::st)
         | .defer c=>match KI c with
           |some d=>(xy fr .bC).map λs=>({s with defers:=d::s.defers},st)
           |none=>none
         | op=>match U3 P f (sv fr.env) op with
           |some v=>(xy fr v).map (·,st)
           |none=>none
   |_=>none
def sgo(P:Program)(f:Fl):Nat->jG->List jG->jG × List jG
 |0,fr,st=>(fr,st)
 | n+1,fr,st=>match ss P f fr st with
   |some (a,b)=>sgo P f n a b
   |none=>(fr,st)
structure FR(y:Sy)(s:jG)(fr:Frame):Prop where
 fn:fr.fn=s.fn
 todo:fr.todo=s.todo
 defers:fr.defers=s.defers
 mode:fr.mode=s.mode.of
 kind:fr.kind=s.kind
 ro:fr.roundOf=none
 size:fr.tmps.size=s.env.length
 env:∀t,SR y (s.env.getD t .bC) (fr.tmps.getD t undef)
def my(y:Sy):List jG->List Frame->Prop
 |[],[]=>True
 |s::ss,f::fs=>FR y s f/\my y ss fs
 |_,_=>False
def rH(P:Program)(Wd:World->Prop)(g g':Goroutine):Prop:=g.status=.running/\∀main w,Wd w->stepG P main g w=.go g' w #[]
def kD(P:Program)(Wd:World->Prop):Nat->Goroutine->Goroutine->Prop
 |0,g,a=>g=a
 |n+1,g,a=>∃b,rH P Wd g b/\kD P Wd n b a
def sQ(P:Program)(Wd:World->Prop)(g g':Goroutine):Prop:=∃n,kD P Wd n g g'
theorem kD.trans{P:Program}{Wd:World->Prop}:∀{n m:Nat}{a b c:Goroutine},kD P Wd n a b->kD P Wd m b c->kD P Wd (n+m) a c
 |0,m,a,b,c,h,d=>by obtain rfl:=h;rw[Nat.zero_add];exact d
 | n+1,m,a,b,c,h,d=>by
   obtain⟨e,f,g⟩:=h;rw[show n+1+m=(n+m)+1 by omega];exact⟨e,f,g.trans d⟩
theorem sQ.trans{P:Program}{Wd:World->Prop}{a b c:Goroutine}(h:sQ P Wd a b)(d:sQ P Wd b c):sQ P Wd a c:=let ⟨n,h⟩:=h;let ⟨m,d⟩:=d;⟨n+m,h.trans d⟩
theorem rH.zZ{P:Program}{Wd:World->Prop}{a b:Goroutine}(h:rH P Wd a b):sQ P Wd a b:=⟨1,b,h,rfl⟩
theorem FR.sv{y:Sy}{s:jG}{fr:Frame}(h:FR y s fr)(x:Operand):SR y (sv s.env x) (fr.eval x):=by
 cases x with
 |tmp t=>exact h.env t
 |const v=>rfl
 |global g=>rfl
 |func f=>rfl
theorem FR.fin{y:Sy}{s s':jG}{fr:Frame}{v:SV}{x:Value}(h:FR y s fr)(b:xy s v=some s')(w:SR y v x):FR y s' (fr.finish x):=by
 obtain⟨fn,tmps,todo,defs,mode,kind,ro⟩:=fr;obtain⟨m,n,o,p,r,u,c,g⟩:=h;simp only at m n o p r u c g;subst n;unfold xy at b;split at b
 . rename_i ops i rest k e
   simp only[Option.some.injEq]at b;subst b;simp only[Frame.finish,e];refine⟨m,rfl,o,p,r,u,?_,λt=>?_⟩
   . cases q:(ops[i]?).bind (·.dst)with
     |none=>simpa[q]using c
     |some d=>simpa[q]using c
   . cases q:(ops[i]?).bind (·.dst)with
     |none=>simpa[q]using g t
     | some d=>
       simp only
       by_cases j:d=t
       . subst j
         by_cases hd:d<tmps.size
         . have l:(tmps.setIfInBounds d x).getD d undef=x:=by simp[Array.getD,hd]
           have f:(s.env.set d v).getD d .bC=v:=by have a:d<s.env.length:=c ▸ hd;rw[List.getD_eq_getElem?_getD,List.getElem?_set_self a];rfl
           rw[l,f];exact w
         . have f:(s.env.set d v).getD d .bC=.bC:=by
            have a:s.env.length<=d:=by rw[<-c];exact Nat.le_of_not_lt hd
            rw[List.getD_eq_getElem?_getD,List.getElem?_eq_none (by rw[List.length_set];exact a)];rfl
           rw[f];trivial
       . have l:(tmps.setIfInBounds d x).getD t undef=tmps.getD t undef:=by
          simp only[Array.getD_eq_getD_getElem?];rw[Array.getElem?_setIfInBounds_ne j]
         have f:(s.env.set d v).getD t .bC=s.env.getD t .bC:=by rw[List.getD_eq_getElem?_getD,List.getD_eq_getElem?_getD,List.getElem?_set_ne j]
         rw[l,f];exact g t
 . cases b
theorem pR{y:Sy}{s:jG}{fr:Frame}{ops:Array Oper}{o:Oper}{b:Bool}(h:FR y s fr)(a:zY ops s.env o=some b):Region.wanted o (yielded ops fr.tmps)=b:=by
 unfold zY at a;unfold Region.wanted;cases i:o.guard with
 |none=>rw[i]at a;simpa using a
 | some p=>
   obtain⟨j,c⟩:=p;rw[i]at a;simp only at a ⊢;cases g:ops[j]? with
   |none=>rw[g]at a;simp at a
   | some k =>
     rw[g]at a;cases hd:k.dst with
     |none=>simp[hd]at a
     | some d=>
       simp only[Option.bind_some,hd]at a;have f:=h.env d;split at a
       . rename_i x l
         rw[l]at f;have f:fr.tmps.getD d undef=.bool x:=f
         have e:fr.tmps[d]?=some (.bool x):=by
          by_cases e:d<fr.tmps.size
          . simp[Array.getD,e]at f
            simp[e,f]
          . simp[Array.getD,e,undef]at f
         simp only[Option.some.injEq]at a;simp[yielded,g,hd,e,a]
       . cases a
theorem my.lz{y:Sy}{fs:List Frame}(h:my y [] fs):fs=[]:=by cases fs with|nil=>rfl|cons _ _=>exact h.elim
theorem my.cons_inv{y:Sy}{s:jG}{l:List jG}{fs:List Frame}(h:my y (s::l) fs):∃f a,fs=f::a/\FR y s f/\my y l a:=by
 cases fs with
 |nil=>exact h.elim
 |cons f a=>exact⟨f,a,rfl,h.1,h.2⟩
theorem gK{P:Program}{fn:FuncId}:seen P fn #[]=#[]:=rfl
theorem apply_pure{P:Program}{fr:Frame}{cs:List Frame}{s:Sem Next}{n:Next}(h:nc P s=some n)(w:World):stepG.apply P true fr cs none s w=stepG.apply P true fr cs none (pure n) w:=by have a:=KC s h w #[];have b:(pure n:Sem Next).runT P w #[]=(.ok n w,#[]):=rfl;simp only[stepG.apply,if_true,a,b]
theorem nP{P:Program}{main:Bool}{fid:FuncId}{k:List Item}{ops:Array Oper}{i:Nat}{rest:List Nat}{o:Oper}{tmps:Array Value}{defs:List Deferred}{kind:CallKind}{cs:List Frame}(a:ops[i]?=some o)(b:Region.wanted o (yielded ops tmps)=true)(w:World):
 stepG P main (G ⟨fid,tmps,.inRegion ops (i::rest)::k,defs,.run,kind,none⟩ cs) w=
  stepG.apply P true ⟨fid,tmps,.inRegion ops (i::rest)::k,defs,.run,kind,none⟩ cs none (execOp (Frame.eval ⟨fid,tmps,.inRegion ops (i::rest)::k,defs,.run,kind,none⟩) o) w:=by
 simp only[G,stepG,stepG.exec,stepG.oper,Frame.oper?,a,b,Option.map_some,Option.getD_some,if_true]
theorem KJ{P:Program}{main:Bool}{fid:FuncId}{k:List Item}{ops:Array Oper}{i:Nat}{rest:List Nat}{o:Oper}{tmps:Array Value}{defs:List Deferred}{kind:CallKind}{cs:List Frame}(a:ops[i]?=some o)(b:Region.wanted o (yielded ops tmps)=false)(w:World):
 stepG P main (G ⟨fid,tmps,.inRegion ops (i::rest)::k,defs,.run,kind,none⟩ cs) w=.go (G (Frame.finish ⟨fid,tmps,.inRegion ops (i::rest)::k,defs,.run,kind,none⟩ undef) cs) w #[]:=by
 have h:((ops[i]?).map (Region.wanted · (yielded ops tmps))).getD false=false:=by simp[a,b]
 simp only[G,stepG,stepG.exec,h];rfl
theorem yU{P:Program}{ρ:Operand->Value}{o:Oper}{c:Call}{g:FuncId}{fn:Func}{body:Code}(e:o.op=.call c)(f:c.callee=.value (.func g))(h:P.funcs[g]?=some fn)(hb:fn.body=some body)(b:fn.name≠ "runtime.NumGoroutine")(d:ρ (.func g)=.func (.func g) #[] #[]):
 nc P (execOp ρ o)=some (.enter g (c.args.map ρ)):=by
 simp only[execOp,e,resolve,f,d,Deferred.ofValue];show nc P (callFunc g ((#[]++c.args.map ρ)++#[]))=_;unfold callFunc;show nc P (Sem.bind program _)=_;rw[l9 program (a:=P) rfl];simp[h,hb,b];rfl
theorem Ps{P:Program}{Wd:World->Prop}{f:Fl}{y:Sy}(hf:f.At y){s s':jG}{st D:List jG}{fr:Frame}{frs:List Frame}(h:ss P f s st=some (s',D))(hr:FR y s fr)(A:my y st frs):
 ∃r m,FR y s' r/\my y D m/\∀cs,rH P Wd (G fr (frs++cs)) (G r (m++cs)):=by
 have q:=hr;obtain⟨fn,tmps,todo,defs,mode,kind,ro⟩:=fr;obtain⟨T,n,M,I,N,h6,Y,U⟩:=hr;simp only at T n M I N h6 Y U;subst h6;unfold ss at h;split at h
 ·
  rename_i V;rw[V]at I;have I:mode=.returning:=I;subst I;split at h
  . cases h
  rename_i c ad;split at h
  . rename_i E hd hk F
    obtain⟨fc,m,rfl,hc,Z⟩:=A.cons_inv;split at h
    . rename_i v C
      obtain⟨W,j,e⟩:=Option.map_eq_some_iff.1 h;simp only[Prod.mk.injEq]at e;obtain⟨rfl,rfl⟩:=e
      have O:∃x,SR y v x/\∀w,(results E tmps).runT P w #[]=(.ok x w,#[]):=by
       unfold SU at C;split at C
       . rename_i J
         simp only[Option.some.injEq]at C;subst C;have J:E.results=#[]:=by apply Array.ext';simpa using J
         exact⟨.tuple #[],rfl,λw=>by simp[results,J]⟩
       . rename_i t J
         simp only[Option.some.injEq]at C;subst C;have J:E.results=#[.tmp t]:=by apply Array.ext';simpa using J
         exact⟨tmps.getD t undef,U t,λw=>by simp[results,J]⟩
       . cases C
      obtain⟨x,a7,Q⟩:=O;refine⟨fc.finish x,m,hc.fin j a7,Z,λcs=>⟨rfl,λmain w _=>?_⟩⟩;rw[hd]at M;rw[hk]at N;subst M;subst N;subst T;have e1:(results E tmps).run P w=.ok x w:=by have:=congrArg Prod.fst (Q w);simpa using this
      have e2:(results E tmps).events P w #[]=#[]:=by have:=congrArg Prod.snd (Q w);simpa using this
      simp[G,stepG,unwind,F,e1,e2,doReturn,GStep.after,gK]
    . cases h
  . cases h
 . rename_i V
   rw[V]at I;have I:mode=.run:=I;subst I
   have ctl:∀B:List Item,(∀main cs w,stepG P main (G ⟨fn,tmps,todo,defs,.run,kind,none⟩ (frs++cs)) w=.go (G ⟨fn,tmps,B,defs,.run,kind,none⟩ (frs++cs)) w #[])->some ({s with todo:=B},st)=some (s',D) ->
    ∃r m,FR y s' r/\my y D m/\∀cs,rH P Wd (G ⟨fn,tmps,todo,defs,.run,kind,none⟩ (frs++cs)) (G r (m++cs)):=λB hs e=>by
    simp only[Option.some.injEq,Prod.mk.injEq]at e;obtain⟨rfl,rfl⟩:=e;exact⟨_,frs,⟨T,rfl,M,by rw[V];rfl,N,rfl,Y,U⟩,A,λcs=>⟨rfl,λmain w _=>hs main cs w⟩⟩
   have ret:(∀main cs w,stepG P main (G ⟨fn,tmps,todo,defs,.run,kind,none⟩ (frs++cs)) w=.go (G ⟨fn,tmps,todo,defs,.returning,kind,none⟩ (frs++cs)) w #[])->some ({s with mode:=.ret},st)=some (s',D) ->
    ∃r m,FR y s' r/\my y D m/\∀cs,rH P Wd (G ⟨fn,tmps,todo,defs,.run,kind,none⟩ (frs++cs)) (G r (m++cs)):=λhs e=>by
    simp only[Option.some.injEq,Prod.mk.injEq]at e;obtain⟨rfl,rfl⟩:=e;exact⟨_,frs,⟨T,n,M,rfl,N,rfl,Y,U⟩,A,λcs=>⟨rfl,λmain w _=>hs main cs w⟩⟩
   split at h
   . rename_i l;rw[l]at n;subst n
     exact ret (λ_ _ _=>by simp[G,stepG,stepG.exec]) h
   . rename_i l;rw[l]at n;subst n
     exact ret (λ_ _ _=>by simp[G,stepG,stepG.exec]) h
   . rename_i l;rw[l]at n;subst n
     exact ctl _ (λ_ _ _=>by simp[G,stepG,stepG.exec]) h
   . rename_i l;rw[l]at n;subst n
     exact ctl _ (λ_ _ _=>by simp[G,stepG,stepG.exec]) h
   . rename_i l;rw[l]at n;subst n
     exact ctl _ (λ_ _ _=>by simp[G,stepG,stepG.exec]) h
   . rename_i l;rw[l]at n;subst n
     exact ctl _ (λ_ _ _=>by simp[G,stepG,stepG.exec]) h
   . rename_i l;rw[l]at n;subst n
     exact ctl _ (λ_ _ _=>by simp[G,stepG,stepG.exec]) h
   . rename_i l;rw[l]at n;subst n
     exact ctl _ (λ_ _ _=>by simp[G,stepG,stepG.exec]) h
   . rename_i l;rw[l]at n;subst n
     exact ctl _ (λ_ _ _=>by simp[G,stepG,stepG.exec]) h
   . rename_i l;rw[l]at n;subst n
     exact ctl _ (λ_ _ _=>by simp[G,stepG,stepG.exec]) h
   . rename_i l;rw[l]at n;subst n
     exact ctl _ (λ_ _ _=>by simp[G,stepG,stepG.exec]) h
   . rename_i id k l;rw[l]at n;subst n
     obtain⟨k',he,e⟩:=Option.map_eq_some_iff.1 h;exact ctl k' (λ_ _ _=>by simp[G,stepG,stepG.exec,he]) (by rw[e])
   . rename_i c a b k l;rw[l]at n;subst n
     split at h
     . rename_i x R
       have C:=q.sv c;rw[R]at C;have C:Frame.eval ⟨fn,tmps,.code (.cond c a b)::k,defs,.run,kind,none⟩ c=.bool x:=C;exact ctl _ (λ_ _ _=>by simp[G,stepG,stepG.exec,C]) h
     . cases h
   . rename_i l;rw[l]at n;subst n
     exact ctl _ (λ_ _ _=>by simp[G,stepG,stepG.exec]) h
   . rename_i ops i rest k l;rw[l]at n;subst n
     split at h
     . cases h
     . rename_i o X
       split at h
       . cases h
       . rename_i hw
         obtain⟨W,j,e⟩:=Option.map_eq_some_iff.1 h;simp only[Prod.mk.injEq]at e;obtain⟨rfl,rfl⟩:=e;exact⟨_,frs,q.fin j trivial,A,λcs=>⟨rfl,λmain w _=>KJ X (pR q hw) w⟩⟩
       . rename_i hw
         have K:=pR q hw;split at h
         . rename_i c L
           obtain⟨W,j,e⟩:=Option.map_eq_some_iff.1 h;simp only[Prod.mk.injEq]at e;obtain⟨rfl,rfl⟩:=e;unfold Pr at j;split at j
           . rename_i g S
             split at j
             . rename_i E F
               split at j
               . rename_i body H
                 split at j
                 . cases j
                 rename_i a8;simp only[Option.some.injEq]at j;subst j;refine⟨Frame.enter P g (c.args.map (Frame.eval ⟨fn,tmps,.inRegion ops (i::rest)::k,defs,.run,kind,none⟩)) .normal,⟨fn,tmps,.inRegion ops (i::rest)::k,defs,.run,kind,none⟩::frs,?_,⟨q,A⟩,λcs=>⟨rfl,λmain w _=>?_⟩⟩
                 . refine⟨rfl,by simp[Frame.enter,F,H],rfl,rfl,rfl,rfl,by simp[Frame.enter,F],λt=>?_⟩
                   simp only[Frame.enter,F,Option.map_some,Option.getD_some];rw[Array.getD_eq_getD_getElem?,List.getD_eq_getElem?_getD];by_cases l:t<c.args.size
                   . rw[Array.getElem?_append_left (by simpa using l),List.getElem?_append_left (by simpa using l)]
                     simp only[Array.getElem?_map,List.getElem?_map,Array.getElem?_toList];rw[Array.getElem?_eq_getElem l];exact q.sv _
                   . rw[Array.getElem?_append_right (by simp;omega),List.getElem?_append_right (by simp;omega)]
                     simp only[List.length_map,Array.length_toList,List.getElem?_replicate];split<;>trivial
                 . rw[nP X K,apply_pure (yU L S F H a8 rfl)]
                   simp only[stepG.apply,if_true,GStep.after];have u:(pure (.enter g (c.args.map (Frame.eval ⟨fn,tmps,.inRegion ops (i::rest)::k,defs,.run,kind,none⟩))):Sem Next).runT P w #[]=(.ok (.enter g (c.args.map (Frame.eval ⟨fn,tmps,.inRegion ops (i::rest)::k,defs,.run,kind,none⟩))) w,#[]):=rfl;simp only[u,ite_self,gK,G,List.cons_append];rfl
               . cases j
             . cases j
           . cases j
         . rename_i c L
           split at h
           . rename_i d hd
             obtain⟨W,j,e⟩:=Option.map_eq_some_iff.1 h;simp only[Prod.mk.injEq]at e;obtain⟨rfl,rfl⟩:=e
             have R:nc P (execOp (Frame.eval ⟨fn,tmps,.inRegion ops (i::rest)::k,defs,.run,kind,none⟩) o)=some (.defer d):=by
              unfold KI at hd;split at hd
              . rename_i g hg
                split at hd
                . rename_i ha
                  simp only[Option.some.injEq]at hd;subst hd;have em:(#[]:Array Operand).map (Frame.eval ⟨fn,tmps,.inRegion ops (i::rest)::k,defs,.run,kind,none⟩)=#[]:=by simp
                  simp only[execOp,L,resolve,hg,ha,em];rfl
                . cases hd
              . cases hd
             have p:=q.fin (x:=undef) j trivial;have e1:Frame.finish ⟨fn,tmps,.inRegion ops (i::rest)::k,d::defs,.run,kind,none⟩ undef={Frame.finish ⟨fn,tmps,.inRegion ops (i::rest)::k,defs,.run,kind,none⟩ undef with defers:=d::(Frame.finish ⟨fn,tmps,.inRegion ops (i::rest)::k,defs,.run,kind,none⟩ undef).defers}:=rfl;refine⟨{Frame.finish ⟨fn,tmps,.inRegion ops (i::rest)::k,defs,.run,kind,none⟩ undef with defers:=d::(Frame.finish ⟨fn,tmps,.inRegion ops (i::rest)::k,defs,.run,kind,none⟩ undef).defers},frs,⟨p.fn,p.todo,congrArg (List.cons d) p.defers,p.mode,p.kind,p.ro,p.size,p.env⟩,A,λcs=>⟨rfl,λmain w _=>?_⟩⟩;rw[nP X K,apply_pure R];have u:(pure (.defer d):Sem Next).runT P w #[]=(.ok (.defer d) w,#[]):=rfl;simp only[stepG.apply,if_true,u,ite_self,gK,GStep.after,G];rw[e1];rfl
           . cases h
         . rename_i al av
           split at h
           . rename_i v C
             obtain⟨W,j,e⟩:=Option.map_eq_some_iff.1 h;simp only[Prod.mk.injEq]at e;obtain⟨rfl,rfl⟩:=e;obtain⟨x,R,a9⟩:=Qr hf (ρ':=Frame.eval ⟨fn,tmps,.inRegion ops (i::rest)::k,defs,.run,kind,none⟩) C (λz=>q.sv z);refine⟨_,frs,q.fin j a9,A,λcs=>⟨rfl,λmain w _=>?_⟩⟩;rw[nP X K,apply_pure R];have u:(pure (.value x):Sem Next).runT P w #[]=(.ok (.value x) w,#[]):=rfl;simp only[stepG.apply,if_true,u,ite_self,gK,GStep.after,G];rfl
           . cases h
   . cases h
theorem mc{P:Program}{Wd:World->Prop}{f:Fl}{y:Sy}(i:f.At y):∀(n:Nat){s:jG}{st:List jG}{fr:Frame}{frs:List Frame},FR y s fr->my y st frs ->
 ∃m c a,FR y (sgo P f n s st).1 c/\my y (sgo P f n s st).2 a/\∀cs,kD P Wd m (G fr (frs++cs)) (G c (a++cs))
 |0,s,st,fr,frs,g,b=>⟨0,fr,frs,g,b,λ_=>rfl⟩
 | n+1,s,st,fr,frs,g,b=>by
   unfold sgo;cases e:ss P f s st with
   |none=>exact⟨0,fr,frs,g,b,λ_=>rfl⟩
   |some p=>obtain⟨u,j⟩:=p;obtain⟨c,a,k,l,o⟩:=Ps i e g b;obtain⟨m,h,d,q,r,t⟩:=mc i n k l;exact⟨m+1,h,d,q,r,λcs=>⟨_,o cs,t cs⟩⟩
end Go.bd
