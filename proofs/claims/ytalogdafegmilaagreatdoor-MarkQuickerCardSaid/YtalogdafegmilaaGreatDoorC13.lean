/- Part 13 of the proof. -/
import Derived.Test.YtalogdafegmilaaGreatDoorC12
set_option linter.all false
namespace Go.aN
open Go.Conc
def lT{α:Type}(P:Program):Sem α->Option α
 |.pure a=>some a
 |.program f=>lT P (f P)
 |_=>none
theorem GQ{α:Type}{P:Program}(s:Sem α):∀{a:α},lT P s=some a->∀w es,s.runT P w es=(.ok a w,es):=by
 induction s with
 |pure b=>intro a h w es;simp only[lT,Option.some.injEq]at h;subst h;rfl
 |program f ih=>intro a h w es;simp only[lT]at h;simp only[Sem.runT];exact ih P h w es
 |_=>intro a h;simp[lT]at h
theorem kR{α β:Type}{P:Program}{f:α->Sem β}(s:Sem α):∀{a:α},lT P s=some a->lT P (s.bind f)=lT P (f a):=by
 induction s with
 |pure b=>intro a h;simp only[lT,Option.some.injEq]at h;subst h;rfl
 |program g ih=>intro a h;simp only[lT]at h;exact ih P h
 |_=>intro a h;simp[lT]at h
def enc(L K S:Bool)(N:Int):Int:=8*N+(L.toNat+2*K.toNat+4*S.toNat:Nat)
theorem yE{L K S:Bool}{N:Int}(h:0<=N):enc L K S N=((8*N.toNat+(L.toNat+2*K.toNat+4*S.toNat):Nat):Int):=by
 unfold enc;have:(N.toNat:Int)=N:=Int.toNat_of_nonneg h
 push_cast
 omega
theorem Pn{N:Nat}{b m:Nat}(hb:b<8)(hm:m<8):(8*N+b) &&& m=b &&& m:=by
 have h1:m=m % 2 ^ 3:=by omega
 apply Nat.eq_of_testBit_eq;intro i;simp only[Nat.testBit_and];by_cases hi:i<3
 . congr 1
   have:=Nat.testBit_two_pow_mul_add (i:=3) N (b:=b) (by omega) i;simp only[hi,if_true]at this;exact this
 . have:m.testBit i=false:=Nat.testBit_lt_two_pow (Nat.lt_of_lt_of_le hm (by
    have:2 ^ 3<=2 ^ i:=Nat.pow_le_pow_right (by omega) (by omega);omega))
   rw[this];simp
theorem JW{N:Nat}{b m:Nat}(hb:b<8)(hm:m<8):(8*N+b)|||m=8*N+(b|||m):=by
 have e:=Nat.two_pow_add_eq_or_of_lt (i:=3) (b:=b) (by omega) N;have hlt:b|||m<2 ^ 3:=Nat.or_lt_two_pow (by omega) (by omega);have e2:=Nat.two_pow_add_eq_or_of_lt (i:=3) (b:=b|||m) hlt N;have e':8*N+b=2 ^ 3*N|||b:=e;have e2':8*N+(b|||m)=2 ^ 3*N|||(b|||m):=e2;rw[e',e2',Nat.or_assoc]
def Po(N:Int):Prop:=0<=N/\N<=1000000
theorem JX{L K S:Bool}{N:Int}(h:Po N){m:Nat}(hm:m<8):bits .and .i32 (enc L K S N) (m:Int)=(((L.toNat+2*K.toNat+4*S.toNat) &&& m:Nat):Int):=by
 have hb:L.toNat+2*K.toNat+4*S.toNat<8:=by cases L<;>cases K<;>cases S<;>decide
 rw[yE h.1,(bits_nat .i32 31 (by decide) wraps_i32 _ m (by have:=h.2;omega) (by omega)).1,Pn hb hm]
theorem LV{L K S:Bool}{N:Int}(h:Po N){m:Nat}(hm:m<8):bits .or .i32 (enc L K S N) (m:Int)=((8*N.toNat+((L.toNat+2*K.toNat+4*S.toNat)|||m):Nat):Int):=by
 have hb:L.toNat+2*K.toNat+4*S.toNat<8:=by cases L<;>cases K<;>cases S<;>decide
 rw[yE h.1,(bits_nat .i32 31 (by decide) wraps_i32 _ m (by have:=h.2;omega) (by omega)).2,JW hb hm]
theorem Pp{a b c d:Nat}(hb:b<8)(hd:d<8):(8*a+b) &&& (8*c+d)=8*(a &&& c)+(b &&& d):=by
 apply Nat.eq_of_testBit_eq;intro i;have h1:=Nat.testBit_two_pow_mul_add (i:=3) a (b:=b) (by omega) i;have h2:=Nat.testBit_two_pow_mul_add (i:=3) c (b:=d) (by omega) i;have h3:=Nat.testBit_two_pow_mul_add (i:=3) (a &&& c) (b:=b &&& d) (by have:=Nat.and_le_left (n:=b) (m:=d);omega) i;have e:(2:Nat) ^ 3=8:=rfl;rw[e]at h1 h2 h3;rw[Nat.testBit_and,h1,h2,h3];split<;>simp
theorem Ap{L K S:Bool}{N:Int}(h:Po N):bits .andNot .i32 (enc L K S N) 2=enc L false S N:=by
 have hb:L.toNat+2*K.toNat+4*S.toNat<8:=by cases L<;>cases K<;>cases S<;>decide
 have hN:((N.toNat:Nat):Int)=N:=Int.toNat_of_nonneg h.1;have h2:=h.2
 have e1:(BitVec.ofInt 32 (enc L K S N)).toNat=8*N.toNat+(L.toNat+2*K.toNat+4*S.toNat):=by rw[yE h.1,BitVec.ofInt_natCast,BitVec.toNat_ofNat];exact Nat.mod_eq_of_lt (by omega)
 have e2:(~~~(BitVec.ofInt 32 2)).toNat=8*536870911+5:=by decide
 have e3:N.toNat &&& 536870911=N.toNat:=by
  have:=Nat.and_two_pow_sub_one_eq_mod N.toNat 29;rw[show 2 ^ 29-1=536870911 from rfl]at this
  rw[this];exact Nat.mod_eq_of_lt (by omega)
 have e4:(L.toNat+2*K.toNat+4*S.toNat) &&& 5=L.toNat+4*S.toNat:=by cases L<;>cases K<;>cases S<;>decide
 show IntKind.i32.wrap ((BitVec.ofInt 32 (enc L K S N) &&& ~~~(BitVec.ofInt 32 2)).toNat:Int)=_;rw[BitVec.toNat_and,e1,e2,Pp hb (by omega),e3,e4,wraps_i32 _ (Int.natCast_nonneg _) (by cases L<;>cases S<;>simp[Bool.toNat]<;>omega)]
 unfold enc;cases L<;>cases S<;>simp[Bool.toNat]<;>omega
def dO(c:Int)(w:Nat):Int:=c*4294967296+w
inductive SV where
 |bL
 |lit (v:Value)
 |word (L K S:Bool) (δ:Int)
 |cnt
 |dO (w:Nat)
 |Ds
 |EF
 |EG
 |now
 |NM
structure Fl where
 n0:Bool
 n1:Bool
 c0:Bool
 c1:Bool
 wz:Bool
 tb:Bool
structure Sy where
 N:Int
 c:Int
 ws:Int
 tn:Int
structure Fl.At(f:Fl)(y:Sy):Prop where
 hN:0<=y.N/\y.N<=1000
 hc:0<=y.c/\y.c<=1000
 n0:f.n0=decide (y.N=0)
 n1:f.n1=decide (y.N=1)
 c0:f.c0=decide (y.c=0)
 c1:f.c1=decide (y.c=1)
 wz:f.wz=decide (y.ws=0)
 tb:f.tb=decide (IntKind.i64.wrap (y.tn-y.ws)>1000000)
def SR(y:Sy):SV->Value->Prop
 |.bL,_=>True
 |.lit v,x=>x=v
 |.word L K S δ,x=>x=.int .i32 (enc L K S (y.N+δ))/\0<=y.N+δ/\δ<=2
 |.cnt,x=>x=.int .i32 y.N
 |.dO w,x=>x=.int .u64 (dO y.c w)
 |.Ds,x=>x=.int .u64 y.c
 |.EF,x=>x=.int .i32 y.c
 |.EG,x=>x=.int .i64 y.ws
 |.now,x=>x=.int .i64 y.tn
 |.NM,x=>x=.int .i64 (IntKind.i64.wrap (y.tn-y.ws))
def GR(f:Fl)(op:BinOp)(a b:SV):Option SV:=
 match op,a,b with
 |.and,.word L K S δ,.lit (.int .i32 m)=>if 0<=m/\m<8 then some (.lit (.int .i32 (((L.toNat+2*K.toNat+4*S.toNat) &&& m.toNat:Nat):Int)))else none
 |.or,.word L K S δ,.lit (.int .i32 m)=>if m=1 then some (.word true K S δ)else if m=2 then some (.word L true S δ)else if m=4 then some (.word L K true δ)else none
 |.andNot,.word L K S δ,.lit (.int .i32 m)=>if m=2 then some (.word L false S δ)else none
 |.add,.word L K S δ,.lit (.int .i32 m)=>if m=8 then(if δ<=1 then some (.word L K S (δ+1))else none)else if m=1 then(if L=false then some (.word true K S δ)else none)else none
 |.sub,.word L K S δ,.lit (.int .i32 m)=>if m=8/\δ=0/\f.n0=false then some (.word L K S (-1))else none
 |.shr,.word _ _ _ δ,.lit (.int .u64 m)=>if m=3/\δ=0 then some .cnt else none
 |.eql,.word L K S δ,.lit (.int .i32 m)=>if m=0/\δ=0 then some (.lit (.bool (!L && !K && !S && f.n0)))else none
 |.neq,.word L K S δ,.lit (.int .i32 m)=>if m=0/\δ=0 then some (.lit (.bool !(!L && !K && !S && f.n0)))else none
 |.eql,.cnt,.lit (.int .i32 m)=>if m=0 then some (.lit (.bool f.n0))else if m=1 then some (.lit (.bool f.n1))else none
 |.neq,.cnt,.lit (.int .i32 m)=>if m=0 then some (.lit (.bool !f.n0))else if m=1 then some (.lit (.bool !f.n1))else none
 |.and,.dO w,.lit (.int .u64 m)=>if m=2147483648/\w<=1000 then some (.lit (.int .u64 0))else if m=2147483647/\w<=1000 then some (.lit (.int .u64 w))else none
 |.shr,.dO w,.lit (.int .u64 m)=>if m=32/\w<=1000 then some .Ds else none
 |.eql,.EF,.lit (.int .i32 m)=>if m=0 then some (.lit (.bool f.c0))else if m=1 then some (.lit (.bool f.c1))else if m=-1 then some (.lit (.bool false))else none
 |.lss,.EF,.lit (.int .i32 m)=>if m=0 then some (.lit (.bool false))else none
 |.gtr,.EF,.lit (.int .i32 m)=>if m=0 then some (.lit (.bool !f.c0))else none
 |.neq,.dO w,.dO w'=>if w=w' then some (.lit (.bool false))else none
 |.neq,.dO w,.lit (.int .u64 m)=>if m=0 then some (.lit (.bool !(f.c0 && decide (w=0))))else none
 |.add,.dO w,.lit (.int .u64 m)=>if m=1/\w<=1000 then some (.dO (w+1))else none
 |.eql,.EG,.lit (.int .i64 m)=>if m=0 then some (.lit (.bool f.wz))else none
 |.neq,.EG,.lit (.int .i64 m)=>if m=0 then some (.lit (.bool !f.wz))else none
 |.sub,.now,.EG=>some .NM
 |.gtr,.NM,.lit (.int .i64 m)=>if m=1000000 then some (.lit (.bool f.tb))else none
 |_,_,_=>none
theorem iw{n:Int}(h0:-2147483648<=n)(h1:n<2147483648):IntKind.i32.wrap n=n:=by rw[IntKind.wrap_i32];omega
theorem jF{n:Int}(h0:0<=n)(h1:n<18446744073709551616):IntKind.u64.wrap n=n:=by simp[IntKind.wrap,IntKind.bits,IntKind.signed];omega
theorem kS{L K S:Bool}{N:Int}:8*N<=enc L K S N/\enc L K S N<=8*N+7:=by unfold enc;cases L<;>cases K<;>cases S<;>simp[Bool.toNat]<;>omega
theorem va{L K S:Bool}{N:Int}(h:0<=N):enc L K S N=0↔(L=false/\K=false/\S=false/\N=0):=by unfold enc;cases L<;>cases K<;>cases S<;>simp[Bool.toNat]<;>omega
theorem tH(a b:Int):(a==b)=decide (a=b):=by by_cases h:a=b<;>simp[h]
theorem mC{a b c:Bool}{p q:Prop}[Decidable p][Decidable q](h:q↔(a=false/\b=false/\c=false/\p)):decide q=(!a && !b && !c && decide p):=by by_cases hp:p<;>cases a<;>cases b<;>cases c<;>simp_all
set_option maxHeartbeats 1000000 in
theorem JY{P:Program}{f:Fl}{y:Sy}(hf:f.At y){op:BinOp}{t:TypeId}{a b r:SV}{x z:Value}(h:GR f op a b=some r)(ha:SR y a x)(hb:SR y b z):∃v,lT P (binOp op t x z)=some v/\SR y r v:=by
 have hN:=hf.hN;have hc:=hf.hc;unfold GR at h;split at h
 ·
  rename_i L K S δ m;obtain⟨rfl,h1,h2⟩:=ha;have hb:z=.int .i32 m:=hb;subst hb;split at h
  . rename_i hm
    simp only[Option.some.injEq]at h;subst h;refine⟨.int .i32 (bits .and .i32 (enc L K S (y.N+δ)) m),rfl,?_⟩;have e:m=(m.toNat:Int):=by omega
    show Value.int .i32 _=.int .i32 _;congr 1;rw[e];exact JX ⟨h1,by omega⟩ (by omega)
  . cases h
 ·
  rename_i L K S δ m;obtain⟨rfl,h1,h2⟩:=ha;have hb:z=.int .i32 m:=hb;subst hb;have hor:∀k:Nat,k<8->bits .or .i32 (enc L K S (y.N+δ)) (k:Int)=((8*(y.N+δ).toNat+((L.toNat+2*K.toNat+4*S.toNat)|||k):Nat):Int):=λk hk=>LV ⟨h1,by omega⟩ hk
  have ht:(((y.N+δ).toNat:Nat):Int)=y.N+δ:=Int.toNat_of_nonneg h1;split at h
  . rename_i hm;subst hm
    simp only[Option.some.injEq]at h;subst h;refine⟨.int .i32 (bits .or .i32 (enc L K S (y.N+δ)) 1),rfl,?_,h1,h2⟩;congr 1;have:=hor 1 (by omega)
    rw[show((1:Nat):Int)=1 from rfl]at this
    rw[this];unfold enc;cases L<;>cases K<;>cases S<;>simp[Bool.toNat]<;>omega
  split at h
  . rename_i hm;subst hm
    simp only[Option.some.injEq]at h;subst h;refine⟨.int .i32 (bits .or .i32 (enc L K S (y.N+δ)) 2),rfl,?_,h1,h2⟩;congr 1;have:=hor 2 (by omega)
    rw[show((2:Nat):Int)=2 from rfl]at this
    rw[this];unfold enc;cases L<;>cases K<;>cases S<;>simp[Bool.toNat]<;>omega
  split at h
  . rename_i hm;subst hm
    simp only[Option.some.injEq]at h;subst h;refine⟨.int .i32 (bits .or .i32 (enc L K S (y.N+δ)) 4),rfl,?_,h1,h2⟩;congr 1;have:=hor 4 (by omega)
    rw[show((4:Nat):Int)=4 from rfl]at this
    rw[this];unfold enc;cases L<;>cases K<;>cases S<;>simp[Bool.toNat]<;>omega
  . cases h
 ·
  rename_i L K S δ m;obtain⟨rfl,h1,h2⟩:=ha;have hb:z=.int .i32 m:=hb;subst hb;split at h
  . rename_i hm;subst hm
    simp only[Option.some.injEq]at h;subst h;refine⟨.int .i32 (bits .andNot .i32 (enc L K S (y.N+δ)) 2),rfl,?_,h1,h2⟩;rw[Ap ⟨h1,by omega⟩]
  . cases h
 ·
  rename_i L K S δ m;obtain⟨rfl,h1,h2⟩:=ha;have hb:z=.int .i32 m:=hb;subst hb;have hbd:=kS (L:=L) (K:=K) (S:=S) (N:=y.N+δ);split at h
  . rename_i hm;subst hm
    split at h
    . simp only[Option.some.injEq]at h;subst h
      refine⟨.int .i32 (IntKind.i32.wrap (enc L K S (y.N+δ)+8)),rfl,?_,by omega,by omega⟩
      rw[iw (by omega) (by omega)]
      congr 1;unfold enc;omega
    . cases h
  split at h
  . rename_i hm;subst hm
    split at h
    . rename_i hL;subst hL
      simp only[Option.some.injEq]at h;subst h;refine⟨.int .i32 (IntKind.i32.wrap (enc false K S (y.N+δ)+1)),rfl,?_,h1,h2⟩;rw[iw (by omega) (by omega)]
      congr 1;unfold enc;simp[Bool.toNat];omega
    . cases h
  . cases h
 ·
  rename_i L K S δ m;obtain⟨rfl,h1,h2⟩:=ha;have hb:z=.int .i32 m:=hb;subst hb;have hbd:=kS (L:=L) (K:=K) (S:=S) (N:=y.N+δ);split at h
  . rename_i hm
    obtain⟨rfl,rfl,hn⟩:=hm;rw[hf.n0]at hn;simp at hn;simp only[Option.some.injEq]at h;subst h;refine⟨.int .i32 (IntKind.i32.wrap (enc L K S (y.N+0)-8)),rfl,?_,by omega,by omega⟩
    rw[iw (by omega) (by omega)]
    congr 1;unfold enc;omega
  . cases h
 ·
  rename_i L K S δ m;obtain⟨rfl,h1,h2⟩:=ha;have hb:z=.int .u64 m:=hb;subst hb;have hbd:=kS (L:=L) (K:=K) (S:=S) (N:=y.N+δ);split at h
  . rename_i hm
    obtain⟨rfl,rfl⟩:=hm;simp only[Option.some.injEq]at h;subst h;refine⟨.int .i32 ((enc L K S (y.N+0)).fdiv (2 ^ 3)),rfl,?_⟩;show Value.int .i32 _=.int .i32 _;congr 1;rw[Int.fdiv_eq_ediv_of_nonneg _ (by decide)]
    omega
  . cases h
 ·
  rename_i L K S δ m;obtain⟨rfl,h1,h2⟩:=ha;have hb:z=.int .i32 m:=hb;subst hb;split at h
  . rename_i hm
    obtain⟨rfl,rfl⟩:=hm;simp only[Option.some.injEq]at h;subst h;refine⟨.bool (enc L K S (y.N+0)==0),rfl,?_⟩;show Value.bool _=.bool _;congr 1;rw[hf.n0,tH];have:=va (L:=L) (K:=K) (S:=S) h1;rw[Int.add_zero]at this ⊢;exact mC this
  . cases h
 ·
  rename_i L K S δ m;obtain⟨rfl,h1,h2⟩:=ha;have hb:z=.int .i32 m:=hb;subst hb;split at h
  . rename_i hm
    obtain⟨rfl,rfl⟩:=hm;simp only[Option.some.injEq]at h;subst h;refine⟨.bool (enc L K S (y.N+0)!=0),rfl,?_⟩;show Value.bool _=.bool _;congr 1;rw[hf.n0];have:=va (L:=L) (K:=K) (S:=S) h1;rw[Int.add_zero]at this ⊢;rw[bne,tH,mC this]
  . cases h
 ·
  rename_i m;have ha:x=.int .i32 y.N:=ha;have hb:z=.int .i32 m:=hb;subst ha;subst hb;split at h
  . rename_i hm;subst hm
    simp only[Option.some.injEq]at h;subst h;exact⟨.bool (y.N==0),rfl,by show Value.bool _=.bool _;rw[hf.n0,tH]⟩
  split at h
  . rename_i hm;subst hm
    simp only[Option.some.injEq]at h;subst h;exact⟨.bool (y.N==1),rfl,by show Value.bool _=.bool _;rw[hf.n1,tH]⟩
  . cases h
 . rename_i m
   have ha:x=.int .i32 y.N:=ha;have hb:z=.int .i32 m:=hb;subst ha;subst hb;split at h
   . rename_i hm;subst hm
     simp only[Option.some.injEq]at h;subst h;exact⟨.bool (y.N !=0),rfl,by show Value.bool _=.bool _;rw[hf.n0,bne,tH]⟩
   split at h
   . rename_i hm;subst hm
     simp only[Option.some.injEq]at h;subst h;exact⟨.bool (y.N !=1),rfl,by show Value.bool _=.bool _;rw[hf.n1,bne,tH]⟩
   . cases h
 ·
  rename_i w m;have ha:x=.int .u64 (dO y.c w):=ha;have hb:z=.int .u64 m:=hb;subst ha;subst hb
  have hg:dO y.c w=((y.c.toNat*4294967296+w:Nat):Int):=by have:((y.c.toNat:Nat):Int)=y.c:=Int.toNat_of_nonneg hc.1;rw[Int.natCast_add,Int.natCast_mul,this];rfl
  split at h
  . rename_i hm
    obtain⟨rfl,hw⟩:=hm;simp only[Option.some.injEq]at h;subst h;refine⟨.int .u64 (bits .and .u64 (dO y.c w) 2147483648),rfl,?_⟩;show Value.int .u64 _=.int .u64 _;congr 1
    have h32:bits .and .u64 (dO y.c w) 4294967295=(w:Int):=by
     have:=bits_mask .u64 64 (by decide) (λn a b=>jF a b) 32 (by omega) (dO y.c w) (by unfold dO;omega) (by unfold dO;omega)
     rw[show((2:Int) ^ 32-1)=4294967295 from rfl]at this
     rw[this];unfold dO;omega
    rw[hg,show(2147483648:Int)=((2147483648:Nat):Int)from rfl,(bits_nat .u64 64 (by decide) (λn a b=>jF a b) _ _ (by omega) (by omega)).1]
    have e:(y.c.toNat*4294967296+w) &&& 2147483648=0:=by
     apply Nat.eq_of_testBit_eq;intro i;rw[Nat.testBit_and,Nat.zero_testBit]
     have hb:(2147483648:Nat).testBit i=decide (31=i):=by have:=Nat.testBit_two_pow (n:=31) (m:=i);simpa using this
     rw[hb]
     by_cases hi:31=i
     . subst hi
       have h1:=Nat.testBit_two_pow_mul_add (i:=32) y.c.toNat (b:=w) (by omega) 31
       simp only[show 31<32 by omega,if_true]at h1
       rw[show y.c.toNat*4294967296+w=2 ^ 32*y.c.toNat+w by omega,h1]
       rw[Nat.testBit_lt_two_pow (by omega:w<2 ^ 31)];rfl
     . simp[hi]
    rw[e];rfl
  split at h
  . rename_i hm
    obtain⟨rfl,hw⟩:=hm;simp only[Option.some.injEq]at h;subst h;refine⟨.int .u64 (bits .and .u64 (dO y.c w) 2147483647),rfl,?_⟩;show Value.int .u64 _=.int .u64 _;congr 1;have:=bits_mask .u64 64 (by decide) (λn a b=>jF a b) 31 (by omega) (dO y.c w) (by unfold dO;omega) (by unfold dO;omega)
    rw[show((2:Int) ^ 31-1)=2147483647 from rfl]at this
    rw[this];unfold dO;omega
  . cases h
 ·
  rename_i w m;have ha:x=.int .u64 (dO y.c w):=ha;have hb:z=.int .u64 m:=hb;subst ha;subst hb;split at h
  . rename_i hm
    obtain⟨rfl,hw⟩:=hm;simp only[Option.some.injEq]at h;subst h;refine⟨.int .u64 ((dO y.c w).fdiv (2 ^ 32)),rfl,?_⟩;show Value.int .u64 _=.int .u64 _;congr 1;rw[Int.fdiv_eq_ediv_of_nonneg _ (by decide)]
    unfold dO;omega
  . cases h
 . rename_i m
   have ha:x=.int .i32 y.c:=ha;have hb:z=.int .i32 m:=hb;subst ha;subst hb;split at h
   . rename_i hm;subst hm
     simp only[Option.some.injEq]at h;subst h;exact⟨.bool (y.c==0),rfl,by show Value.bool _=.bool _;rw[hf.c0,tH]⟩
   split at h
   . rename_i hm;subst hm
     simp only[Option.some.injEq]at h;subst h;exact⟨.bool (y.c==1),rfl,by show Value.bool _=.bool _;rw[hf.c1,tH]⟩
   split at h
   . rename_i hm;subst hm
     simp only[Option.some.injEq]at h;subst h;refine⟨.bool (y.c==-1),rfl,?_⟩;show Value.bool _=.bool _;have:¬y.c=-1:=by omega
     rw[tH];simp[this]
   . cases h
 . rename_i m
   have ha:x=.int .i32 y.c:=ha;have hb:z=.int .i32 m:=hb;subst ha;subst hb;split at h
   . rename_i hm;subst hm
     simp only[Option.some.injEq]at h;subst h;refine⟨.bool (decide (y.c<0)),rfl,?_⟩;show Value.bool _=.bool _;have:¬y.c<0:=by omega
     simp[this]
   . cases h
 . rename_i m
   have ha:x=.int .i32 y.c:=ha;have hb:z=.int .i32 m:=hb;subst ha;subst hb;split at h
   . rename_i hm;subst hm
     simp only[Option.some.injEq]at h;subst h;refine⟨.bool (decide (y.c>0)),rfl,?_⟩;show Value.bool _=.bool _;rw[hf.c0];congr 1
     by_cases h0:y.c=0
     . simp[h0]
     . have:y.c>0:=by omega
       simp[h0,this]
   . cases h
 . rename_i w w'
   have ha:x=.int .u64 (dO y.c w):=ha;have hb:z=.int .u64 (dO y.c w'):=hb;subst ha;subst hb;split at h
   . rename_i hm;subst hm
     simp only[Option.some.injEq]at h;subst h;exact⟨.bool (dO y.c w !=dO y.c w),rfl,by show Value.bool _=.bool _;simp⟩
   . cases h
 . rename_i w m
   have ha:x=.int .u64 (dO y.c w):=ha;have hb:z=.int .u64 m:=hb;subst ha;subst hb;split at h
   . rename_i hm;subst hm
     simp only[Option.some.injEq]at h;subst h;refine⟨.bool (dO y.c w !=0),rfl,?_⟩;show Value.bool _=.bool _;rw[hf.c0];congr 1;have:dO y.c w=0↔(y.c=0/\w=0):=by unfold dO;omega
     rw[bne,tH]
     have e:decide (dO y.c w=0)=(decide (y.c=0) && decide (w=0)):=by rw[Bool.eq_iff_iff,Bool.and_eq_true,decide_eq_true_iff,decide_eq_true_iff,decide_eq_true_iff];exact this
     rw[e]
   . cases h
 . rename_i w m
   have ha:x=.int .u64 (dO y.c w):=ha;have hb:z=.int .u64 m:=hb;subst ha;subst hb;split at h
   . rename_i hm
     obtain⟨rfl,hw⟩:=hm;simp only[Option.some.injEq]at h;subst h;refine⟨.int .u64 (IntKind.u64.wrap (dO y.c w+1)),rfl,?_⟩;show Value.int .u64 _=.int .u64 _;rw[jF (by unfold dO;omega) (by unfold dO;omega)]
     congr 1;unfold dO;push_cast;omega
   . cases h
 . rename_i m
   have ha:x=.int .i64 y.ws:=ha;have hb:z=.int .i64 m:=hb;subst ha;subst hb;split at h
   . rename_i hm;subst hm
     simp only[Option.some.injEq]at h;subst h;exact⟨.bool (y.ws==0),rfl,by show Value.bool _=.bool _;rw[hf.wz,tH]⟩
   . cases h
 . rename_i m
   have ha:x=.int .i64 y.ws:=ha;have hb:z=.int .i64 m:=hb;subst ha;subst hb;split at h
   . rename_i hm;subst hm
     simp only[Option.some.injEq]at h;subst h;exact⟨.bool (y.ws !=0),rfl,by show Value.bool _=.bool _;rw[hf.wz,bne,tH]⟩
   . cases h
 . have ha:x=.int .i64 y.tn:=ha
   have hb:z=.int .i64 y.ws:=hb;subst ha;subst hb;simp only[Option.some.injEq]at h;subst h;exact⟨_,rfl,rfl⟩
 . rename_i m
   have ha:x=.int .i64 (IntKind.i64.wrap (y.tn-y.ws)):=ha;have hb:z=.int .i64 m:=hb;subst ha;subst hb;split at h
   . rename_i hm;subst hm
     simp only[Option.some.injEq]at h;subst h;exact⟨.bool (decide (IntKind.i64.wrap (y.tn-y.ws)>1000000)),rfl,by show Value.bool _=.bool _;rw[hf.tb]⟩
   . cases h
 . cases h
inductive Aq where
 |run
 |ret
def Aq.of:Aq->FrameMode
 |.run=>.run
 |.ret=>.returning
structure jf where
 fn:FuncId
 todo:List Item
 env:List SV
 defers:List Deferred
 mode:Aq
 kind:CallKind
def sv(env:List SV):Operand->SV
 |.tmp t=>env.getD t .bL
 |.const v=>.lit v
 |.global g=>.lit (.pointer (some ⟨g,0,none⟩))
 |.func f=>.lit (.func (.func f) #[] #[])
def Pq(P:Program)(f:Fl)(ρ:Operand->SV)(o:Op):Option SV:=
 match o with
 |.move x=>some (ρ x)
 |.assign x=>some (ρ x)
 |.pick c a b=>match ρ c with|.lit (.bool x)=>some (if x then ρ a else ρ b)|_=>none
 | .binOp op t x y _=>
   match GR f op (ρ x) (ρ y)with
   |some r=>some r
   | none=>match ρ x,ρ y with
     |.lit (.int k a),.lit (.int k' b)=>(lT P (binOp op t (.int k a) (.int k' b))).map .lit
     |_,_=>none
 |.unOp .not _ x=>match ρ x with|.lit (.bool b)=>some (.lit (.bool !b))|_=>none
 |.nilCheck x=>match ρ x with|.lit (.pointer (some a))=>some (.lit (.pointer (some a)))|_=>none
 |.fieldAddr s x fl=>match ρ x with|.lit (.pointer (some a))=>(lT P (Instr.fieldAt s (.pointer (some a)) fl)).map .lit|_=>none
 | .convert src dst x=>
   match ρ x with
   |.lit v=>(lT P (convert src dst v)).map .lit
   |.Ds=>match P.underlying src,P.underlying dst with|some _,some (.int .i32)=>some .EF|_,_=>none
   |_=>none
 |_=>none
theorem Ar{P:Program}{op:BinOp}{t:TypeId}{x y:Operand}{k k':IntKind}{a b:Int}:lT P (eqGuard op t x y (.int k a) (.int k' b))=some ():=by unfold eqGuard;split<;>rfl
theorem SR.int{y:Sy}{a:SV}{x:Value}(h:SR y a x)(hn:∀v,a≠.lit v)(hj:a≠.bL):∃k n,x=.int k n:=by
 cases a with
 |bL=>exact absurd rfl hj
 |lit v=>exact absurd rfl (hn v)
 |word _ _ _ _=>exact⟨_,_,h.1⟩
 |_=>exact⟨_,_,h⟩
theorem GS{f:Fl}{op:BinOp}{a b r:SV}{y:Sy}{x z:Value}(h:GR f op a b=some r)(ha:SR y a x)(hb:SR y b z):∃k n k' n',x=.int k n/\z=.int k' n':=by
 unfold GR at h
 split at h<;>first
  |(cases h;done)
  | (obtain⟨k,n,h1⟩:=ha.int (by intro v e;cases e) (by intro e;cases e)
     first
     |exact⟨k,n,_,_,h1,hb⟩
     |(obtain⟨k',n',h2⟩:=hb.int (by intro v e;cases e) (by intro e;cases e);exact⟨k,n,k',n',h1,h2⟩))
theorem yF{α:Type}{P:Program}{s:Sem α}{g:α->SV}{r:SV}(h:(lT P s).map g=some r):∃a,lT P s=some a/\r=g a:=by
 cases q:lT P s with
 |none=>rw[q]at h;simp at h
 |some a=>rw[q]at h;simp at h;exact⟨a,rfl,h.symm⟩
theorem oR{P:Program}{s:Sem Value}{v:Value}(h:lT P s=some v):lT P (do pure (.value (<-s)):Sem Next)=some (.value v):=by
 show lT P (Sem.bind s λa=>(pure (Next.value a):Sem Next))=_;rw[kR s h];rfl
theorem LW{P:Program}{f:Fl}{y:Sy}(hf:f.At y){ρ:Operand->SV}{ρ':Operand->Value}{o:Oper}{r:SV}(h:Pq P f ρ o.op=some r)(hρ:∀x,SR y (ρ x) (ρ' x)):∃v,lT P (execOp ρ' o)=some (.value v)/\SR y r v:=by
 unfold Pq at h;split at h
 . rename_i x e
   simp only[Option.some.injEq]at h;subst h;exact⟨ρ' x,by simp[execOp,e];rfl,hρ x⟩
 . rename_i x e
   simp only[Option.some.injEq]at h;subst h;exact⟨ρ' x,by simp[execOp,e];rfl,hρ x⟩
 . rename_i c a b e
   split at h
   . rename_i x hx
     simp only[Option.some.injEq]at h;subst h;have hc:=hρ c;rw[hx]at hc;have hc:ρ' c=.bool x:=hc;refine⟨if x then ρ' a else ρ' b,?_,?_⟩
     . simp only[execOp,e,hc]
       cases x<;>rfl
     . cases x
       . exact hρ b
       . exact hρ a
   . cases h
 . rename_i op t x z nl e
   have key:∀{k n k' n'},ρ' x=.int k n->ρ' z=.int k' n'->∀{v},lT P (binOp op t (.int k n) (.int k' n'))=some v->lT P (execOp ρ' o)=some (.value v):=by
    intro k n k' n' h1 h2 v hv;have:execOp ρ' o=(do pure (.value (<-(do eqGuard op t x z (ρ' x) (ρ' z);binOp op t (ρ' x) (ρ' z)))):Sem Next):=by simp only[execOp,e]
    rw[this,h1,h2];refine oR ?_;show lT P ((eqGuard op t x z (.int k n) (.int k' n')).bind λ_=>binOp op t (.int k n) (.int k' n'))=_
    rw[kR _ Ar];exact hv
   split at h
   . rename_i r' hs
     simp only[Option.some.injEq]at h;subst h;obtain⟨k,n,k',n',h1,h2⟩:=GS hs (hρ x) (hρ z);obtain⟨v,hv,hr⟩:=JY (P:=P) hf (t:=t) hs (hρ x) (hρ z);rw[h1,h2]at hv;exact⟨v,key h1 h2 hv,hr⟩
   . split at h
     . rename_i k a k' b hx hz
       obtain⟨v,hv,rfl⟩:=yF h;have h1:=hρ x;have h2:=hρ z;rw[hx]at h1;rw[hz]at h2;exact⟨v,key h1 h2 hv,rfl⟩
     . cases h
 . rename_i t x e
   split at h
   . rename_i b hx
     simp only[Option.some.injEq]at h;subst h;have h1:=hρ x;rw[hx]at h1;have h1:ρ' x=.bool b:=h1;exact⟨.bool !b,by simp only[execOp,e,h1];rfl,rfl⟩
   . cases h
 . rename_i x e
   split at h
   . rename_i a hx
     simp only[Option.some.injEq]at h;subst h;have h1:=hρ x;rw[hx]at h1;have h1:ρ' x=.pointer (some a):=h1;exact⟨_,by simp only[execOp,e,h1];rfl,rfl⟩
   . cases h
 . rename_i s x fl e
   split at h
   . rename_i a hx
     obtain⟨v,hv,rfl⟩:=yF h;have h1:=hρ x;rw[hx]at h1;have h1:ρ' x=.pointer (some a):=h1;refine⟨v,?_,rfl⟩;simp only[execOp,e,h1];exact oR hv
   . cases h
 . rename_i src dst x e
   split at h
   . rename_i u hx
     obtain⟨v,hv,rfl⟩:=yF h;have h1:=hρ x;rw[hx]at h1;have h1:ρ' x=u:=h1;refine⟨v,?_,rfl⟩;simp only[execOp,e,h1];exact oR hv
   . rename_i hx
     split at h
     . rename_i d hs hd
       simp only[Option.some.injEq]at h;subst h;have h1:=hρ x;rw[hx]at h1;have h1:ρ' x=.int .u64 y.c:=h1;refine⟨.int .i32 y.c,?_,rfl⟩;simp only[execOp,e,h1];refine oR ?_
       have e1:lT P (underlying src)=some d:=by unfold underlying;show lT P (Sem.bind program _)=_;rw[kR program (a:=P) rfl,hs];rfl
       have e2:lT P (underlying dst)=some (.int .i32):=by unfold underlying;show lT P (Sem.bind program _)=_;rw[kR program (a:=P) rfl,hd];rfl
       unfold convert;show lT P (Sem.bind (underlying src) _)=_;rw[kR _ e1];show lT P (Sem.bind (underlying dst) _)=_;rw[kR _ e2];have hw:IntKind.i32.wrap y.c=y.c:=iw (by have:=hf.hc;omega) (by have:=hf.hc;omega)
       show some (Value.int .i32 (IntKind.i32.wrap y.c))=_;rw[hw]
     . cases h
   . cases h
 . cases h
def xh(ops:Array Oper)(env:List SV)(o:Oper):Option Bool:=
 match o.guard with
 |none=>some true
 | some (j,b)=>match (ops[j]?).bind (·.dst)with
   | some d=>match env.getD d .bL with
     |.lit (.bool x)=>some (x==b)
     |_=>none
   |none=>none
def vb(fr:jf)(v:SV):Option jf:=
 match fr.todo with
 |.inRegion ops (i::rest)::k=>some {fr with env:=(match (ops[i]?).bind (·.dst)with|some d=>fr.env.set d v|none=>fr.env),todo:=.inRegion ops rest::k}
 |_=>none
def NN(fn:Func)(env:List SV):Option SV:=
 match fn.results.toList with
 |[]=>some (.lit (.tuple #[]))
 |[.tmp t]=>some (env.getD t .bL)
 |_=>none
def K6(P:Program)(env:List SV)(c:Call):Option jf:=
 match c.callee with
 | .value (.func g)=>match P.funcs[g]? with
   | some fn=>match fn.body with
     |some body=>if fn.name= "runtime.NumGoroutine" then none else some {fn:=g,todo:=[.code body],env:=c.args.toList.map (sv env)++List.replicate (fn.ntmps-c.args.size) .bL,defers:=[],mode:=.run,kind:=.normal}
     |none=>none
   |none=>none
 |_=>none
def GT(c:Call):Option Deferred:=
 match c.callee with
 |.value (.func g)=>if c.args=#[]then some {target:=.fn (.func g) #[],args:=#[]}else none
 |_=>none
def ss(P : Program)(f:Fl)(fr:jf)(st:List jf):Option (jf × List jf):=
 match fr.mode with
 | .ret=>match st with
   |[]=>none
   | c ::st'=>match fr.defers,fr.kind,P.funcs[fr.fn]? with
     | [],.normal,some fn=>match NN fn fr.env with
       |some v=>(vb c v).map (·,st')
       |none=>none
     |_,_,_=>none
 | .run => match fr.todo with
   |[]=>some ({fr with mode:=.ret},st)
   |.code .ret::_=>some ({fr with mode:=.ret},st)
   |.code .skip::k=>some ({fr with todo:=k},st)
   |.inBlock _::k=>some ({fr with todo:=k},st)
   |.inScope _::k=>some ({fr with todo:=k},st)
   |.inRegion _ []::k=>some ({fr with todo:=k},st)
   |.code (.seq a b)::k=>some ({fr with todo:=.code a::.code b::k},st)
   |.code (.block id c)::k=>some ({fr with todo:=.code c::.inBlock id::k},st)
   |.code (.scope c)::k=>some ({fr with todo:=.code c::.inScope c::k},st)
   |.code (.loop c)::k=>some ({fr with todo:=.code c::.inLoop c::k},st)
   |.inLoop c::k=>some ({fr with todo:=.code c::.inLoop c::k},st)
   |.code (.exit id)::k=>(exitTo id k).map λk'=>({fr with todo:=k'},st)
   | .code (.cond c a b)::k=>match sv fr.env c with
     |.lit (.bool x)=>some ({fr with todo:=.code (if x then a else b)::k},st)
     |_=>none
   |.code (.region id ops false)::k=>some ({fr with todo:=.inRegion ops (List.range ops.size)::k},st)
   | .inRegion ops (i::rest)::k=>match ops[i]? with
     |none=>none
     | some o=>match xh ops fr.env o with
       |none=>none
       |some false=>(vb fr .bL).map (·,st)
       | some true=>match o.op with
         |.call c=>(K6 P fr.env c).map (·,fr::st)
         | .defer c=>match GT c with
           |some d=>(vb fr .bL).map λs=>({s with defers:=d::s.defers},st)
           |none=>none
         | op=>match Pq P f (sv fr.env) op with
           |some v=>(vb fr v).map (·,st)
           |none=>none
   |_=>none
def sgo(P:Program)(f:Fl):Nat->jf->List jf->jf × List jf
 |0,fr,st=>(fr,st)
 | n+1,fr,st=>match ss P f fr st with
   |some (fr',st')=>sgo P f n fr' st'
   |none=>(fr,st)
structure FR(y:Sy)(s:jf)(fr:Frame):Prop where
 fn:fr.fn=s.fn
 todo:fr.todo=s.todo
 defers:fr.defers=s.defers
 mode:fr.mode=s.mode.of
 kind:fr.kind=s.kind
 ro:fr.roundOf=none
 size:fr.tmps.size=s.env.length
 env:∀t,SR y (s.env.getD t .bL) (fr.tmps.getD t undef)
def lf(y:Sy):List jf->List Frame->Prop
 |[],[]=>True
 |s::ss,f::fs=>FR y s f/\lf y ss fs
 |_,_=>False
def qd(P:Program)(Wd:World->Prop)(g g':Goroutine):Prop:=g.status=.running/\∀main w,Wd w->stepG P main g w=.go g' w #[]
def jG(P:Program)(Wd:World->Prop):Nat->Goroutine->Goroutine->Prop
 |0,g,g'=>g=g'
 |n+1,g,g'=>∃g1,qd P Wd g g1/\jG P Wd n g1 g'
def qU(P:Program)(Wd:World->Prop)(g g':Goroutine):Prop:=∃n,jG P Wd n g g'
theorem jG.trans{P:Program}{Wd:World->Prop}:∀{n m:Nat}{a b c:Goroutine},jG P Wd n a b->jG P Wd m b c->jG P Wd (n+m) a c
 |0,m,a,b,c,h,h'=>by obtain rfl:=h;rw[Nat.zero_add];exact h'
 | n+1,m,a,b,c,h,h'=>by
   obtain⟨g1,h1,h2⟩:=h;rw[show n+1+m=(n+m)+1 by omega];exact⟨g1,h1,h2.trans h'⟩
theorem qU.trans{P:Program}{Wd:World->Prop}{a b c:Goroutine}(h:qU P Wd a b)(h':qU P Wd b c):qU P Wd a c:=let ⟨n,h⟩:=h;let ⟨m,h'⟩:=h';⟨n+m,h.trans h'⟩
theorem qd.xi{P:Program}{Wd:World->Prop}{a b:Goroutine}(h:qd P Wd a b):qU P Wd a b:=⟨1,b,h,rfl⟩
theorem FR.sv{y:Sy}{s:jf}{fr:Frame}(h:FR y s fr)(x:Operand):SR y (sv s.env x) (fr.eval x):=by
 cases x with
 |tmp t=>exact h.env t
 |const v=>rfl
 |global g=>rfl
 |func f=>rfl
theorem FR.fin{y:Sy}{s s':jf}{fr:Frame}{v:SV}{x:Value}(h:FR y s fr)(hs:vb s v=some s')(hv:SR y v x):FR y s' (fr.finish x):=by
 obtain⟨fn,tmps,todo,defs,mode,kind,ro⟩:=fr;obtain⟨h1,h2,h3,h4,h5,h6,h7,h8⟩:=h;simp only at h1 h2 h3 h4 h5 h6 h7 h8;subst h2;unfold vb at hs;split at hs
 . rename_i ops i rest k e
   simp only[Option.some.injEq]at hs;subst hs;simp only[Frame.finish,e];refine⟨h1,rfl,h3,h4,h5,h6,?_,λt=>?_⟩
   . cases q:(ops[i]?).bind (·.dst)with
     |none=>simpa[q]using h7
     |some d=>simpa[q]using h7
   . cases q:(ops[i]?).bind (·.dst)with
     |none=>simpa[q]using h8 t
     | some d=>
       simp only
       by_cases e2:d=t
       . subst e2
         by_cases hd:d<tmps.size
         . have e3:(tmps.setIfInBounds d x).getD d undef=x:=by simp[Array.getD,hd]
           have e4:(s.env.set d v).getD d .bL=v:=by have hd':d<s.env.length:=h7 ▸ hd;rw[List.getD_eq_getElem?_getD,List.getElem?_set_self hd'];rfl
           rw[e3,e4];exact hv
         . have e4:(s.env.set d v).getD d .bL=.bL:=by
            have hd':s.env.length<=d:=by rw[<-h7];exact Nat.le_of_not_lt hd
            rw[List.getD_eq_getElem?_getD,List.getElem?_eq_none (by rw[List.length_set];exact hd')];rfl
           rw[e4];trivial
       . have e3:(tmps.setIfInBounds d x).getD t undef=tmps.getD t undef:=by
          simp only[Array.getD_eq_getD_getElem?];rw[Array.getElem?_setIfInBounds_ne e2]
         have e4:(s.env.set d v).getD t .bL=s.env.getD t .bL:=by rw[List.getD_eq_getElem?_getD,List.getD_eq_getElem?_getD,List.getElem?_set_ne e2]
         rw[e3,e4];exact h8 t
 . cases hs
theorem n8{y:Sy}{s:jf}{fr:Frame}{ops:Array Oper}{o:Oper}{b:Bool}(h:FR y s fr)(hs:xh ops s.env o=some b):Region.wanted o (yielded ops fr.tmps)=b:=by
 unfold xh at hs;unfold Region.wanted;cases hg:o.guard with
 |none=>rw[hg]at hs;simpa using hs
 | some p=>
   obtain⟨j,c⟩:=p;rw[hg]at hs;simp only at hs ⊢;cases hj:ops[j]? with
   |none=>rw[hj]at hs;simp at hs
   | some oj=>
     rw[hj]at hs;cases hd:oj.dst with
     |none=>simp[hd]at hs
     | some d=>
       simp only[Option.bind_some,hd]at hs;have he:=h.env d;split at hs
       . rename_i x hx
         rw[hx]at he;have he:fr.tmps.getD d undef=.bool x:=he
         have hlt:fr.tmps[d]?=some (.bool x):=by
          by_cases hlt:d<fr.tmps.size
          . simp[Array.getD,hlt]at he
            simp[hlt,he]
          . simp[Array.getD,hlt,undef]at he
         simp only[Option.some.injEq]at hs;simp[yielded,hj,hd,hlt,hs]
       . cases hs
theorem lf.kg{y:Sy}{fs:List Frame}(h:lf y [] fs):fs=[]:=by cases fs with|nil=>rfl|cons _ _=>exact h.elim
theorem lf.cons_inv{y:Sy}{s:jf}{l:List jf}{fs:List Frame}(h:lf y (s::l) fs):∃f fs',fs=f::fs'/\FR y s f/\lf y l fs':=by
 cases fs with
 |nil=>exact h.elim
 |cons f fs'=>exact⟨f,fs',rfl,h.1,h.2⟩
theorem fV{P:Program}{fn:FuncId}:seen P fn #[]=#[]:=rfl
theorem apply_pure{P:Program}{fr:Frame}{cs:List Frame}{s:Sem Next}{n:Next}(h:lT P s=some n)(w:World):stepG.apply P true fr cs none s w=stepG.apply P true fr cs none (pure n) w:=by have h1:=GQ s h w #[];have h2:(pure n:Sem Next).runT P w #[]=(.ok n w,#[]):=rfl;simp only[stepG.apply,if_true,h1,h2]
theorem mD{P:Program}{main:Bool}{fid:FuncId}{k:List Item}{ops:Array Oper}{i:Nat}{rest:List Nat}{o:Oper}{tmps:Array Value}{defs:List Deferred}{kind:CallKind}{cs:List Frame}(ho:ops[i]?=some o)(hw:Region.wanted o (yielded ops tmps)=true)(w:World):
 stepG P main (G ⟨fid,tmps,.inRegion ops (i::rest)::k,defs,.run,kind,none⟩ cs) w=
  stepG.apply P true ⟨fid,tmps,.inRegion ops (i::rest)::k,defs,.run,kind,none⟩ cs none (execOp (Frame.eval ⟨fid,tmps,.inRegion ops (i::rest)::k,defs,.run,kind,none⟩) o) w:=by
 simp only[G,stepG,stepG.exec,stepG.oper,Frame.oper?,ho,hw,Option.map_some,Option.getD_some,if_true]
theorem GU{P:Program}{main:Bool}{fid:FuncId}{k:List Item}{ops:Array Oper}{i:Nat}{rest:List Nat}{o:Oper}{tmps:Array Value}{defs:List Deferred}{kind:CallKind}{cs:List Frame}(ho:ops[i]?=some o)(hw:Region.wanted o (yielded ops tmps)=false)(w:World):
 stepG P main (G ⟨fid,tmps,.inRegion ops (i::rest)::k,defs,.run,kind,none⟩ cs) w=.go (G (Frame.finish ⟨fid,tmps,.inRegion ops (i::rest)::k,defs,.run,kind,none⟩ undef) cs) w #[]:=by
 have h:((ops[i]?).map (Region.wanted · (yielded ops tmps))).getD false=false:=by simp[ho,hw]
 simp only[G,stepG,stepG.exec,h];rfl
theorem wp{P:Program}{ρ:Operand->Value}{o:Oper}{c:Call}{g:FuncId}{fn:Func}{body:Code}(ho:o.op=.call c)(hc:c.callee=.value (.func g))(hg:P.funcs[g]?=some fn)(hb:fn.body=some body)(hnm:fn.name≠ "runtime.NumGoroutine")(hρ:ρ (.func g)=.func (.func g) #[] #[]):
 lT P (execOp ρ o)=some (.enter g (c.args.map ρ)):=by
 simp only[execOp,ho,resolve,hc,hρ,Deferred.ofValue];show lT P (callFunc g ((#[]++c.args.map ρ)++#[]))=_;unfold callFunc;show lT P (Sem.bind program _)=_;rw[kR program (a:=P) rfl];simp[hg,hb,hnm];rfl
theorem K7{P:Program}{Wd:World->Prop}{f:Fl}{y:Sy}(hf:f.At y){s s':jf}{st st':List jf}{fr:Frame}{frs:List Frame}(h:ss P f s st=some (s',st'))(hr:FR y s fr)(hrs:lf y st frs):
 ∃fr' frs',FR y s' fr'/\lf y st' frs'/\∀cs,qd P Wd (G fr (frs++cs)) (G fr' (frs'++cs)):=by
 have hr0:=hr;obtain⟨fn,tmps,todo,defs,mode,kind,ro⟩:=fr;obtain⟨h1,h2,h3,h4,h5,h6,h7,h8⟩:=hr;simp only at h1 h2 h3 h4 h5 h6 h7 h8;subst h6;unfold ss at h;split at h
 ·
  rename_i hm;rw[hm]at h4;have h4:mode=.returning:=h4;subst h4;split at h
  . cases h
  rename_i c st'';split at h
  . rename_i fn' hd hk hfn
    obtain⟨fc,frs',rfl,hc,hcs⟩:=hrs.cons_inv;split at h
    . rename_i v hv
      obtain⟨c',hc',e⟩:=Option.map_eq_some_iff.1 h;simp only[Prod.mk.injEq]at e;obtain⟨rfl,rfl⟩:=e
      have hval:∃x,SR y v x/\∀w,(results fn' tmps).runT P w #[]=(.ok x w,#[]):=by
       unfold NN at hv;split at hv
       . rename_i hl
         simp only[Option.some.injEq]at hv;subst hv;have hl:fn'.results=#[]:=by apply Array.ext';simpa using hl
         exact⟨.tuple #[],rfl,λw=>by simp[results,hl]⟩
       . rename_i t hl
         simp only[Option.some.injEq]at hv;subst hv;have hl:fn'.results=#[.tmp t]:=by apply Array.ext';simpa using hl
         exact⟨tmps.getD t undef,h8 t,λw=>by simp[results,hl]⟩
       . cases hv
      obtain⟨x,hx1,hx2⟩:=hval;refine⟨fc.finish x,frs',hc.fin hc' hx1,hcs,λcs=>⟨rfl,λmain w _=>?_⟩⟩;rw[hd]at h3;rw[hk]at h5;subst h3;subst h5;subst h1;have e1:(results fn' tmps).run P w=.ok x w:=by have:=congrArg Prod.fst (hx2 w);simpa using this
      have e2:(results fn' tmps).events P w #[]=#[]:=by have:=congrArg Prod.snd (hx2 w);simpa using this
      simp[G,stepG,unwind,hfn,e1,e2,doReturn,GStep.after,fV]
    . cases h
  . cases h
 . rename_i hm
   rw[hm]at h4;have h4:mode=.run:=h4;subst h4
   have ctl:∀todo':List Item,(∀main cs w,stepG P main (G ⟨fn,tmps,todo,defs,.run,kind,none⟩ (frs++cs)) w=.go (G ⟨fn,tmps,todo',defs,.run,kind,none⟩ (frs++cs)) w #[])->some ({s with todo:=todo'},st)=some (s',st') ->
    ∃fr' frs',FR y s' fr'/\lf y st' frs'/\∀cs,qd P Wd (G ⟨fn,tmps,todo,defs,.run,kind,none⟩ (frs++cs)) (G fr' (frs'++cs)):=λtodo' hs e=>by
    simp only[Option.some.injEq,Prod.mk.injEq]at e;obtain⟨rfl,rfl⟩:=e;exact⟨_,frs,⟨h1,rfl,h3,by rw[hm];rfl,h5,rfl,h7,h8⟩,hrs,λcs=>⟨rfl,λmain w _=>hs main cs w⟩⟩
   have ret:(∀main cs w,stepG P main (G ⟨fn,tmps,todo,defs,.run,kind,none⟩ (frs++cs)) w=.go (G ⟨fn,tmps,todo,defs,.returning,kind,none⟩ (frs++cs)) w #[])->some ({s with mode:=.ret},st)=some (s',st') ->
    ∃fr' frs',FR y s' fr'/\lf y st' frs'/\∀cs,qd P Wd (G ⟨fn,tmps,todo,defs,.run,kind,none⟩ (frs++cs)) (G fr' (frs'++cs)):=λhs e=>by
    simp only[Option.some.injEq,Prod.mk.injEq]at e;obtain⟨rfl,rfl⟩:=e;exact⟨_,frs,⟨h1,h2,h3,rfl,h5,rfl,h7,h8⟩,hrs,λcs=>⟨rfl,λmain w _=>hs main cs w⟩⟩
   split at h
   . rename_i ht;rw[ht]at h2;subst h2
     exact ret (λ_ _ _=>by simp[G,stepG,stepG.exec]) h
   . rename_i ht;rw[ht]at h2;subst h2
     exact ret (λ_ _ _=>by simp[G,stepG,stepG.exec]) h
   . rename_i ht;rw[ht]at h2;subst h2
     exact ctl _ (λ_ _ _=>by simp[G,stepG,stepG.exec]) h
   . rename_i ht;rw[ht]at h2;subst h2
     exact ctl _ (λ_ _ _=>by simp[G,stepG,stepG.exec]) h
   . rename_i ht;rw[ht]at h2;subst h2
     exact ctl _ (λ_ _ _=>by simp[G,stepG,stepG.exec]) h
   . rename_i ht;rw[ht]at h2;subst h2
     exact ctl _ (λ_ _ _=>by simp[G,stepG,stepG.exec]) h
   . rename_i ht;rw[ht]at h2;subst h2
     exact ctl _ (λ_ _ _=>by simp[G,stepG,stepG.exec]) h
   . rename_i ht;rw[ht]at h2;subst h2
     exact ctl _ (λ_ _ _=>by simp[G,stepG,stepG.exec]) h
   . rename_i ht;rw[ht]at h2;subst h2
     exact ctl _ (λ_ _ _=>by simp[G,stepG,stepG.exec]) h
   . rename_i ht;rw[ht]at h2;subst h2
     exact ctl _ (λ_ _ _=>by simp[G,stepG,stepG.exec]) h
   . rename_i ht;rw[ht]at h2;subst h2
     exact ctl _ (λ_ _ _=>by simp[G,stepG,stepG.exec]) h
   . rename_i id k ht;rw[ht]at h2;subst h2
     obtain⟨k',he,e⟩:=Option.map_eq_some_iff.1 h;exact ctl k' (λ_ _ _=>by simp[G,stepG,stepG.exec,he]) (by rw[e])
   . rename_i c a b k ht;rw[ht]at h2;subst h2
     split at h
     . rename_i x hx
       have hv:=hr0.sv c;rw[hx]at hv;have hv:Frame.eval ⟨fn,tmps,.code (.cond c a b)::k,defs,.run,kind,none⟩ c=.bool x:=hv;exact ctl _ (λ_ _ _=>by simp[G,stepG,stepG.exec,hv]) h
     . cases h
   . rename_i ht;rw[ht]at h2;subst h2
     exact ctl _ (λ_ _ _=>by simp[G,stepG,stepG.exec]) h
   . rename_i ops i rest k ht;rw[ht]at h2;subst h2
     split at h
     . cases h
     . rename_i o ho
       split at h
       . cases h
       . rename_i hw
         obtain⟨c',hc',e⟩:=Option.map_eq_some_iff.1 h;simp only[Prod.mk.injEq]at e;obtain⟨rfl,rfl⟩:=e;exact⟨_,frs,hr0.fin hc' trivial,hrs,λcs=>⟨rfl,λmain w _=>GU ho (n8 hr0 hw) w⟩⟩
       . rename_i hw
         have hw':=n8 hr0 hw;split at h
         . rename_i c hop
           obtain⟨c',hc',e⟩:=Option.map_eq_some_iff.1 h;simp only[Prod.mk.injEq]at e;obtain⟨rfl,rfl⟩:=e;unfold K6 at hc';split at hc'
           . rename_i g hcal
             split at hc'
             . rename_i fn' hfn
               split at hc'
               . rename_i body hbody
                 split at hc'
                 . cases hc'
                 rename_i hnm;simp only[Option.some.injEq]at hc';subst hc';refine⟨Frame.enter P g (c.args.map (Frame.eval ⟨fn,tmps,.inRegion ops (i::rest)::k,defs,.run,kind,none⟩)) .normal,⟨fn,tmps,.inRegion ops (i::rest)::k,defs,.run,kind,none⟩::frs,?_,⟨hr0,hrs⟩,λcs=>⟨rfl,λmain w _=>?_⟩⟩
                 . refine⟨rfl,by simp[Frame.enter,hfn,hbody],rfl,rfl,rfl,rfl,by simp[Frame.enter,hfn],λt=>?_⟩
                   simp only[Frame.enter,hfn,Option.map_some,Option.getD_some];rw[Array.getD_eq_getD_getElem?,List.getD_eq_getElem?_getD];by_cases ht:t<c.args.size
                   . rw[Array.getElem?_append_left (by simpa using ht),List.getElem?_append_left (by simpa using ht)]
                     simp only[Array.getElem?_map,List.getElem?_map,Array.getElem?_toList];rw[Array.getElem?_eq_getElem ht];exact hr0.sv _
                   . rw[Array.getElem?_append_right (by simp;omega),List.getElem?_append_right (by simp;omega)]
                     simp only[List.length_map,Array.length_toList,List.getElem?_replicate];split<;>trivial
                 . rw[mD ho hw',apply_pure (wp hop hcal hfn hbody hnm rfl)]
                   simp only[stepG.apply,if_true,GStep.after];have hrun:(pure (.enter g (c.args.map (Frame.eval ⟨fn,tmps,.inRegion ops (i::rest)::k,defs,.run,kind,none⟩))):Sem Next).runT P w #[]=(.ok (.enter g (c.args.map (Frame.eval ⟨fn,tmps,.inRegion ops (i::rest)::k,defs,.run,kind,none⟩))) w,#[]):=rfl;simp only[hrun,ite_self,fV,G,List.cons_append];rfl
               . cases hc'
             . cases hc'
           . cases hc'
         . rename_i c hop
           split at h
           . rename_i d hd
             obtain⟨c',hc',e⟩:=Option.map_eq_some_iff.1 h;simp only[Prod.mk.injEq]at e;obtain⟨rfl,rfl⟩:=e
             have hx:lT P (execOp (Frame.eval ⟨fn,tmps,.inRegion ops (i::rest)::k,defs,.run,kind,none⟩) o)=some (.defer d):=by
              unfold GT at hd;split at hd
              . rename_i g hg
                split at hd
                . rename_i ha
                  simp only[Option.some.injEq]at hd;subst hd;have em:(#[]:Array Operand).map (Frame.eval ⟨fn,tmps,.inRegion ops (i::rest)::k,defs,.run,kind,none⟩)=#[]:=by simp
                  simp only[execOp,hop,resolve,hg,ha,em];rfl
                . cases hd
              . cases hd
             have hfin:=hr0.fin (x:=undef) hc' trivial;have e1:Frame.finish ⟨fn,tmps,.inRegion ops (i::rest)::k,d::defs,.run,kind,none⟩ undef={Frame.finish ⟨fn,tmps,.inRegion ops (i::rest)::k,defs,.run,kind,none⟩ undef with defers:=d::(Frame.finish ⟨fn,tmps,.inRegion ops (i::rest)::k,defs,.run,kind,none⟩ undef).defers}:=rfl;refine⟨{Frame.finish ⟨fn,tmps,.inRegion ops (i::rest)::k,defs,.run,kind,none⟩ undef with defers:=d::(Frame.finish ⟨fn,tmps,.inRegion ops (i::rest)::k,defs,.run,kind,none⟩ undef).defers},frs,⟨hfin.fn,hfin.todo,congrArg (List.cons d) hfin.defers,hfin.mode,hfin.kind,hfin.ro,hfin.size,hfin.env⟩,hrs,λcs=>⟨rfl,λmain w _=>?_⟩⟩;rw[mD ho hw',apply_pure hx];have hrun:(pure (.defer d):Sem Next).runT P w #[]=(.ok (.defer d) w,#[]):=rfl;simp only[stepG.apply,if_true,hrun,ite_self,fV,GStep.after,G];rw[e1];rfl
           . cases h
         . rename_i hnc hnd
           split at h
           . rename_i v hv
             obtain⟨c',hc',e⟩:=Option.map_eq_some_iff.1 h;simp only[Prod.mk.injEq]at e;obtain⟨rfl,rfl⟩:=e;obtain⟨x,hx,hxv⟩:=LW hf (ρ':=Frame.eval ⟨fn,tmps,.inRegion ops (i::rest)::k,defs,.run,kind,none⟩) hv (λz=>hr0.sv z);refine⟨_,frs,hr0.fin hc' hxv,hrs,λcs=>⟨rfl,λmain w _=>?_⟩⟩;rw[mD ho hw',apply_pure hx];have hrun:(pure (.value x):Sem Next).runT P w #[]=(.ok (.value x) w,#[]):=rfl;simp only[stepG.apply,if_true,hrun,ite_self,fV,GStep.after,G];rfl
           . cases h
   . cases h
theorem kT{P:Program}{Wd:World->Prop}{f:Fl}{y:Sy}(hf:f.At y):∀(n:Nat){s:jf}{st:List jf}{fr:Frame}{frs:List Frame},FR y s fr->lf y st frs ->
 ∃m fr' frs',FR y (sgo P f n s st).1 fr'/\lf y (sgo P f n s st).2 frs'/\∀cs,jG P Wd m (G fr (frs++cs)) (G fr' (frs'++cs))
 |0,s,st,fr,frs,hr,hrs=>⟨0,fr,frs,hr,hrs,λ_=>rfl⟩
 | n+1,s,st,fr,frs,hr,hrs=>by
   unfold sgo;cases e:ss P f s st with
   |none=>exact⟨0,fr,frs,hr,hrs,λ_=>rfl⟩
   |some p=>obtain⟨s',st'⟩:=p;obtain⟨fr',frs',h1,h2,h3⟩:=K7 hf e hr hrs;obtain⟨m,fr2,frs2,h4,h5,h6⟩:=kT hf n h1 h2;exact⟨m+1,fr2,frs2,h4,h5,λcs=>⟨_,h3 cs,h6 cs⟩⟩
end Go.aN
