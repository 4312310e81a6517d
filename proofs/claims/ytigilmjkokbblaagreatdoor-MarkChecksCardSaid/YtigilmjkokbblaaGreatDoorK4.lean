/- Part 4 of the proof. -/
import Derived.Test.YtigilmjkokbblaaGreatDoorK3
set_option linter.all false
namespace Go.Proofs.YtigilmjkokbblaaGreatDoor
open Go.bd
abbrev XO:List Entry:=[⟨19,.take [0,1,2,3,4,5,6,7] false (.one 8 (.take [9,10,11,12,13] true (.done)))⟩,⟨21,.take [0,1,2,3,4,5,6,7] false (.one 8 (.take [9,10,11,12,13] true (.done)))⟩,⟨28,.take [0,1,2,3,4,5,6,7,8] false (.one 9 (.take [10,11,12,13,14] true (.done)))⟩,⟨29,.take [0,1,2,3,4,5,6,7,8,9,10,11] false (.one 12 (.take [13,14,15,16,17] true (.done)))⟩,⟨32,.take [0,2,3,4,5] false (.one 1 (.one 6 (.take [7,8,9,10,11,12,13] false (.one 14 (.take [15,16] true (.done))))))⟩]
abbrev XP:List Entry:=[⟨2,.take [0,1,3,4,5] false (.one 2 (.one 6 (.one 7 (.take [8] true (.done)))))⟩]
abbrev XQ:List Entry:=[⟨1,.take [0,1,3,4,5,6,7,8] false (.both 2 (.both 9 (.one 10 (.one 11 (.done))) (.one 10 (.one 9 (.one 11 (.done))))) (.one 10 (.one 2 (.one 9 (.one 11 (.done))))))⟩,⟨5,.take [0,2,3,4,5,6,10] false (.both 1 (.one 7 (.one 8 (.one 9 (.one 11 (.done))))) (.one 7 (.both 1 (.one 8 (.one 9 (.one 11 (.done)))) (.one 8 (.take [1] true (.one 9 (.one 11 (.done))))))))⟩]
abbrev UA:List Entry:=[⟨5,.take [0,1,2,3,4,5,6,7,8,9,10,11,12,13] true (.done)⟩]
abbrev UB:List Entry:=[⟨15,.take [0,1,2,3,4,5] false (.one 6 (.take [7] true (.done)))⟩]
abbrev UF:List Entry:=[⟨19,.take [0,2,3,4,6,7,11] false (.both 1 (.both 5 (.one 8 (.one 9 (.take [10] true (.one 12 (.done))))) (.one 8 (.one 5 (.one 9 (.take [10] true (.one 12 (.done))))))) (.both 5 (.both 1 (.one 8 (.one 9 (.take [10] true (.one 12 (.done))))) (.one 8 (.both 1 (.one 9 (.take [10] true (.one 12 (.done)))) (.one 9 (.take [1,10] true (.one 12 (.done))))))) (.one 8 (.both 1 (.one 5 (.one 9 (.take [10] true (.one 12 (.done))))) (.one 5 (.both 1 (.one 9 (.take [10] true (.one 12 (.done)))) (.one 9 (.take [1,10] true (.one 12 (.done))))))))))⟩]
abbrev UG:List Entry:=[⟨7,.take [0,2,6] false (.both 1 (.one 3 (.one 4 (.one 5 (.one 7 (.done))))) (.one 3 (.both 1 (.one 4 (.one 5 (.one 7 (.done)))) (.one 4 (.take [1] true (.one 5 (.one 7 (.done))))))))⟩,⟨15,.take [0,2,5,6,8,11,12,13] false (.both 1 (.take [3,4,14] false (.one 7 (.take [9,10,16] false (.one 15 (.one 17 (.done)))))) (.one 7 (.take [9,10,16] false (.take [1,3,4,14] true (.one 15 (.one 17 (.done)))))))⟩,⟨21,.take [0,2,3,7] false (.both 1 (.one 4 (.one 5 (.one 6 (.one 8 (.done))))) (.one 4 (.both 1 (.one 5 (.one 6 (.one 8 (.done)))) (.one 5 (.take [1] true (.one 6 (.one 8 (.done))))))))⟩]
abbrev UH:List Entry:=[⟨9,.take [0,1,2,3,4] false (.one 5 (.take [6] true (.done)))⟩,⟨11,.take [0,1,2,3,4,5,6,7,8,9,10,11,12,13] true (.done)⟩]
abbrev UI:List Entry:=[⟨4,.take [0,1,2,3,4,5,6,7,8,9,10,11,12,13,14,15,16,17] true (.done)⟩]
abbrev UJ:List Entry:=[⟨9,.take [0,1,2,3,4,5,6,7,8,9,10,11] false (.one 12 (.take [13,14] true (.done)))⟩]
abbrev UK:List Entry:=[⟨3,.take [0,1,2,3,4,5,6,7,8,9] true (.done)⟩,⟨4,.take [0,1,2,3,4,5,6,7,8,9,10,11,12,13,14] true (.take [15] true (.done))⟩,⟨6,.take [0,1,2,3,5,6,7,11,12] false (.take [4,8,9,10] true (.one 13 (.done)))⟩]
abbrev UL:List Entry:=[⟨5,.take [0,1,2,3,4,5,6,7,8,9,10,11,12,13,14,15,16] false (.both 17 (.one 18 (.one 19 (.one 20 (.done)))) (.one 18 (.one 17 (.one 19 (.one 20 (.done))))))⟩,⟨6,.take [0,1,2,3,4,5,6,7,8,9,10,11,12,13,14,15,16,17,18] false (.one 19 (.take [20,21,22] true (.done)))⟩]
abbrev UM:List Entry:=[⟨22,.take [0,1,2,3,4,5,6,7,8,9,10,11,12,13,14,15,16,17,18,19,20,21,22,23,24,25,26,27,28,29] true (.done)⟩,⟨27,.take [0,1,2,3,4,5,6,7,8,9,10,11,12,13,14,15,16,17,18,19,20,21,22] true (.done)⟩]
abbrev UN:List Entry:=[⟨12,.take [0,1,2,3,4,5,6,7,8,9,10,11,12,13,14,15] true (.done)⟩]
abbrev UO:List Entry:=[⟨8,.take [0,1,2,3,4,5,6,7,8,9,10,11,12,13,14,15,16,17,18,19,20] true (.done)⟩]
theorem su{α:Type}{l:List α}{n:α}{k:Nat}(g:k<l.length)(h:n∉l.take k)(a:l[k]≠n):n∉l.take (k+1):=by rw[List.take_succ_eq_append_getElem g,List.mem_append,List.mem_singleton];exact λe=>e.elim h λe=>a e.symm
end Go.Proofs.YtigilmjkokbblaaGreatDoor
namespace Go.Proofs.YtigilmjkokbblaaGreatDoor
open Go.bd Go.Conc
set_option maxHeartbeats 1000000
variable{m:Mo}{σ:aa}{KF:dV->aa->Prop}
theorem sx{l:List Int}{v:Int}(i:l.length<1152921504606846976)(h:KF (.val (int (qF l v))) σ):aB Tryz.prog m 81 [ints l,int v] σ KF:=by
 refine aB.start lay [] [] 2 Tryz.func81 rfl rfl (by rfl) (by kernel_rfl) ?_;simp[Tryz.f81];refine ab.loop l.length (λk s=>∃env,s=⟨env,σ,[],.no⟩/\env 0=ints l/\env 1=int v/\env 5=int k/\jj 0 l v=jj k (l.drop k) v) ⟨_,rfl,by simp⟩ ?_;rintro j k _ n ⟨env,rfl,b,c,d,a⟩ g;refine ab.run lay [] ?_;simp[b,c,d];refine aI.intro (λe=>?_) (λe=>?_)<;>(try simp[-Int.not_lt,-Int.not_le,-Nat.not_lt,-Nat.not_le]at e)<;>(try simp[b,c,d,e])
 . rw[zu l v k e]at a
   refine aI.intro (λf=>?_) (λf=>?_)<;>(try simp[-Int.not_lt,-Int.not_le,-Nat.not_lt,-Nat.not_le]at f)<;>(try simp[f]at a)<;>(try simp[b,c,d,f])<;>(try exact .done a)
   . subst f
     unfold qF at h;rw[a]at h;exact .done h
   . exact⟨by omega,g _ e ⟨_,rfl,by simp[b,c,d],by simp[b,c,d],by simp,by rw[a];simp⟩⟩
 . have:k=l.length:=by omega
   subst this;unfold qF at h;rw[a]at h;simp[jj]at h;exact .done h
theorem pE{l:List Int}(c:l.length<=1000000000)(h:∀a σ',bw σ σ' a 1 (l.map int)->KF (.val a) σ'):aB Tryz.prog m 12 [ints l] σ KF:=by
 refine aB.start lay [] [] 1 Tryz.func12 rfl rfl (by rfl) (by kernel_rfl) ?_;simp[Tryz.f12];refine eG lay rfl rfl rfl cK rfl cK rfl rl (by decide) (by simp;omega) (σ0:=σ) (es:=[]) (xs:=l.map int) (.empty σ 1) (.inl (.inr ⟨_,rfl⟩)) (by simp) λd σ' b=>?_
 refine ab.run lay [] ?_;simp;exact .done (h _ _ (by simpa using b))
theorem rm{l:List Int}(b:l.length<=1000000000)(h:KF (.val (ints l)) σ):aB Tryz.prog m 12 [ints l] σ KF:=(pE b λa c d=>d.thaw h).thaw
end Go.Proofs.YtigilmjkokbblaaGreatDoor
namespace Go.Proofs.YtigilmjkokbblaaGreatDoor
open Go.bd Go.Conc
set_option maxHeartbeats 1000000
set_option maxRecDepth 4000
variable{m:Mo}{σ:aa}{KF:dV->aa->Prop}
def cq(c:Nat)(nums:List Int)(k:Nat)(σ:aa):Prop:=∃(n:Nat) (s:Int),n<=k/\σ c=some (.cells [ints nums,int n,.lit (.int .u64 s)])
theorem HA{nums:List Int}(h:∀c σ',σ c=none->cq c nums 0 σ'->(∀x,x≠c->σ' x=σ x)->KF (.val (.ref c 0)) σ'):aB Tryz.prog m 7 [ints nums] σ KF:=by
 refine aB.start lay [5] [] 1 Tryz.func7 rfl rfl (by rfl) (by kernel_rfl) ?_;simp[Tryz.f7];refine bL.intro λc a=>?_
 simp;exact .done (h c _ a ⟨0,_,Nat.le_refl _,aa.ak _ _ _⟩ λx b=>aa.ag _ _ b)
theorem ND(a b:Int):0<=IntKind.u64.wrap (((BitVec.ofInt 64 a ^^^ BitVec.ofInt 64 b).toNat:Nat):Int)/\IntKind.u64.wrap (((BitVec.ofInt 64 a ^^^ BitVec.ofInt 64 b).toNat:Nat):Int)<18446744073709551616:=by generalize (((BitVec.ofInt 64 a ^^^ BitVec.ofInt 64 b).toNat:Nat):Int)=x;simp only[IntKind.wrap,IntKind.signed,IntKind.bits];simp;omega
theorem J1{x:Int}(h:0<=x/\x<18446744073709551616):0<=x.fdiv (2 ^ min 11 IntKind.u64.bits)/\x.fdiv (2 ^ min 11 IntKind.u64.bits)<9007199254740992:=by
 have e:(2:Int) ^ min 11 IntKind.u64.bits=2048:=by decide
 rw[e,Int.fdiv_eq_ediv_of_nonneg _ (by omega)];omega
theorem NF{c k:Nat}{nums:List Int}(C:k<1000000)(D:nums.length<1152921504606846976)(hb:cq c nums k σ)(h:∀(x:Int) σ',0<=x/\x<9007199254740992->cq c nums (k+1) σ'->(∀y,y≠c->σ' y=σ y)->KF (.val (.lit (.int .u64 x))) σ'):aB Tryz.prog m 48 [.ref c 0] σ KF:=by
 obtain⟨n,s,w,l⟩:=hb;have t:-9223372036854775808<=(n:Int)+1/\(n:Int)+1<=9223372036854775807:=by omega
 obtain⟨fm,d⟩:∃f:Int->Int->Int,∀a b,qE .mul .u64 a b=some (.int .u64 (f a b)):=⟨_,λ_ _=>rfl⟩;obtain⟨E,g,r⟩:∃f:Int->Int->Int,(∀a b,qE .xor .u64 a b=some (.int .u64 (f a b)))/\∀a b,0<=f a b/\f a b<18446744073709551616:=⟨_,λ_ _=>rfl,ND⟩;refine aB.PZ lay [] UK 27 1 Tryz.func48 rfl rfl (by rfl) (by kernel_rfl) ?_;simp[Tryz.f48,l,t.1,t.2,aG,d];refine ab.Cj (λe i=>e 0=.ref c 0/\(∃z,e 3=.lit (.int .u64 z))/\i c=some (.cells [ints nums,int ((n:Int)+1),.lit (.int .u64 s)])/\∀y,y≠c->i y=σ y) (by simp[aa.ag];intro y q;exact aa.ag _ _ q) ?_;clear l;rintro env i ⟨o,⟨z,p⟩,l,j⟩;refine ab.runN lay [] 2 ?_;simp[o,p,l];refine ab.runN lay [] 2 ?_;simp[o,p,l];refine aI.intro (λu=>?_) (λu=>?_)<;>simp[-Int.not_lt,-Int.not_le,-Nat.not_lt,-Nat.not_le]at u
 . have A:(n:Int)<nums.length:=by omega
   have B:n<nums.length:=by omega
   have v:-9223372036854775808<=(n:Int)/\(n:Int)<=9223372036854775807:=by omega
   simp[o,p,l,A,B,v.1,v.2,d,g];refine ab.Cj (λe i=>e 0=.ref c 0/\(∃z,e 3=.lit (.int .u64 z))/\i c=some (.cells [ints nums,int ((n:Int)+1),.lit (.int .u64 s)])/\∀y,y≠c->i y=σ y) (by simp[o,p,l];exact j) ?_;clear o p l j;rintro env i ⟨o,⟨z,p⟩,l,j⟩;refine ab.run lay [] ?_;simp[o,p,l,d,g,aG];refine ab.Cj (λe i=>e 0=.ref c 0/\(∃s,i c=some (.cells [ints nums,int ((n:Int)+1),.lit (.int .u64 s)]))/\∀y,y≠c->i y=σ y) (by refine⟨by simp[o],⟨_,by simp;rfl⟩,λy q=>?_⟩;simp[aa.ag,q,j y q]) ?_;clear o p l j;rintro env i ⟨o,⟨z,l⟩,j⟩;refine ab.run lay [] ?_;simp[o,l,d,g];refine .done (h _ i (J1 (r _ _)) ⟨n+1,z,by omega,by simpa using l⟩ j)
 . simp[o,p,l]
   refine ab.run lay [] ?_;simp[o,p,l,d,g,aG];refine ab.Cj (λe i=>e 0=.ref c 0/\(∃s,i c=some (.cells [ints nums,int ((n:Int)+1),.lit (.int .u64 s)]))/\∀y,y≠c->i y=σ y) (by refine⟨by simp[o],⟨_,by simp;rfl⟩,λy q=>?_⟩;simp[aa.ag,q,j y q]) ?_;clear o p l j;rintro env i ⟨o,⟨z,l⟩,j⟩;refine ab.run lay [] ?_;simp[o,l,d,g];refine .done (h _ i (J1 (r _ _)) ⟨n+1,z,by omega,by simpa using l⟩ j)
def nB(c:Nat)(nums:List Int)(k:Nat)(σ σ':aa):Prop:=cq c nums k σ'/\∀y,y≠c->σ' y=σ y
theorem nB.trans{c:Nat}{nums:List Int}{k k':Nat}{σ σ' a:aa}(h:nB c nums k σ σ')(b:nB c nums k' σ' a):nB c nums k' σ a:=⟨b.1,λy d=>(b.2 y d).trans (h.2 y d)⟩
theorem cq.mono{c:Nat}{nums:List Int}{k k':Nat}(h:cq c nums k σ)(b:k<=k'):cq c nums k' σ:=by obtain⟨n,s,d,a⟩:=h;exact⟨n,s,by omega,a⟩
theorem J2{n:Int}(h:0<=n/\n<18446744073709551616):IntKind.u64.wrap n=n:=by simp only[IntKind.wrap,IntKind.signed,IntKind.bits];simp;omega
theorem P2{n:Int}(h:-9223372036854775808<=n/\n<=9223372036854775807):IntKind.i64.wrap n=n:=by simp[IntKind.wrap,IntKind.signed,IntKind.bits];omega
section
variable{c k:Nat}{nums:List Int}
theorem eH{n:Int}(f:k<1000000)(g:nums.length<1152921504606846976)(i:-4611686018427387904<=n/\n<4611686018427387904)(hb:cq c nums k σ)(h:∀(x:Int) σ',0<=x/\(x<=n\/x=0)->nB c nums (k+1) σ σ'->KF (.val (int x)) σ'):aB Tryz.prog m 18 [.ref c 0,int n] σ KF:=by
 refine aB.start lay [] [] 2 Tryz.func18 rfl rfl (by rfl) (by kernel_rfl) ?_;simp[Tryz.f18];refine an Tryz.func48 rfl rfl (NF f g hb λx σ' j a b=>?_);refine ab.run lay [] ?_;simp;refine aI.intro (λd=>?_) (λd=>?_)<;>simp[-Int.not_lt,-Int.not_le]at d
 . simp
   exact .done (h 0 σ' ⟨by omega,.inr rfl⟩ ⟨a,b⟩)
 . have l:IntKind.u64.wrap n=n:=J2 (by omega)
   have o:qE .add .u64 n 1=some (.int .u64 (n+1)):=by show some (Value.int .u64 (IntKind.u64.wrap (n+1)))=_;rw[J2 (by omega)]
   obtain⟨r,e,p⟩:∃r:Int,(0<=r/\r<=n)/\qE .rem .u64 x (n+1)=some (.int .u64 r):=by
    refine⟨x.tmod (n+1),⟨Int.tmod_nonneg _ j.1,?_⟩,by simp[qE];omega⟩;have:=Int.tmod_lt_of_pos x (show 0<n+1 by omega);omega
   have q:IntKind.i64.wrap r=r:=P2 (by omega);simp[l,o,p,q];exact .done (h r σ' ⟨e.1,.inl e.2⟩ ⟨a,b⟩)
theorem km{a b:Int}(f:k<1000000)(g:nums.length<1152921504606846976)(i:-1000000000<=a/\a<=1000000000)(j:-1000000000<=b/\b<=1000000000)(hb:cq c nums k σ)(h:∀(x:Int) σ',a<=x/\(x<=b\/x=a)->nB c nums (k+1) σ σ'->KF (.val (int x)) σ'):aB Tryz.prog m 78 [.ref c 0,int a,int b] σ KF:=by
 have d:-9223372036854775808<=b-a/\b-a<=9223372036854775807:=by omega
 refine aB.start lay [] [] 3 Tryz.func78 rfl rfl (by rfl) (by kernel_rfl) ?_;simp[Tryz.f78,d.1,d.2];refine an Tryz.func18 rfl rfl (eH f g ⟨by omega,by omega⟩ hb λx σ' l hd=>?_);have e:-9223372036854775808<=a+x/\a+x<=9223372036854775807:=by omega
 refine ab.run lay [] ?_;simp[e.1,e.2];exact .done (h _ σ' ⟨by omega,by omega⟩ hd)
theorem qj{l:List Int}{sp:cG}(d:k<1000000)(f:nums.length<1152921504606846976)(j:0<l.length/\l.length<1000000)(hb:cq c nums k σ)(h:∀(x:Int) σ',x∈l->nB c nums (k+1) σ σ'->KF (.val (int x)) σ'):aB Tryz.prog m 83 [.ref c 0,.sl 1 (l.map int) sp] σ KF:=by
 have a:-9223372036854775808<=(l.length:Int)-1/\(l.length:Int)-1<=9223372036854775807:=by omega
 refine aB.start lay [] [] 2 Tryz.func83 rfl rfl (by rfl) (by kernel_rfl) ?_;simp[Tryz.f83,a.1,a.2];refine an Tryz.func18 rfl rfl (eH d f ⟨by omega,by omega⟩ hb λx σ' g hd=>?_);have b:x.toNat<l.length:=by omega
 have i:x<l.length:=by omega
 have e:(x.toNat:Int)=x:=by omega
 refine ab.run lay [] ?_;simp[g.1,b,i];exact .done (h _ σ' (List.getElem_mem b) hd)
theorem Gg{n:Int}(b:k<1000000)(d:nums.length<1152921504606846976)(e:0<=n/\n<1000000000)(hb:cq c nums k σ)(h:∀(x:Bool) σ',nB c nums (k+1) σ σ'->KF (.val (bool x)) σ'):aB Tryz.prog m 80 [.ref c 0,int n] σ KF:=by
 have a:-9223372036854775808<=n-1/\n-1<=9223372036854775807:=by omega
 refine aB.start lay [] [] 2 Tryz.func80 rfl rfl (by rfl) (by kernel_rfl) ?_;simp[Tryz.f80,a.1,a.2];refine an Tryz.func18 rfl rfl (eH b d ⟨by omega,by omega⟩ hb λx σ' f hd=>?_);refine ab.run lay [] ?_;simp;exact .done (h _ σ' hd)
end
structure uP(dE:Int)(e:gX):Prop where
 hour:0<=e.hour/\e.hour<=40
 place:0<=e.place/\e.place<dE
 bE:0<=e.bE/\e.bE<=1
 marks:e.marks.Sublist [0,1,2]
 aQ:14<=e.aQ/\e.aQ<=16
 fj:0<=e.fj/\e.fj<=2
theorem jN{l:List Int}(h:l.Sublist [0,1,2]):mw none l=0/\l.length<=3:=by cases h<;>(rename_i h;cases h<;>(rename_i h;cases h<;>(rename_i h;cases h;decide)))
theorem uP.check{dE:Int}{e:gX}(h:uP dE e):bf dE e=0:=by
 obtain⟨b,d,f,a,m,c⟩:=h;have a:=(jN a).1;unfold bf dz;have n:(0<=e.hour):=b.1;have g:e.hour<=72:=by omega
 have i:e.place<=dE-1:=by omega
 have j:e.bE<=5:=by omega
 have k:0<=e.aQ:=by omega
 have l:e.aQ<=30:=by omega
 simp[b.1,g,d.1,i,f.1,j,a,k,l,c.1,c.2]
theorem sz{σ0 σ d:aa}{a:AV}{kk:Nat}{es:List AV}{c:Nat}(h:Tok σ0 σ a kk es)(j:σ0 c=none)(k:∃l,σ c=some (.cells l))(i:∀y,y≠c->d y=σ y):Tok σ0 d a kk es:=by
 refine⟨λy x f=>?_,?_⟩
 . have:y≠c:=λe=>by subst e;rw[j]at f;cases f
   rw[i y this];exact h.1 y x f
 rcases h.2 with q|q|⟨b,e,m,n,g⟩
 . exact .inl q
 . exact .inr (.inl q)
 . refine .inr (.inr ⟨b,e,m,n,?_⟩)
   have:b≠c:=λe=>by subst e;obtain⟨l,o⟩:=k;rw[o]at g;cases g
   rw[i b this];exact g
section
variable{c k:Nat}{nums:List Int}
theorem Ck{dE:Int}(hk:k+11<1000000)(D:nums.length<1152921504606846976)(bA:0<=dE/\dE<=1000)(hb:cq c nums k σ)(h:∀(e:gX) σ',uP (max dE 1) e->nB c nums (k+11) σ σ'->KF (.val (aW e)) σ'):aB Tryz.prog m 79 [.ref c 0,int dE] σ KF:=by
 have r1:-9223372036854775808<=dE-1/\dE-1<=9223372036854775807:=by omega
 obtain⟨n0,s0,_,Q⟩:=id hb;refine aB.start lay [] [] 2 Tryz.func79 rfl rfl (by rfl) (by kernel_rfl) ?_
 simp[Tryz.f79];refine bL.intro λu h4=>?_
 have n4:c≠u:=λe=>by subst e;rw[Q]at h4;cases h4
 have E:∀x,cq c nums k (σ.set u x):=λx=>⟨n0,s0,by assumption,by rw[aa.ag _ _ n4];exact Q⟩
 simp;refine an Tryz.func18 rfl rfl (eH (by omega) D ⟨by omega,by omega⟩ (E _) λg bB c6 R=>?_)
 refine ab.run lay [] ?_;simp;refine an Tryz.func18 rfl rfl (eH (by omega) D ⟨by omega,by omega⟩ R.1 λp o c7 S=>?_)
 refine ab.run lay [] ?_;simp;refine an Tryz.func18 rfl rfl (eH (by omega) D ⟨by omega,by omega⟩ S.1 λx3 H c8 T=>?_)
 refine ab.run lay [] ?_;simp;refine an Tryz.func83 rfl rfl (qj (l:=[g,p,x3]) (by omega) D ⟨by simp,by simp⟩ T.1 λM ca b0 U=>?_)
 refine ab.run lay [] ?_;simp[r1.1,r1.2];refine an Tryz.func18 rfl rfl (eH (by omega) D ⟨by omega,by omega⟩ U.1 λpl cb cg V=>?_)
 refine ab.run lay [] ?_;simp;refine an Tryz.func83 rfl rfl (qj (l:=[0,0,0,1]) (by omega) D ⟨by simp,by simp⟩ V.1 λco cl b1 X=>?_)
 refine ab.run lay [] ?_;simp;refine an Tryz.func83 rfl rfl (qj (l:=[14,14,15,15,16]) (by omega) D ⟨by simp,by simp⟩ X.1 λN cm b2 Y=>?_)
 refine ab.run lay [] ?_;simp;refine an Tryz.func83 rfl rfl (qj (l:=[0,0,1,2]) (by omega) D ⟨by simp,by simp⟩ Y.1 λsh Z b3 a7=>?_)
 refine ab.run lay [] ?_;simp;refine bL.intro λF O=>?_
 simp;have r:nB c nums (k+8) (σ.set u (.cells [int 0,int 0,int 0,.lit (.slice none 0 0),int 0,int 0])) Z:=R.trans (S.trans (T.trans (U.trans (V.trans (X.trans (Y.trans a7))))));have a8:u≠c:=Ne.symm n4;have a9:Z u=some (.cells [int 0,int 0,int 0,.lit (.slice none 0 0),int 0,int 0]):=by rw[r.2 u a8,aa.ak]
 have n5:F≠c:=λe=>by subst e;obtain⟨_,_,_,q⟩:=a7.1;rw[q]at O;cases O
 have I:F≠u:=λe=>by subst e;rw[a9]at O;cases O
 have ad:σ F=none:=by rw[r.2 F n5,aa.ag _ _ I]at O;exact O
 have b4:0<=M/\M<=40:=by simp at b0;omega
 have b5:0<=co/\co<=1:=by simp at b1;omega
 have b6:14<=N/\N<=16:=by simp at b2;omega
 have b7:0<=sh/\sh<=2:=by simp at b3;omega
 have b8:0<=pl/\pl<max dE 1:=by omega
 refine ab.loop 3 (λj s=>∃env σ' a mk,s=⟨env,σ',[],.no⟩/\env 0=.ref c 0/\env 4=.ref u 0/\env 5=.ref F 0/\env 6=int j/\cq c nums (k+8+j) σ'/\σ' u=some (.cells [int 0,int 0,int 0,.lit (.slice none 0 0),int 0,int 0])/\σ' F=some (.cells [int M,int pl,int co,a,int N,int sh])/\Tok (σ.del c) σ' a 1 (mk.map int)/\mk.Sublist ((List.range j).map λi:Nat=>(i:Int))) ⟨_,_,.lit (.slice none 0 0),[],rfl,by simp,by simp,by simp,by simp,?_,?_,?_,?_,by simp⟩ ?_
 . obtain⟨n,z,h1,h2⟩:=r.1
   exact⟨n,z,by omega,by rw[aa.ag _ _ (Ne.symm n5)];exact h2⟩
 . rw[aa.ag _ _ (Ne.symm I)];exact a9
 . simp
 . refine⟨λy x f=>?_,.inl ⟨rfl,rfl⟩⟩
   have P:y≠c:=λe=>by subst e;simp[aa.del]at f
   have y0:σ y=some x:=by simpa[aa.del,P]using f
   have y5:y≠F:=λe=>by subst e;rw[ad]at y0;cases y0
   have y4:y≠u:=λe=>by subst e;rw[h4]at y0;cases y0
   rw[aa.ag _ _ y5,r.2 y P,aa.ag _ _ y4];exact y0
 rintro c0 j _ hj ⟨env,σ',a,mk,rfl,v,w,A,B,J,q4,q5,t,G⟩ ih
 have cv:mk.length<=j:=by have:=G.length_le;rwa [List.length_map,List.length_range]at this
 rcases Nat.lt_or_ge j 3 with g1|g1
 . have b9:(j:Int)<3:=by omega
   refine ab.run lay [] ?_;simp[v,w,A,B,b9];refine an Tryz.func80 rfl rfl (Gg (by omega) D ⟨by omega,by omega⟩ J λx o hd=>?_)
   have bq:∃l,σ' c=some (.cells l):=by obtain⟨_,_,_,q⟩:=J;exact⟨_,q⟩
   have d:Tok (σ.del c) o a 1 (mk.map int):=sz t (by simp[aa.del]) bq hd.2
   have b:=d.cells;have s4:o u=some (.cells [int 0,int 0,int 0,.lit (.slice none 0 0),int 0,int 0]):=by rw[hd.2 u a8];exact q4
   have C:o F=some (.cells [int M,int pl,int co,a,int N,int sh]):=by rw[hd.2 F n5];exact q5
   have al:(List.range (j+1)).map (λi:Nat=>(i:Int))=(List.range j).map (λi:Nat=>(i:Int))++[(j:Int)]:=by rw[List.range_succ,List.map_append];rfl
   have f1:-9223372036854775808<=(j:Int)+1/\(j:Int)+1<=9223372036854775807:=by omega
   refine ab.run lay [] ?_;simp[v,w,A,B,C,b.1,b.2,f1.1,f1.2];cases x with
   | false=>
     simp[v,w,A,B,C,b.1,b.2,f1.1,f1.2];refine ih _ g1 ⟨_,_,a,mk,rfl,by simp[v,w,A,B,C,b.1,b.2,f1.1,f1.2],by simp[v,w,A,B,C,b.1,b.2,f1.1,f1.2],by simp[v,w,A,B,C,b.1,b.2,f1.1,f1.2],by simp,hd.1,s4,C,d,?_⟩
     rw[al];exact G.trans (List.sublist_append_left _ _)
   | true=>
     simp[v,w,A,B,C,b.1,b.2,f1.1,f1.2];refine aS lay rfl rfl rfl cK rfl cK rfl rl (by decide) (by simp;omega) (σ0:=o.off a) (es:=mk.map int) (xs:=[int j]) (by simpa using d.here.1) (.inr ⟨_,rfl⟩) λa' H K=>?_
     have av:=K.cells;have bz:∀y l,o y=some (.cells l)->bX a≠some y:=λy l f e=>by obtain⟨_,_,q⟩:=d.bc e;rw[f]at q;cases q
     have k3:∀y l,o y=some (.cells l)->H y=some (.cells l):=λy l f=>K.1 _ _ (by rw[aa.gh (bz y l f)];exact f)
     have t5:=k3 _ _ C;have t4:=k3 _ _ s4;refine ab.run lay [] ?_;simp[v,w,A,B,C,b.1,b.2,f1.1,f1.2,t5,av.1,av.2,aG];obtain⟨nb,zb,E,L⟩:=hd.1;have tc:=k3 _ _ L
     have ax:Tok (σ.del c) H a' 1 ((mk++[(j:Int)]).map int):=by have:=K.base d.here.2;simpa using this
     refine ih _ g1 ⟨_,_,a',mk++[(j:Int)],rfl,by simp[v,w,A,B,C,b.1,b.2,f1.1,f1.2],by simp[v,w,A,B,C,b.1,b.2,f1.1,f1.2],by simp[v,w,A,B,C,b.1,b.2,f1.1,f1.2],by simp,⟨nb,zb,E,by rw[aa.ag _ _ (Ne.symm n5)];exact tc⟩,by rw[aa.ag _ _ (Ne.symm I)];exact t4,aa.ak _ _ _,ax.beside (by simp[aa.del,n5,ad]) (λe=>by obtain⟨_,_,q⟩:=ax.bc e;rw[t5]at q;cases q),?_⟩
     rw[al];exact G.append (List.Sublist.refl _)
 . have:j=3:=by omega
   subst this;have b:=t.cells;refine ab.run lay [] ?_;simp[v,w,A,B,q4,q5,b.1,b.2,aG];obtain⟨nb,zb,E,L⟩:=J;have ay:mk.Sublist [0,1,2]:=G;refine .iI (a':=aW ⟨M,pl,co,mk,N,sh⟩) (lT rfl λi x y g p=>?_) (.less (σ':=σ.set c (.cells [ints nums,int nb,.lit (.int .u64 zb)])) (λy x f=>?_) (.done (h ⟨M,pl,co,mk,N,sh⟩ _ ⟨b4,b8,b5,ay,b6,b7⟩ ⟨⟨nb,zb,by omega,aa.ak _ _ _⟩,λy f=>aa.ag _ _ f⟩)))
   . match i with
     |0=>simp at g p;subst g;subst p;exact .refl _
     |1=>simp at g p;subst g;subst p;exact .refl _
     |2=>simp at g p;subst g;subst p;exact .refl _
     |3=>simp at g p;subst g;subst p;exact t.W
     |4=>simp at g p;subst g;subst p;exact .refl _
     |5=>simp at g p;subst g;subst p;exact .refl _
     |i+6=>simp at g
   . by_cases P:y=c
     . subst P
       rw[aa.ak]at f;rw[aa.ag _ _ n4,L];exact f
     . rw[aa.ag _ _ P]at f
       have y4:y≠u:=λe=>by subst e;rw[h4]at f;cases f
       rw[aa.ag _ _ y4];exact t.1 y x (by simpa[aa.del,P]using f)
theorem og{dE:Int}(d:k+11<1000000)(f:nums.length<1152921504606846976)(a:1<=dE/\dE<=1000)(hb:cq c nums k σ)(h:∀(e:gX) σ',uP dE e->nB c nums (k+11) σ σ'->KF (.val (aW e)) σ'):aB Tryz.prog m 79 [.ref c 0,int dE] σ KF:=Ck d f ⟨by omega,a.2⟩ hb λe σ' b hd=>h e σ' (by rw[Int.max_eq_left a.1]at b;exact b) hd
end
structure sA(n:Nat)(lo:Int)(r:List (List Int)):Prop where
 len:r.length=n
 row:∀l∈r,l.length=n
 diag:∀i,i<n->rd r i i=0
 sym:∀i j,i<n->j<n->rd r i j=rd r j i
 off:∀i j,i<n->j<n->i≠j->lo<=rd r i j/\rd r i j<=2*lo
structure m5(cnt:Int)(f:Fr):Prop where
 dO:1<=f.dO/\f.dO<=4
 most:f.most=1\/f.most=2\/f.most=3\/f.most=6
 dE:1<=f.roads.length/\f.roads.length<=3
 J3:∃lo:Int,(0<=lo/\lo<=4)/\sA f.roads.length lo f.roads
 fr:0<=f.bH/\f.bH<=2
 to:f.bH<=f.hH/\f.hH<=2
 len:(f.aA.length:Int)<=cnt
 yz:∀e∈f.aA,uP f.roads.length e
theorem sA.err{n:Nat}{m:Int}{r:List (List Int)}(h:sA n m r)(D:1<=n/\n<=3)(v:0<=m/\m<=4):fe r=0:=by
 have p:=h.len
 have hb:∀i j,i<n->j<n->0<=rd r i j/\rd r i j<=9:=λi j a b=>by
  by_cases e:i=j
  . subst e;rw[h.diag i a];omega
  . have:=h.off i j a b e;omega
 have f:∀l∈r,iJ n l=0:=λl q=>by
  have w:=h.row l q
  have z:l.all (dz · 0 9)=true:=by
   rw[List.all_eq_true];intro x g;obtain⟨i,a,rfl⟩:=List.mem_iff_getElem.1 q;obtain⟨j,b,rfl⟩:=List.mem_iff_getElem.1 g;have:=hb i j (by omega) (by omega);have e:rd r i j=r[i][j]:=by simp[rd,List.getD_eq_getElem?_getD,a,b]
   rw[e]at this;simp[dz,this.1,this.2]
  unfold iJ;rw[if_neg (by simp[w]),if_pos z]
 have d:∀l:List (List Int),(∀x∈l,x∈r)->eV n l=0:=λl=>by
  induction l with
  |nil=>intro _;rfl
  | cons x l A=>
    intro g;unfold eV;rw[if_pos (f x (g x (by simp)))];exact A λy B=>g y (by simp[B])
 have o:((List.range n).any λi=>(List.range n).any λj=>cx r i j)=false:=by
  rw[List.any_eq_false];intro i a;rw[Bool.not_eq_true,List.any_eq_false];intro j b;have a:=List.mem_range.1 a;have b:=List.mem_range.1 b;unfold cx;rw[h.diag i a,h.sym i j a b,p]
  have C : ((List.range n).any λk=>decide (rd r j i>rd r i k+rd r k j))=false:=by
   rw[List.any_eq_false];intro k c;have c:=List.mem_range.1 c;have E:=hb i k a c;have F:=hb k j c b;simp only[decide_eq_true_eq,Int.not_lt,gt_iff_lt];by_cases s:i=j
   . subst s;rw[h.diag i a];omega
   . by_cases t:i=k
     . subst t;rw[h.diag i a,h.sym i j a b];omega
     . by_cases u:k=j
       . subst u;rw[h.diag k c,h.sym i k a c];omega
       . have G:=h.off j i b a (Ne.symm s)
         have H:=h.off i k a c t;have I:=h.off k j c b u;omega
  rw[C];simp
 unfold fe;rw[p,if_neg (by omega),if_neg (by omega),d r (λ_ h=>h),if_neg (by simp),o];simp
theorem J4{M:List (List Int)}{i k:Nat}{n:Int}(c:i<M.length)(d:k<(M.getD i []).length)(x y:Nat):rd (M.set i ((M.getD i []).set k n)) x y=if x=i/\y=k then n else rd M x y:=by
 unfold rd;by_cases e:x=i
 . subst e
   have a:(M.set x ((M.getD x []).set k n)).getD x []=(M.getD x []).set k n:=by simp[List.getD_eq_getElem?_getD,c]
   rw[a];by_cases b:y=k
   . subst b
     rw[if_pos ⟨rfl,rfl⟩];rw[List.getD_eq_getElem?_getD,List.getElem?_set_self d];rfl
   . rw[if_neg (λq=>b q.2)]
     rw[List.getD_eq_getElem?_getD,List.getElem?_set_ne (Ne.symm b),<-List.getD_eq_getElem?_getD]
 . rw[if_neg (λq=>e q.1)]
   have a:(M.set i ((M.getD i []).set k n)).getD x []=M.getD x []:=by rw[List.getD_eq_getElem?_getD,List.getElem?_set_ne (Ne.symm e),<-List.getD_eq_getElem?_getD]
   rw[a]
def yL(M:List (List Int))(i k:Nat)(n:Int):List (List Int):=(M.set i ((M.getD i []).set k n)).set k ((M.getD k []).set i n)
structure Gh(n:Nat)(lo:Int)(i k:Nat)(M:List (List Int)):Prop where
 len:M.length=n
 row:∀j,j<n->(M.getD j []).length=n
 diag:∀x,x<n->rd M x x=0
 sym:∀x y,x<n->y<n->rd M x y=rd M y x
 off:∀x y,y<x->x<n->(x<i\/(x=i/\y<k))->lo<=rd M x y/\rd M x y<=2*lo
theorem zv{M:List (List Int)}{i k:Nat}{v:Int}(c:i<M.length)(d:k<M.length)(e:k≠i)(j:Nat):(yL M i k v).getD j []=if j=k then(M.getD k []).set i v else if j=i then(M.getD i []).set k v else M.getD j []:=by
 unfold yL;by_cases a:j=k
 . subst a
   rw[if_pos rfl,List.getD_eq_getElem?_getD,List.getElem?_set_self (by simpa using d)];rfl
 . rw[if_neg a,List.getD_eq_getElem?_getD,List.getElem?_set_ne (Ne.symm a)]
   by_cases b:j=i
   . subst b
     rw[if_pos rfl,List.getElem?_set_self c];rfl
   . rw[if_neg b,List.getElem?_set_ne (Ne.symm b),<-List.getD_eq_getElem?_getD]
theorem NG{n:Nat}{j:Int}{i k a b:Nat}{M:List (List Int)}{v:Int}(h:Gh n j a b M)(g:i<n)(e:k<n)(f:k≠i)(x y:Nat):rd (yL M i k v) x y=if(x=i/\y=k)\/(x=k/\y=i)then v else rd M x y:=by
 have l:=h.len
 have m:rd (yL M i k v) x y=if x=k/\y=i then v else rd (M.set i ((M.getD i []).set k v)) x y:=by
  have q:M.getD k []=(M.set i ((M.getD i []).set k v)).getD k []:=by rw[List.getD_eq_getElem?_getD,List.getD_eq_getElem?_getD,List.getElem?_set_ne (Ne.symm f)]
  unfold yL;rw[q];exact J4 (by simp[l,e]) (by rw[<-q];rw[h.row k e];exact g) x y
 rw[m,J4 (by omega) (by rw[h.row i g];exact e)];by_cases c:x=k/\y=i
 . rw[if_pos c,if_pos (.inr c)]
 . rw[if_neg c]
   by_cases d:x=i/\y=k
   . rw[if_pos d,if_pos (.inl d)]
   . rw[if_neg d,if_neg (λq=>q.elim d c)]
theorem Gh.next{n:Nat}{d:Int}{i k:Nat}{M:List (List Int)}{v:Int}(h:Gh n d i k M)(g:i<n)(s:k<i)(m:d<=v/\v<=2*d):Gh n d i (k+1) (yL M i k v):=by
 have o:=h.len;have a:=NG (v:=v) h g (show k<n by omega) (by omega);refine⟨by simp[yL,o],λj p=>?_,λx b=>?_,λx y b r=>?_,λx y f b hd=>?_⟩
 . rw[zv (by omega) (by omega) (by omega)]
   split
   . rw[List.length_set];exact h.row k (by omega)
   . split
     . rw[List.length_set];exact h.row i g
     . exact h.row j p
 . rw[a,if_neg (by omega)];exact h.diag x b
 . rw[a,a]
   by_cases c:(x=i/\y=k)\/(x=k/\y=i)
   . rw[if_pos c,if_pos (c.elim (λq=>.inr ⟨q.2,q.1⟩) (λq=>.inl ⟨q.2,q.1⟩))]
   . rw[if_neg c,if_neg (λq=>c (q.elim (λq=>.inr ⟨q.2,q.1⟩) (λq=>.inl ⟨q.2,q.1⟩)))]
     exact h.sym x y b r
 . rw [a]
   by_cases c:(x=i/\y=k)\/(x=k/\y=i)
   . rw[if_pos c];exact m
   . rw[if_neg c]
     refine h.off x y f b ?_;rcases hd with hd|⟨l,t⟩
     . exact .inl hd
     . refine .inr ⟨l,?_⟩
       have:y≠k:=λe=>c (.inl ⟨l,e⟩)
       omega
theorem Gh.line{n:Nat}{b:Int}{i:Nat}{M:List (List Int)}(h:Gh n b i i M):Gh n b (i+1) 0 M:=⟨h.len,h.row,h.diag,h.sym,λx y a c hd=>h.off x y a c (by omega)⟩
theorem Gh.fin{n:Nat}{c:Int}{M:List (List Int)}(h:Gh n c n 0 M):sA n c M:=by
 have f:=h.len;refine⟨h.len,λl d=>?_,h.diag,h.sym,λi j a b e=>?_⟩
 . obtain⟨i,a,rfl⟩:=List.mem_iff_getElem.1 d
   have:=h.row i (by omega);simpa[List.getD_eq_getElem?_getD,a]using this
 . rcases Nat.lt_or_ge j i with q|q
   . exact h.off i j q a (.inl a)
   . rw[h.sym i j a b]
     exact h.off j i (by omega) b (.inl b)
theorem Gh.start(n:Nat)(c:Int):Gh n c 0 0 (List.replicate n (List.replicate n 0)):=by
 have a:∀x y,rd (List.replicate n (List.replicate n 0)) x y=0:=λx y=>by
  unfold rd;simp only[List.getD_eq_getElem?_getD,List.getElem?_replicate];by_cases b:x<n
  . simp only[b,if_true,Option.getD_some,List.getElem?_replicate]
    split<;>rfl
  . simp[b]
 refine⟨by simp,λj d=>by simp[List.getD_eq_getElem?_getD,d],λx _=>a x x,λx y _ _=>by rw[a,a],λx y _ _ h=>by omega⟩
theorem sB{g:gX->Int}:∀{l:List gX},(∀e∈l,g e=0)->dX g l=0
 |[],_=>rfl
 | a::l,h=>by
   unfold dX;rw[if_pos (h a (by simp))];exact sB λe b=>h e (by simp[b])
theorem m5.check{most:Int}{f:Fr}(h:m5 most f)(j:most<=6):check f=0:=by
 obtain⟨k,a,b⟩:=h.J3;have c:=b.err h.dE a;have l:=h.fr;have m:=h.to;have n:=h.dO;have o:=h.most;have p:=h.len
 have d:(dz f.bH 0 3 && dz f.hH 0 3)=true:=by simp[dz];omega
 have g:(dz f.dO 1 6 && dz f.most 1 6)=true:=by simp[dz];omega
 unfold Go.Proofs.YtigilmjkokbblaaGreatDoor.check;rw[c,if_neg (by simp),d,if_neg (by simp),if_neg (by omega),g,if_neg (by simp),if_neg (by omega)]
 exact sB λe i=>(h.yz e i).check
theorem m5.fits{most:Int}{f:Fr}(h:m5 most f)(g:most<=1000):f.Fits:=by
 obtain⟨i,a,b⟩:=h.J3;have:=h.len;have j:=h.dE;refine⟨by omega,by omega,λl c=>?_,λe d=>?_⟩
 . have:=b.row l c;omega
 . have:=(jN (h.yz e d).marks).2;omega
end Go.Proofs.YtigilmjkokbblaaGreatDoor
