import Derived.Conc.CrowdTrace
import Derived.Test.YtkcceaplmgdnfaaGreatDoorC9
set_option linter.all false
namespace Go.bQ
open Go.Conc
def ChanAt(w:World)(b:Nat):Prop:=∃cap buf cl s r a,w.heap[b]?=some (.chan cap buf cl s r a)
def Kept(kk:acy)(OO:acx)(w w':World)(b:Nat):Prop:=
 w'.heap[b]?=w.heap[b]?\/(ChanAt w b/\ChanAt w' b/\∀i,OO i b=none)\/
 ∃c a e,w.heap[b]?=some (.cells c e (0,0))/\w'.heap[b]?=some (.cells a e (0,0))/\a.size=c.size/\(∀i x,OO i b=some x->∃f,x=.part f/\∀n,f n≠none->a[n]?=c[n]?)/\∀n,a[n]?=c[n]?\/∀i,(kk i).cell b n=none
def Calm(Z:Base)(w w':World):Prop:=(mn w.os w'.os/\w'.output=w.output)/\∀b,b<Z.W0.heap.size->w'.heap[b]?=w.heap[b]?
def Ki(kk:acy)(OO:acx)(B:Nat):Loc->Prop
 |.cell a=>a.block<B/\∀i,¬aS (OO i) a.block a.off/\(kk i).cell a.block a.off=none
 |.obj r=>r<B/\∀i o,OO i r≠some (.obj o)
 |_=>True
def Told(Z:Base)(J M:ack)(t:Trace)(n:Nat)(a:Touch):Prop:=Knows t 0 n\/(∃j,J j/\Knows t j n)\/(∃p,M p/\Before t n p)\/(Z.Shun a.loc/\a.kind=.atomic/\(t.counts n->n<Z.N0))
theorem zI{t:Trace}{B:Nat}(h:∀op∈t,op.act.low B){n:Nat}{a:Touch}(c:touchAt t n=some a):match a.loc with|.cell ad=>ad.block<B|.obj r=>r<B|_=>True:=by
 obtain⟨x,d,b⟩:=touch_of c;have:=h x (ZV d);obtain⟨f,fn,pos,act⟩:=x;cases act with
 |access e=>simp only[MemAct.touch?,kn]at b;subst b;simp only[MemAct.low,Loc.low]at this;omega
 |mark m=>cases m<;>simp_all [MemAct.touch?,MemAct.low]<;>(subst b;simpa using this)
 |_=>simp[MemAct.touch?]at b
section
variable{Z:Base}{kk:acy}{OO:acx}{J M:ack}{w:World}{t:Trace}
theorem cA.tR(h:cA Z kk OO J M w t)(Fl:Nat->ack){u:Trace}{w':World}{kk':acy}{OO':acx}{J' M':ack}
 (U:w'.heap.size=w.heap.size) (V:Calm Z w w') (hb:∀b,Kept kk OO w w' b) (z:∀op∈u,op.act.low w.heap.size)
 (a9:∀i j,Fl i j->∀n a,touchAt t n=some a->a.loc.isMemory=true -> ¬Z.Shun a.loc->HH Z t i n->HH Z (t++u) j n)
 (O:∀j b n v,(kk' j).cell b n=some v->∃i,Fl i j/\(kk i).cell b n=some v)
 (hs:∀j b s,(kk' j).sh b=some s->∃i,Fl i j/\(kk i).sh b=some s)
 (D:∀j b x,OO' j b=some x->∃i,Fl i j/\OO i b=some x/\∀s,(kk i).sh b=some s->(kk' j).sh b=some s)
 (hd:∀i j b x,i≠j->OO' i b=some x->OO' j b=none)
 (hr:∀said,¬Race said (t++u))
 (hu:∀op∈u,∀a,op.act.touch?=some a->a.loc.isMemory=true->Ki kk OO w.heap.size a.loc)
 (W:∀m op a,u[m]?=some op->op.act.touch?=some a->a.loc.isMemory=true->Told Z J' M' (t++u) (t.size+m) a)
 (S:∀n a,touchAt t n=some a->a.loc.isMemory=true->((∃j,J j/\Knows t j n)\/(∃p,M p/\Before t n p))->Told Z J' M' (t++u) n a):cA Z kk' OO' J' M' w' (t++u):=by
 have F:∀j b n,aS (OO' j) b n->∃i,Fl i j/\aS (OO i) b n:=λj b n y=>by
  rcases y with⟨o,q⟩|⟨m,q,A⟩|⟨f,q,A⟩
  . obtain⟨i,d,g,_⟩:=D j b _ q;exact⟨i,d,.inl ⟨o,g⟩⟩
  . obtain⟨i,d,g,_⟩:=D j b _ q;exact⟨i,d,.inr (.inl ⟨m,g,A⟩)⟩
  . obtain⟨i,d,g,_⟩:=D j b _ q;exact⟨i,d,.inr (.inr ⟨f,g,A⟩)⟩
 have al:∀i j b n v,(kk i).cell b n=some v -> ¬aS (OO j) b n:=λi j b n v N=>by
  by_cases e:i=j
  . subst e;exact(h.sat i).apart b n v N
  . exact h.nE j i b n v (za e) N
 have B:∀i b x,OO i b=some x->(∀f,x≠.part f)->w'.heap[b]?=w.heap[b]?:=λi b x P av=>by
  rcases hb b with d|⟨_,_,d⟩|⟨_,_,_,_,_,_,d,_⟩
  . exact d
  . simp_all
  grind
 have hold:∀{n:Nat}{a:Touch},touchAt (t++u) n=some a->(touchAt t n=some a/\n<t.size)\/∃m op,u[m]?=some op/\op.act.touch?=some a/\n=t.size+m:=λ{n a} S=>by
  obtain⟨x,P,X⟩:=touch_of S;by_cases hn:n<t.size
  . rw[abh hn]at P
    exact .inl ⟨by rw[touchAt_of P];exact X,hn⟩
  grind
 refine⟨λj=>⟨λb n v N y=>?_,λb n v N=>?_,λb s Y=>?_,λb o C=>?_,λb n a7=>?_,λb f a8=>?_⟩,hd,λi j b n v ax N y=>?_,λj n a I A=>?_,hr,λop E=>?_,λn a I A=>?_,by simp;exact KD h.n0 (aah _ _),h.Cz _,λa G=>?_,λr G=>?_,h.yS.step V.1.1 V.1.2 (by omega) V.2,λj b x P=>by obtain⟨i,_,d,_⟩:=D j b x P;exact h.mine i b x d⟩
 . grind
 . obtain⟨i,_,d⟩:=O j b n v N
   have g:=(h.sat i).cell b n v d;rcases hb b with k|⟨⟨_,_,_,_,_,_,k⟩,_⟩|⟨c,c',e,k,Q,h5,_,T⟩
   . simpa only[World.cell?,k]using g
   . simp[World.cell?,k]at g
   . rcases T n with T|T
     . simp only[World.cell?,k,Q]at g ⊢
       grind
     grind
 . obtain⟨i,_,d⟩:=hs j b s Y
   have g:=(h.sat i).sh b s d;rcases hb b with k|⟨⟨_,_,_,_,_,_,k⟩,_⟩|⟨c,c',e,k,Q,h5,_,T⟩
   . simpa only[World.shape?,k]using g
   . simp[World.shape?,k]at g
   . simp only[World.shape?,k,Q]at g ⊢
     grind
 . obtain⟨i,_,d,_⟩:=D j b _ C
   rw[B i b _ d (λ_ e=>by cases e)];exact(h.sat i).obj b o d
 . obtain⟨i,_,d,g⟩:=D j b _ a7
   rw[B i b _ d (λ_ e=>by cases e)];obtain⟨c,e,k,Q⟩:=(h.sat i).tail b n d
   grind
 . obtain⟨i,_,d,g⟩:=D j b _ a8
   obtain⟨c,e,k,Q,h5⟩:=(h.sat i).part b f d;rcases hb b with q|⟨_,_,q⟩|⟨c0,c1,e0,q1,q2,q3,q4,_⟩
   . grind
   . grind
   grind
 . grind
 . rcases hold I with⟨l,R⟩|⟨m,op,d,g,rfl⟩
   . by_cases hK:∃i,Fl i j/\HH Z t i n/\¬Z.Shun a.loc
     . grind
     . refine .inr ?_
       have H:=zI h.seen l
       have K:∀i,Fl i j->pD (kk i) (OO i) w.heap.size a:=λi hi=>by
        by_cases G:Z.Shun a.loc
        . unfold pD
          split
          . next L z=>rw[z]at G;have:=h.lF L G;grind
          . next r z=>rw[z]at G;have:=h.oW r G;grind
          . trivial
        . rcases h.Bb i n a l A with d|d
          . grind
          . exact d
       unfold pD;split
       . next L z=>
         rw[z]at H;refine⟨by omega,λy=>?_,?_⟩
         . obtain⟨i,d,g⟩:=F j _ _ y
           have:=K i d;unfold pD at this
           grind
         . cases q:(kk' j).cell L.block L.off with
           |none=>grind
           | some v=>
             obtain⟨i,d,g⟩:=O j _ _ v q;have:=K i d;unfold pD at this
             grind
       . next r z=>
         rw[z]at H;refine⟨by omega,λo C=>?_⟩;obtain⟨i,d,g,_⟩:=D j r _ C;have:=K i d;unfold pD at this
         grind
       . trivial
   . refine .inr ?_
     have:=hu op (ZV d) a g A;unfold pD;split
     . next L z=>
       rw[z]at this;refine⟨by rw[U];exact this.1,λy=>?_,.inl ?_⟩
       . obtain⟨i,_,k⟩:=F j _ _ y
         exact(this.2 i).1 k
       . cases q:(kk' j).cell L.block L.off with
         |none=>rfl
         |some v=>obtain⟨i,_,k⟩:=O j _ _ v q;rw[(this.2 i).2]at k;cases k
     . next r z=>
       rw[z]at this;refine⟨by rw[U];exact this.1,λo C=>?_⟩;obtain⟨i,_,k,_⟩:=D j r _ C;exact this.2 i o k
     . trivial
 . rw[U]
   rcases Array.mem_append.1 E with E|E
   . exact h.seen op E
   grind
 . rcases hold I with⟨l,R⟩|⟨m,op,d,g,rfl⟩
   . rcases h.acc n a l A with d|d|d|d
     . exact .inl (d.app _)
     . exact S n a l A (.inl d)
     . exact S n a l A (.inr d)
     . exact .inr (.inr (.inr ⟨d.1,d.2.1,λO=>d.2.2 ((rI R).1 O)⟩))
   . exact W m op a d g A
 . obtain⟨d,g⟩:=h.lF a G
   refine⟨by omega,λj=>⟨λy=>?_,?_⟩⟩
   . grind
   . cases q:(kk' j).cell a.block a.off with
     |none=>rfl
     |some v=>grind
 . obtain⟨d,g⟩:=h.oW r G
   grind
theorem cA.Te(h:cA Z kk OO J M w t){z:Nat}(L:z≠Z.lk){b:Nat}{f:Nat->abV}(hb:∀i,OO i b=none)(Q:∀n v,f n=some v->∀i,(kk i).cell b n=none)
 (R:∀ad:Addr,ad.block=b->f ad.off≠none -> ¬Z.Shun (.cell ad)) (S:∃c e,w.heap[b]?=some (.cells c e (0,0))/\(kk z).sh b=some (e,c.size)/\∀n v,f n=some v->c[n]?=some v)
 (N:∀m a ad,touchAt t m=some a->a.loc=.cell ad->ad.block=b->f ad.off≠none->Knows t z m) (G:Z.W0.heap.size<=b):cA Z kk (bS OO z ((OO z).set b (.part f))) J M w t:=by
 have O:∀n,f n≠none->∀i,(kk i).cell b n=none:=λn T i=>by
  cases q:f n with
  |none=>simp_all
  |some v=>simp_all
 have s:∀c n,aS ((OO z).set b (.part f)) c n->aS (OO z) c n\/(c=b/\f n≠none):=λc n k=>by
  by_cases d:c=b
  . subst d
    rcases k with⟨o,q⟩|⟨m,q,_⟩|⟨g,q,B⟩
    . simp[aj.set]at q
    . simp[aj.set]at q
    . simp only[aj.set,if_true,kn,Own.part.injEq]at q
      simp_all
  . exact .inl (by simpa[aS,aj.set,d]using k)
 have P:Sat (kk z) ((OO z).set b (.part f)) w:=by
  refine⟨λc n v D k=>?_,(h.sat z).cell,(h.sat z).sh,λc o k=>?_,λc n k=>?_,λc g k=>?_⟩
  . rcases s c n k with k|⟨rfl,B⟩
    . exact(h.sat z).apart c n v D k
    simp_all
  . by_cases d:c=b
    . subst d;simp[aj.set]at k
    . exact(h.sat z).obj c o (by simpa[aj.set,d]using k)
  . by_cases d:c=b
    . grind
    . exact(h.sat z).tail c n (by simpa[aj.set,d]using k)
  . by_cases d:c=b
    . subst d
      simp only[aj.set,if_true,kn,Own.part.injEq]at k
      simp_all
    . exact(h.sat z).part c g (by simpa[aj.set,d]using k)
 have H:b<w.heap.size:=by grind
 refine⟨λi=>?_,λi j c x u E=>?_,λi j c n v u D k=>?_,λi n a y I=>?_,h.clean,h.seen,h.acc,h.n0,h.xc,λa y=>⟨(h.lF a y).1,λi=>⟨λk=>?_,((h.lF a y).2 i).2⟩⟩,λr F=>⟨(h.oW r F).1,λi o k=>?_⟩,h.yS,λi c x k=>?_⟩
 . by_cases p:z=i
   . subst p;rw[ao];exact P
   . rw[au _ _ (za p)];exact h.sat i
 . by_cases d:c=b
   . subst d
     by_cases K:z=j
     . subst K
       rw[au _ _ u,hb i]at E;cases E
     . rw[au _ _ (za K)];exact hb j
   . have e:∀l,bS OO z ((OO z).set b (.part f)) l c=OO l c:=λl=>by
      by_cases A:z=l
      . subst A;rw[ao];simp[aj.set,d]
      . rw[au _ _ (za A)]
     rw[e]at E ⊢;exact h.jl i j c x u E
 . by_cases p:z=i
   . subst p
     rw[ao]at k;rcases s c n k with k|⟨rfl,B⟩
     . exact h.nE z j c n v u D k
     simp_all
   . rw[au _ _ (za p)]at k;exact h.nE i j c n v u D k
 . by_cases p:z=i
   . subst p
     rw[ao];rcases h.Bb z n a y I with C|C
     . grind
     . unfold pD at C ⊢
       split
       . next ad A=>
         rw[A]at C;by_cases B:ad.block=b/\f ad.off≠none
         . exact .inl ((od L).2 (N n a ad y A B.1 B.2))
         grind
       . next r A=>
         rw[A]at C;refine .inr ⟨C.1,λo k=>?_⟩;by_cases d:r=b
         . subst d;simp[aj.set]at k
         . exact C.2 o (by simpa[aj.set,d]using k)
       simp_all
   . rw[au _ _ (za p)];exact h.Bb i n a y I
 . by_cases p:z=i
   . subst p
     rw[ao]at k;rcases s _ _ k with k|⟨e,B⟩
     . exact((h.lF a y).2 z).1 k
     simp_all
   . rw[au _ _ (za p)]at k;exact((h.lF a y).2 i).1 k
 . by_cases p:z=i
   . subst p
     rw[ao]at k;by_cases d:r=b
     . subst d;simp[aj.set]at k
     . exact(h.oW r F).2 z o (by simpa[aj.set,d]using k)
   . rw[au _ _ (za p)]at k;exact(h.oW r F).2 i o k
 . by_cases p:z=i
   . subst p
     rw[ao]at k;by_cases d:c=b
     . omega
     . exact h.mine z c x (by simpa[aj.set,d]using k)
   . rw[au _ _ (za p)]at k;exact h.mine i c x k
theorem sz(b:Nat):aj.bot b=none:=rfl
theorem cA.start{P:acD}{k:ah}{O:aj}{g:aco}{gs:abH}{w W0:World}{t:Trace}(h:dM P W0 k O g gs w t)(lk:Nat)(la:Addr)(A:0≠lk):
 ∃Z:Base,Z.N0=t.size/\Z.lk=lk/\Z.la=la/\Z.W0=W0/\gs[0]?=some g/\(∃q,Leavers P t gs q)/\Deaf t 0=0/\cA Z (bS (λ_=>ah.bot) 0 k) (bS (λ_=>aj.bot) 0 O) (λ_=>False) (λ_=>False) w t/\∀n a,touchAt t n=some a->a.loc.isMemory=true->Knows t 0 n\/(Z.Shun a.loc/\a.kind=.atomic):=by
 obtain⟨Shun,q,L,M,d,B,N,Q,C,R⟩:=h;refine⟨⟨Shun,t.size,lk,la,W0⟩,rfl,rfl,rfl,rfl,L,⟨q,M⟩,d.hears,?_,d.known⟩
 have l:∀i,i=0\/(bS (λ_=>ah.bot) 0 k i=ah.bot/\bS (λ_=>aj.bot) 0 O i=aj.bot):=λi=>by
  by_cases u:i=0
  . omega
  . exact .inr ⟨au _ _ u,au _ _ u⟩
 refine⟨λi=>?_,λi j b x m p=>?_,λi j b n v m I=>?_,λi n a s D=>?_,d.clean,d.seen,λn a s D=>?_,ZF _,λn g V S E F=>d.over n g S E F,λa s=>?_,λr T=>?_,C,λi b x p=>?_⟩
 . rcases l i with rfl|⟨y,f⟩
   . rw[ao,ao];exact Q
   . rw[y,f]
     exact⟨λ_ _ _ h=>(by cases h),λ_ _ _ h=>(by cases h),λ_ _ h=>(by cases h),λ_ _ h=>(by cases h),λ_ _ h=>(by cases h),λ_ _ h=>(by cases h)⟩
 . rcases l i with rfl|⟨_,e⟩
   . rw[au _ _ (za m)];rfl
   . rw[e]at p;cases p
 . rcases l j with rfl|⟨e,_⟩
   . rw[au _ _ m];exact dT (sz b)
   . rw[e]at I;cases I
 . have c:=zI d.seen s
   have J:pD ah.bot aj.bot w.heap.size a:=by
    unfold pD;split
    . next W G=>rw[G]at c;exact⟨c,dT (sz _),.inl rfl⟩
    . next r G=>rw[G]at c;exact⟨c,λo B=>by cases B⟩
    . trivial
   rcases l i with rfl|⟨y,f⟩
   . rw[ao,ao]
     rcases d.known n a s D with z|⟨z,K⟩
     . exact .inl ((od A).2 z)
     . refine .inr ?_
       unfold pD
       grind
   simp_all
 . rcases d.known n a s D with z|⟨z,K⟩
   . grind
   . refine .inr (.inr (.inr ⟨z,K,λ_=>?_⟩))
     obtain⟨x,p,_⟩:=touch_of s
     grind
 . obtain⟨H,U,X⟩:=B a s
   refine⟨H,λi=>?_⟩;rcases l i with rfl|⟨y,f⟩
   . rw[ao,ao];simp_all
   . rw[y,f];exact⟨dT (sz _),rfl⟩
 . obtain⟨H,U⟩:=N r T
   refine⟨H,λi o u=>?_⟩;rcases l i with rfl|⟨y,f⟩
   . rw[ao]at u;grind
   . rw[f]at u;cases u
 . rcases l i with rfl|⟨_,f⟩
   . rw[ao]at p;simp_all
   . rw[f]at p;cases p
theorem cA.finish{P:acD}{g:aco}{gs:abH}{q:acs}(h:cA Z kk OO (λ_=>False) (λ_=>False) w t)(m:gs[0]?=some g)(o:Leavers P t gs q)(hd:Deaf t 0=0):dM P Z.W0 (kk 0) (OO 0) g gs w t:=by
 refine⟨Z.Shun,q,m,o,⟨h.clean,λn a c d=>?_,λn s j e f=>?_,hd,h.seen⟩,λa c=>?_,λr k=>?_,h.sat 0,h.yS,h.mine 0⟩
 . rcases h.acc n a c d with b|⟨_,b,_⟩|⟨_,b,_⟩|⟨b,x,_⟩
   . grind
   . grind
   . grind
   simp_all
 . by_cases u:n<Z.N0
   . exact h.xc n s u j e f
   . have v:=f
     obtain⟨a,c,d,_⟩:=f;rcases h.acc n a c d with b|⟨_,b,_⟩|⟨_,b,_⟩|⟨_,_,b⟩
     . obtain⟨p,z,l,i,hb⟩:=b
       rcases hb with rfl|hb
       . rw[Trace.g?,l]at j
         simp_all
       . exact⟨p,by simp[Trace.g?,l,i],hb⟩
     . grind
     . grind
     simp_all
 . exact⟨(h.lF a c).1,((h.lF a c).2 0).1,((h.lF a c).2 0).2⟩
 . exact⟨(h.oW r k).1,(h.oW r k).2 0⟩
theorem cA.sA(h:cA Z kk OO J M w t)(S:Loc->Prop)(c:∀a,S (.cell a)->a.block<w.heap.size/\∀i,¬aS (OO i) a.block a.off/\(kk i).cell a.block a.off=none)(d:∀r,¬S (.obj r)):
 cA ⟨λl=>Z.Shun l\/S l,Z.N0,Z.lk,Z.la,Z.W0⟩ kk OO J M w t:=
 ⟨h.sat,h.jl,h.nE,h.Bb,h.clean,h.seen,λn a b e=>(h.acc n a b e).imp id (·.imp id (·.imp id λx=>⟨.inl x.1,x.2⟩)),h.n0,h.xc,
   λa b=>b.elim (h.lF a) (c a),λr f=>f.elim (h.oW r) (λx=>absurd x (d r)),h.yS,h.mine⟩
end
def ku(u:Trace):Prop:=∀op∈u,op.act≠.mark .disable/\op.act≠.mark .enable
theorem tT{t u:Trace}(a:ku u)(g:Nat):∀m,m<=u.size->(t++u).deaf g (t.size+m)=Deaf t g
 |0,_=>deaf_old (ZF _)
 | m+1,h=>by
   have b:m<u.size:=by omega
   have c:(t++u)[t.size+m]?=some u[m]:=by simp_all
   rw[<-Nat.add_assoc,deaf_succ c,tT a g m (by omega)];have:=a u[m] (Array.getElem_mem b);unfold deafStep
   simp_all
theorem cj{t u:Trace}(a:ku u)(g:Nat):Deaf (t++u) g=Deaf t g:=by
 have:=tT (t:=t) a g u.size (ZF _);unfold Deaf at *
 simp_all
theorem du{t u:Trace}{m:Nat}{op:MemOp}(h:u[m]?=some op):(t++u)[t.size+m]?=some op:=by grind
theorem heard_new{t u:Trace}(a:ku u){m:Nat}{op:MemOp}(h:u[m]?=some op)(hd:Deaf t op.g=0):(t++u).heard (t.size+m):=by have b:=(Array.getElem?_eq_some_iff.1 h).1;exact⟨op.g,by simp[Trace.g?,du h],by rw[tT a _ _ (by omega)];exact hd⟩
section
variable{t u:Trace}{i j n:Nat}
theorem lG(a:Knows t i n){m:Nat}{op:MemOp}(h:u[m]?=some op)(b:op.g=i):Before (t++u) n (t.size+m):=.inr (a.hb_new (by omega) (du h) b)
theorem xe(d:ku u){c k m1 m2:Nat}{x y:MemOp}(a:u[m1]?=some x)(b:u[m2]?=some y)(e:x.act=.send c k)(f:y.act=.recvDone c k)(h:Deaf t x.g=0)(i:Deaf t y.g=0)(j:Knows t x.g n):Knows (t++u) y.g n:=by
 have l:=lG j a rfl;have m:HappensBefore (t++u) (t.size+m1) (t.size+m2):=.single (.inr ⟨.handOver (c:=c) (k:=k) (by rw[act?_of (du a),e]) (by rw[act?_of (du b),f]),heard_new d a h,heard_new d b i⟩);exact⟨t.size+m2,y,du b,rfl,l.trans (.inr m)⟩
theorem Bd(e:ku u){c m p:Nat}{y:MemOp}(b:u[m]?=some y)(d:t.act? p=some (.close c))(f:t.heard p)(h:y.act=.recvClosed c)(i:Deaf t y.g=0)(hb:Before t n p):Knows (t++u) y.g n:=by
 have a:=lt_of_act? d;have j:HappensBefore (t++u) p (t.size+m):=.single (.inr ⟨.closed (c:=c) (by rw[act?_old a];exact d) (by rw[act?_of (du b),h]),(heard_old a).2 f,heard_new e b i⟩);exact⟨t.size+m,y,du b,rfl,(hb.app u).trans (.inr j)⟩
theorem u'(d:ku u){c m1 m2:Nat}{x y:MemOp}(b:u[m1]?=some x)(a:u[m2]?=some y)(e:x.act=.go y.g)(f:y.act=.start)(h:Deaf t x.g=0)(i:Deaf t y.g=0)(j:Knows t x.g n):Knows (t++u) y.g n:=by
 have k:=lG j b rfl;have l:HappensBefore (t++u) (t.size+m1) (t.size+m2):=.single (.inr ⟨.spawn (child:=y.g) (by rw[act?_of (du b),e]) (by rw[act?_of (du a),f]) (by simp[Trace.g?,du a]),heard_new d b h,heard_new d a i⟩);exact⟨t.size+m2,y,du a,rfl,k.trans (.inr l)⟩
end
theorem mZ{t u:Trace}(f:ku u){a:Addr}{m p n:Nat}{y:MemOp}(c:u[m]?=some y)(h:y.act=.mark (.acquire a))(i:Deaf t y.g=0)(e:t.act? p=some (.mark (.releaseMerge a)))(j:t.heard p)(d:∀k,p<k->(t++u).act? k≠some (.mark (.release a)))(hb:Before t n p):Knows (t++u) y.g n:=by
 have b:=lt_of_act? e;have l:HappensBefore (t++u) p (t.size+m):=.single (.inr ⟨.marked (a:=a) (by omega) (.inr (by rw[act?_old b];exact e)) (by rw[act?_of (du c),h]) (λk o _=>d k o),(heard_old b).2 j,heard_new f c i⟩);exact⟨t.size+m,y,du c,rfl,(hb.app u).trans (.inr l)⟩
theorem xf{k:ah}{O:aj}{B:Nat}{es:aca}(h:∀e∈es.toList,iY k O B e)(g:Nat)(fn:FuncId)(pos:String):ku (MemOp.ofEvents g fn pos es):=λop a=>by
 obtain⟨e,c,rfl⟩:=Go.Conc.mem_ofEvents a;have:=h e (by simp_all);obtain⟨loc,wr,b⟩:=e;cases loc with
 |cell d=>simp[MemAct.ofEvent]
 |obj r=>cases wr<;>cases b<;>simp[MemAct.ofEvent]
 |mark m=>simp only[iY]at this;cases m<;>simp_all [jT,mV,MemAct.ofEvent]
 |_=>simp[iY]at this
end Go.bQ
namespace Go.bQ.Mu
structure Wd where
 L:Bool
 K:Bool
 S:Bool
 N:Nat
 deriving DecidableEq
def Wd.zero:Wd:=⟨false,false,false,0⟩
structure Lo where
 aw:Bool
 sv:Bool
 it:Nat
 deriving DecidableEq
inductive Pc where
 |out
 |iq
 |rd (l:Lo)
 |sq (old:Wd) (l:Lo)
 |sw (old:Wd) (l:Lo)
 |ko (old:Wd) (l:Lo)
 |gE (sv:Bool)
 |tq
 |up (sv:Bool)
 |add (old:Wd) (sv:Bool)
 |held
 |ja (old:Wd)
 |vC
 |give
 |bad
 deriving DecidableEq
def hd(old:Wd)(l:Lo):List Pc:=(if old.L && !old.S && decide (l.it<4)then[if !l.aw && !old.K && decide (old.N≠0)then .sw old l else .rd {l with it:=l.it+1}]else[])++[.ko old l]
def nx(old:Wd)(l:Lo):Pc:=if old.L && !old.S then .sq old l else .ko old l
def pF(old:Wd)(l:Lo):Wd:=⟨old.L||!old.S,if l.aw then false else old.K,old.S||(l.sv && old.L),if old.L||old.S then old.N+1 else old.N⟩
structure Sh where
 w:Wd
 ms:Nat
 deriving DecidableEq
def mv(p:Pc)(s:Sh):List (Pc × Sh):=
 match p with
 |.out=>[]
 |.iq=>if s.w=.zero then[(.held,{s with w:={Wd.zero with L:=true}})]else[(.rd ⟨false,false,0⟩,s)]
 |.rd l=>[(nx s.w l,s)]
 |.sq old l=>(hd old l).map (·,s)
 |.sw old l=>if s.w=old then[(.rd {l with aw:=true,it:=l.it+1},{s with w:={old with K:=true}})]else[(.rd {l with it:=l.it+1},s)]
 | .ko old l=>
   if l.aw && !old.K then[(.bad,s)]else
   if s.w=old then[(if old.L||old.S then .gE l.sv else .held,{s with w:=pF old l})]else[(.rd l,s)]
 |.gE sv=>if s.ms=0 then[]else[(if sv then .up true else .tq,{s with ms:=s.ms-1})]
 |.tq=>[(.up false,s),(.up true,s)]
 |.up sv=>if s.w.S then(if s.w.L||s.w.K||decide (s.w.N=0)then[(.bad,s)]else[(.add s.w sv,s)])else[(nx s.w ⟨true,sv,0⟩,s)]
 |.add old sv=>[(.held,{s with w:={s.w with L:=true,S:=s.w.S && !(!sv||decide (old.N=1)),N:=s.w.N-1}})]
 | .held=>
   let w:={s.w with L:=false}
   if s.w.L=false then[(.bad,s)]else
   [(if w=.zero then .out else if w.S then .give else if decide (w.N=0)||w.K then .out else .ja w,{s with w})]
 |.ja old=>if s.w=old then[(.give,{s with w:={old with K:=true,N:=old.N-1}})]else[(.vC,s)]
 |.vC=>[(if decide (s.w.N=0)||s.w.L||s.w.K||s.w.S then .out else .ja s.w,s)]
 |.give=>[(.out,{s with ms:=s.ms+1})]
 |.bad=>[]
def fB(n:Nat)(f:acs):Nat:=match n with
 |0=>0
 |n+1=>fB n f+f n
def set(pcs:Nat->Pc)(i:Nat)(p:Pc):Nat->Pc:=λj=>if j=i then p else pcs j
theorem ak(pcs:Nat->Pc)(i:Nat)(p:Pc):set pcs i p i=p:=by simp[set]
theorem ai(pcs:Nat->Pc){i j:Nat}(p:Pc)(h:j≠i):set pcs i p j=pcs j:=by simp[set,h]
theorem tV{f g:acs}:∀{n:Nat},(∀i,i<n->f i=g i)->fB n f=fB n g
 |0,_=>rfl
 |n+1,h=>by rw[fB,fB,tV (n:=n) λi a=>h i (by omega),h n (by omega)]
theorem gk(f:Pc->Nat)(pcs:Nat->Pc)(i:Nat)(p:Pc):∀{n:Nat},i<n->fB n (λj=>f (set pcs i p j))+f (pcs i)=fB n (λj=>f (pcs j))+f p
 |0,h=>by omega
 | n + 1,h=>by
   by_cases e:i=n
   . subst e
     rw[fB,fB,ak,tV (g:=λj=>f (pcs j)) λj a=>by rw[ai pcs p (show j≠i by omega)]];omega
   . have:=gk f pcs i p (n:=n) (by omega)
     rw[fB,fB,ai pcs p (show n≠i by omega)];omega
theorem iN(f:acs){i:Nat}:∀{n:Nat},i<n->f i<=fB n f
 |0,h=>by omega
 | n+1,h=>by
   rw[fB];by_cases e:i=n
   . simp_all
   . have:=iN f (n:=n) (i:=i) (by omega);omega
theorem CA{f:acs}:∀{n:Nat},fB n f=0->∀i,i<n->f i=0
 |0,_,i,a=>by omega
 | n+1,h,i,a=>by
   rw[fB]at h;by_cases e:i=n
   . simp_all
   . exact CA (n:=n) (by omega) i (by omega)
def cd:Pc->Nat|.held=>1|_=>0
def fI:Pc->Nat|.rd l=>l.aw.toNat|.sq _ l=>l.aw.toNat|.sw _ l=>l.aw.toNat|.ko _ l=>l.aw.toNat|_=>0
def cJ:Pc->Nat|.gE _=>1|_=>0
def cK:Pc->Nat|.give=>1|_=>0
def m5:Pc->Nat|.tq=>1|.up _=>1|_=>0
def dg:Pc->Nat|.add _ _=>1|_=>0
def ir:Pc->Nat|.ja _=>1|.vC=>1|_=>0
def loc:Pc->Prop
 |.rd l=>(l.sv=true->l.aw=true)/\l.it<=4
 |.sq old l=>(l.aw=true->old.K=true)/\(l.sv=true->l.aw=true)/\l.it<=4/\old.L=true/\old.S=false
 |.sw old l=>l.aw=false/\l.sv=false/\old.L=true/\old.S=false/\old.K=false/\l.it<4
 |.ko old l=>(l.aw=true->old.K=true)/\(l.sv=true->l.aw=true)/\l.it<=4
 |.ja old=>old.L=false/\old.K=false/\old.S=false/\old.N≠0
 |.bad=>False
 |_=>True
structure Inv0(n:Nat)(pcs:Nat->Pc)(s:Sh):Prop where
 j0:∀i,i<n->loc (pcs i)
 j1:fB n (λi=>cd (pcs i))=s.w.L.toNat
 j2:s.w.S=false->fB n (λi=>fI (pcs i))+fB n (λi=>cK (pcs i))+s.ms+fB n (λi=>m5 (pcs i))=s.w.K.toNat/\fB n (λi=>dg (pcs i))=0/\fB n (λi=>cJ (pcs i))=s.w.N+fB n (λi=>cK (pcs i))+s.ms
 j3:s.w.S=true->s.w.K=false/\fB n (λi=>fI (pcs i))=0/\fB n (λi=>cK (pcs i))+s.ms+fB n (λi=>m5 (pcs i))+fB n (λi=>dg (pcs i))=(!s.w.L).toNat/\fB n (λi=>cJ (pcs i))+fB n (λi=>m5 (pcs i))+fB n (λi=>dg (pcs i))=s.w.N
 j4:s.w.L=false->s.w.K=false->s.w.S=false->s.w.N≠0->0<fB n (λi=>ir (pcs i))
theorem QP{old:Wd}{l:Lo}(a:l.sv=true->l.aw=true)(b:l.it<=4)(c:l.aw=true->old.K=true){p:Pc}(h:p∈hd old l):loc p/\fI p=l.aw.toNat/\cd p=0/\cJ p=0/\cK p=0/\m5 p=0/\dg p=0/\ir p=0:=by
 obtain⟨aw,sv,it⟩:=l;obtain⟨i,j,k,m⟩:=old;simp only at a b c;unfold hd at h;simp only[aaG,lb]at h;rcases h with h|rfl
 . split at h
   . rename_i d
     simp at d;simp only[lb]at h;subst h;split
     . rename_i e
       simp at e;obtain⟨⟨f,g⟩,n⟩:=e;subst f;have:sv=false:=by simp_all
       simp[loc,fI,cd,cJ,cK,m5,dg,ir,d,this,g]
     . exact⟨⟨a,by grind⟩,rfl,rfl,rfl,rfl,rfl,rfl,rfl⟩
   . simp at h
 . exact⟨⟨c,a,b⟩,rfl,rfl,rfl,rfl,rfl,rfl,rfl⟩
theorem Kj{old:Wd}{l:Lo}(a:l.sv=true->l.aw=true)(b:l.it<=4)(c:l.aw=true->old.K=true):loc (nx old l)/\fI (nx old l)=l.aw.toNat/\cd (nx old l)=0/\cJ (nx old l)=0/\cK (nx old l)=0/\m5 (nx old l)=0/\dg (nx old l)=0/\ir (nx old l)=0:=by
 unfold nx;split
 . rename_i h
   simp at h;exact⟨⟨c,a,b,h.1,h.2⟩,rfl,rfl,rfl,rfl,rfl,rfl,rfl⟩
 . exact⟨⟨c,a,b⟩,rfl,rfl,rfl,rfl,rfl,rfl,rfl⟩
set_option maxHeartbeats 2000000 in
theorem Inv0.step{n:Nat}{pcs:Nat->Pc}{s s':Sh}{i:Nat}{q:Pc}(h:Inv0 n pcs s)(hi:i<n)(a:(q,s')∈mv (pcs i) s):Inv0 n (set pcs i q) s':=by
 have H:=gk cd pcs i q hi;have A:=gk fI pcs i q hi;have P:=gk cJ pcs i q hi;have G:=gk cK pcs i q hi;have U:=gk m5 pcs i q hi;have D:=gk dg pcs i q hi;have R:=gk ir pcs i q hi;have J:=iN (λj=>cd (pcs j)) hi
 have M:=iN (λj=>fI (pcs j)) hi
 have V:=iN (λj=>cJ (pcs j)) hi
 have O:=iN (λj=>cK (pcs j)) hi
 have C:=iN (λj=>m5 (pcs j)) hi
 have Q:=iN (λj=>dg (pcs j)) hi
 have E:=iN (λj=>ir (pcs j)) hi
 have y:=h.j0 i hi;obtain⟨⟨d,f,g,W⟩,ms⟩:=s;have j1:=h.j1;have j2:=h.j2;have j3:=h.j3;have j4:=h.j4;simp only at j1 j2 j3 j4
 have key:∀(m:Wd) (t:Nat),s'=⟨m,t⟩->loc q->(fB n (λj=>cd (set pcs i q j))=m.L.toNat) ->
  (m.S=false->fB n (λj=>fI (set pcs i q j))+fB n (λj=>cK (set pcs i q j))+t+fB n (λj=>m5 (set pcs i q j))=m.K.toNat/\fB n (λj=>dg (set pcs i q j))=0/\fB n (λj=>cJ (set pcs i q j))=m.N+fB n (λj=>cK (set pcs i q j))+t) ->
  (m.S=true->m.K=false/\fB n (λj=>fI (set pcs i q j))=0/\fB n (λj=>cK (set pcs i q j))+t+fB n (λj=>m5 (set pcs i q j))+fB n (λj=>dg (set pcs i q j))=(!m.L).toNat/\fB n (λj=>cJ (set pcs i q j))+fB n (λj=>m5 (set pcs i q j))+fB n (λj=>dg (set pcs i q j))=m.N) ->
  (m.L=false->m.K=false->m.S=false->m.N≠0->0<fB n (λj=>ir (set pcs i q j)))->Inv0 n (set pcs i q) s':=by
  rintro m t rfl F o v r z
  refine⟨λj hj=>?_,o,v,r,z⟩
  by_cases e:j=i
  . subst e;rw[ak];exact F
  . rw[ai pcs q e];exact h.j0 j hj
 generalize hp:pcs i=p at *;generalize fB n (λj=>cd (set pcs i q j))=H' at *
 generalize fB n (λj=>fI (set pcs i q j))=A' at *
 generalize fB n (λj=>cJ (set pcs i q j))=P' at *
 generalize fB n (λj=>cK (set pcs i q j))=G' at *
 generalize fB n (λj=>m5 (set pcs i q j))=U' at *
 generalize fB n (λj=>dg (set pcs i q j))=D' at *
 generalize fB n (λj=>ir (set pcs i q j))=R' at *
 generalize fB n (λj=>cd (pcs j))=H0 at *
 generalize fB n (λj=>fI (pcs j))=A0 at *
 generalize fB n (λj=>cJ (pcs j))=P0 at *
 generalize fB n (λj=>cK (pcs j))=G0 at *
 generalize fB n (λj=>m5 (pcs j))=U0 at *
 generalize fB n (λj=>dg (pcs j))=D0 at *
 generalize fB n (λj=>ir (pcs j))=R0 at *
 cases p with
 |out=>simp[mv]at a
 |bad=>simp[mv]at a
 | iq=>
   simp only[mv]at a;split at a
   . rename_i c
     simp only[Wd.zero,Wd.mk.injEq]at c;obtain⟨rfl,rfl,rfl,rfl⟩:=c;simp only[lb,zG]at a;obtain⟨rfl,rfl⟩:=a;refine key _ _ rfl trivial ?_ ?_ ?_ ?_<;>simp[cd,fI,cJ,cK,m5,dg,ir,Wd.zero]at *<;>omega
   . simp only[lb,zG]at a
     obtain⟨rfl,rfl⟩:=a;refine key _ _ rfl (by simp[loc]) ?_ ?_ ?_ ?_<;>simp[cd,fI,cJ,cK,m5,dg,ir,Wd.zero]at *<;>cases d<;>cases f<;>cases g<;>simp at *<;>omega
 | rd l=>
   simp only[mv,lb,zG]at a;obtain⟨rfl,rfl⟩:=a
   have X:l.aw=true->f=true:=λha=>by
    simp[fI,ha]at M;cases g
    . have:=(j2 rfl).1
      cases f
      . simp at this;omega
      . rfl
    . have:=(j3 rfl).2.1;omega
   obtain⟨F,o,v,r,z,Y,Z,k7⟩:=Kj (old:=⟨d,f,g,W⟩) y.1 y.2 X;rw[o]at A;rw[v]at H;rw[r]at P;rw[z]at G;rw[Y]at U;rw[Z]at D;rw[k7]at R;refine key _ _ rfl F ?_ ?_ ?_ ?_<;>simp[cd,fI,cJ,cK,m5,dg,ir]at H A P G U D R ⊢<;>cases d<;>cases f<;>cases g<;>simp at j1 j2 j3 j4 ⊢<;>omega
 |sq old l=>simp only[mv,abd,zG]at a;obtain⟨q',k,rfl,rfl⟩:=a;obtain⟨F,o,v,r,z,Y,Z,k7⟩:=QP y.2.1 y.2.2.1 y.1 k;rw[o]at A;rw[v]at H;rw[r]at P;rw[z]at G;rw[Y]at U;rw[Z]at D;rw[k7]at R;refine key _ _ rfl F ?_ ?_ ?_ ?_<;>simp[cd,fI,cJ,cK,m5,dg,ir]at H A P G U D R ⊢<;>cases d<;>cases f<;>cases g<;>simp at j1 j2 j3 j4 ⊢<;>omega
 | sw old l=>
   obtain⟨oL,oK,oS,oN⟩:=old;obtain⟨w,x,B,T,h5,h6⟩:=y;obtain⟨aw,sv,it⟩:=l;simp only at w x B T h5 h6;subst w;subst x;subst B;subst T;subst h5;simp only[mv]at a;split at a
   . rename_i c
     simp only[Wd.mk.injEq]at c;obtain⟨rfl,rfl,rfl,rfl⟩:=c;simp only[lb,zG]at a;obtain⟨rfl,rfl⟩:=a;refine key _ _ rfl (by simp[loc];omega) ?_ ?_ ?_ ?_<;>simp[cd,fI,cJ,cK,m5,dg,ir]at *<;>omega
   . simp only[lb,zG]at a
     obtain⟨rfl,rfl⟩:=a;refine key _ _ rfl (by simp[loc];omega) ?_ ?_ ?_ ?_<;>simp[cd,fI,cJ,cK,m5,dg,ir]at H A P G U D R ⊢<;>cases d<;>cases f<;>cases g<;>simp at j1 j2 j3 j4 ⊢<;>omega
 | ko old l=>
   obtain⟨oL,oK,oS,oN⟩:=old;obtain⟨w,x,B⟩:=y;obtain⟨aw,sv,it⟩:=l;simp only at w x B;simp only[mv]at a;split at a
   . rename_i c
     simp at c;have:=w c.1;rw[this]at c;simp at c
   split at a
   . rename_i c
     simp only[Wd.mk.injEq]at c;obtain⟨rfl,rfl,rfl,rfl⟩:=c;simp only[lb,zG]at a;obtain⟨k,rfl⟩:=a;cases aw<;>cases sv<;>simp only[zR,false_implies,true_implies,imp_false,not_true]at x
     all_goals cases d<;>cases g<;>simp at k<;>subst k
     all_goals refine key _ _ rfl (by simp[loc]) ?_ ?_ ?_ ?_<;>simp[cd,fI,cJ,cK,m5,dg,ir,pF]at H A P G U D R J M V O C Q E ⊢<;>cases f<;>simp at j1 j2 j3 j4 w ⊢<;>omega
   . simp only[lb,zG]at a
     obtain⟨rfl,rfl⟩:=a;refine key _ _ rfl ⟨x,B⟩ ?_ ?_ ?_ ?_<;>simp[cd,fI,cJ,cK,m5,dg,ir]at H A P G U D R ⊢<;>cases d<;>cases f<;>cases g<;>simp at j1 j2 j3 j4 ⊢<;>omega
 | gE sv=>
   simp only[mv]at a;split at a
   . simp at a
   . rename_i c
     simp only[lb,zG]at a;obtain⟨rfl,rfl⟩:=a;cases sv
     all_goals refine key _ _ rfl trivial ?_ ?_ ?_ ?_<;>simp[cd,fI,cJ,cK,m5,dg,ir]at H A P G U D R J M V O C Q E ⊢<;>cases d<;>cases f<;>cases g<;>simp at j1 j2 j3 j4 ⊢<;>omega
 | tq=>
   simp only[mv,aax,zG,aaE,or_false]at a
   rcases a with⟨rfl,rfl⟩|⟨rfl,rfl⟩
   all_goals refine key _ _ rfl trivial ?_ ?_ ?_ ?_<;>simp[cd,fI,cJ,cK,m5,dg,ir]at H A P G U D R J M V O C Q E ⊢<;>cases d<;>cases f<;>cases g<;>simp at j1 j2 j3 j4 ⊢<;>omega
 | up sv=>
   simp only[mv]at a;split at a
   . rename_i c
     subst c;obtain⟨o,v,r,z⟩:=j3 rfl;simp[m5]at C;have I:d=false:=by cases d<;>simp at r ⊢;omega
     subst I;subst o;have hN:W≠0:=by omega
     simp only[Bool.false_or,hN,decide_false,zR,if_false,lb,zG]at a;obtain⟨rfl,rfl⟩:=a;refine key _ _ rfl trivial ?_ ?_ ?_ ?_<;>simp[cd,fI,cJ,cK,m5,dg,ir]at H A P G U D R r j1 ⊢<;>omega
   . rename_i c
     simp at c;subst c;simp only[lb,zG]at a;obtain⟨rfl,rfl⟩:=a;obtain⟨o,v,r⟩:=j2 rfl;simp[m5]at C;have X:f=true:=by cases f<;>simp at o ⊢;omega
     subst X;obtain⟨l0,l1,l2,l3,l4,l5,l6,l7⟩:=Kj (l:=⟨true,sv,0⟩) (old:=⟨d,true,false,W⟩) (λ_=>rfl) (by simp) (λ_=>rfl)
     rw[l1]at A;rw[l2]at H;rw[l3]at P;rw[l4]at G;rw[l5]at U;rw[l6]at D;rw[l7]at R;refine key _ _ rfl l0 ?_ ?_ ?_ ?_<;>simp[cd,fI,cJ,cK,m5,dg,ir]at H A P G U D R o ⊢<;>cases d<;>simp at j1 j4 ⊢<;>omega
 | add old sv=>
   simp only[mv,lb,zG]at a;obtain⟨rfl,rfl⟩:=a;simp[dg]at Q
   have hS:g=true:=by
    cases g with
    |true=>rfl
    |false=>have:=(j2 rfl).2.1;omega
   subst hS;obtain⟨o,v,r,z⟩:=j3 rfl;have I:d=false:=by cases d<;>simp at r ⊢;omega
   subst I;subst o;generalize hb:(true && !(!sv||decide (old.N=1)))=b at key ⊢
   refine key _ _ rfl trivial ?_ ?_ ?_ ?_<;>simp[cd,fI,cJ,cK,m5,dg,ir]at H A P G U D R r j1 ⊢<;>cases b<;>(try simp)<;>omega
 | held=>
   simp[cd]at J;have I:d=true:=by cases d<;>simp at j1 ⊢;omega
   subst I;simp only[mv,aaK,if_false,lb,zG]at a;obtain⟨k,rfl⟩:=a;split at k
   . rename_i c
     simp only[Wd.zero,Wd.mk.injEq,true_and]at c;obtain⟨rfl,rfl,rfl⟩:=c;subst k;refine key _ _ rfl trivial ?_ ?_ ?_ ?_<;>simp[cd,fI,cJ,cK,m5,dg,ir]at *<;>omega
   split at k
   . rename_i c
     have c:g=true:=c;subst c;subst k;obtain⟨o,v,r,z⟩:=j3 rfl;subst o;refine key _ _ rfl trivial ?_ ?_ ?_ ?_<;>simp[cd,fI,cJ,cK,m5,dg,ir]at H A P G U D R j1 r ⊢<;>omega
   split at k
   . rename_i a7 u c
     simp at u;subst u;subst k;refine key _ _ rfl trivial ?_ ?_ ?_ ?_<;>simp[cd,fI,cJ,cK,m5,dg,ir]at *<;>cases f<;>simp at *<;>omega
   . rename_i a7 u c
     simp at u c;subst u;subst k;refine key _ _ rfl (by simp[loc,c]) ?_ ?_ ?_ ?_<;>simp[cd,fI,cJ,cK,m5,dg,ir]at *<;>simp[c]at *<;>omega
 | ja old=>
   obtain⟨oL,oK,oS,oN⟩:=old;obtain⟨w,x,B,T⟩:=y;simp only at w x B T;subst w;subst x;subst B;simp only[mv]at a;split at a
   . rename_i c
     simp only[Wd.mk.injEq]at c;obtain⟨rfl,rfl,rfl,rfl⟩:=c;simp only[lb,zG]at a;obtain⟨rfl,rfl⟩:=a;refine key _ _ rfl trivial ?_ ?_ ?_ ?_<;>simp[cd,fI,cJ,cK,m5,dg,ir]at *<;>omega
   . simp only[lb,zG]at a
     obtain⟨rfl,rfl⟩:=a;refine key _ _ rfl trivial ?_ ?_ ?_ ?_<;>simp[cd,fI,cJ,cK,m5,dg,ir]at H A P G U D R E ⊢<;>cases d<;>cases f<;>cases g<;>simp at j1 j2 j3 j4 ⊢<;>omega
 | vC=>
   simp only[mv,lb,zG]at a;obtain⟨k,rfl⟩:=a;split at k
   . rename_i c
     subst k;refine key _ _ rfl trivial ?_ ?_ ?_ ?_<;>simp[cd,fI,cJ,cK,m5,dg,ir]at H A P G U D R E c ⊢<;>cases d<;>cases f<;>cases g<;>simp at j1 j2 j3 j4 c ⊢<;>omega
   . rename_i c
     simp at c;subst k;obtain⟨⟨⟨z1,z2⟩,z3⟩,z4⟩:=c;subst z2;subst z3;subst z4;refine key _ _ rfl (by simp[loc,z1]) ?_ ?_ ?_ ?_<;>simp[cd,fI,cJ,cK,m5,dg,ir]at *<;>omega
 |give=>simp only[mv,lb,zG]at a;obtain⟨rfl,rfl⟩:=a;refine key _ _ rfl trivial ?_ ?_ ?_ ?_<;>simp[cd,fI,cJ,cK,m5,dg,ir]at H A P G U D R O ⊢<;>cases d<;>cases f<;>cases g<;>simp at j1 j2 j3 j4 ⊢<;>omega
structure Inv(n:Nat)(pcs:Nat->Pc)(s:Sh):Prop extends Inv0 n pcs s where
 j5:s.w.S=true->s.w.N≠0
 j6:∀i,i<n->∀old sv,pcs i=.add old sv->old.N<=s.w.N/\old.N≠0
theorem Inv0.PR{n:Nat}{pcs:Nat->Pc}{s:Sh}(h:Inv0 n pcs s){i:Nat}(hi:i<n){old:Wd}{sv:Bool}(a:pcs i=.add old sv):s.w.S=true/\fB n (λi=>dg (pcs i))<=1:=by
 have c:dg (pcs i)=1:=by rw[a];rfl
 have d:dg (pcs i)<=fB n (λi=>dg (pcs i)):=iN (λi=>dg (pcs i)) hi
 cases e:s.w.S with
 |true=>refine⟨rfl,?_⟩;have:=(h.j3 e).2.2.1;cases b:s.w.L<;>rw[b]at this<;>simp at this<;>omega
 |false=>have:=(h.j2 e).2.1;omega
theorem Inv0.add_one{n:Nat}{pcs:Nat->Pc}{s:Sh}(h:Inv0 n pcs s){i l:Nat}(hi:i<n)(f:l<n){old a:Wd}{sv b:Bool}(d:pcs i=.add old sv)(c:pcs l=.add a b):i=l:=by
 by_cases e:i=l
 . exact e
 . have k:=(h.PR hi d).2
   have m:=gk dg pcs i .out hi;have g:dg (set pcs i .out l)<=fB n (λj=>dg (set pcs i .out j)):=iN (λj=>dg (set pcs i .out j)) f
   rw[ai pcs Pc.out (za e)]at g;have o:dg (pcs i)=1:=by rw[d];rfl
   have p:dg (pcs l)=1:=by rw[c];rfl
   have q:dg .out=0:=rfl;omega
theorem Inv.step{n:Nat}{pcs:Nat->Pc}{s s':Sh}{i:Nat}{q:Pc}(h:Inv n pcs s)(hi:i<n)(b:(q,s')∈mv (pcs i) s):Inv n (set pcs i q) s':=by
 have j:=h.j0 i hi
 have key:(s'.w.S=true->s'.w.N≠0)/\(s.w.N<=s'.w.N\/(∃old sv,pcs i=.add old sv)\/s.w.S=false)/\(∀old sv,q=.add old sv->old.N<=s'.w.N/\old.N≠0):=by
  have g:=h.j5;have k:=h.j6 i hi;revert b j k;cases pcs i with
  |out=>intro b;simp[mv]at b
  |bad=>intro b;simp[mv]at b
  | iq=>
    intro b _ _;simp only[mv]at b
    grind
  |rd l=>intro b _ _;simp[mv]at b;obtain⟨rfl,rfl⟩:=b;exact⟨g,.inl (ZF _),λold sv h=>by unfold nx at h;grind⟩
  | sq o l=>
    intro b _ _;simp only[mv,abd,zG]at b;obtain⟨a,p,rfl,rfl⟩:=b;refine⟨g,.inl (ZF _),λold sv h=>?_⟩;subst h;unfold hd at p
    grind
  | sw o l=>
    intro b _ _;simp only[mv]at b
    grind
  | ko o l=>
    intro b _ _;simp only[mv]at b;split at b
    . simp_all
    . split at b
      . rename_i m
        simp at b;obtain⟨rfl,rfl⟩:=b;rw[m]at g ⊢;refine⟨λh=>?_,.inl ?_,λold sv h=>by grind⟩
        . unfold pF at h ⊢
          grind
        . unfold pF
          grind
      simp_all
  | gE sv=>
    intro b _ _;simp only[mv]at b
    grind
  | tq=>
    intro b _ _;simp[mv]at b
    grind
  | up sv=>
    intro b _ _;simp only[mv]at b;split at b
    . grind
    . simp at b;obtain⟨rfl,rfl⟩:=b
      exact⟨g,.inl (ZF _),λold sv h=>by unfold nx at h;grind⟩
  |add o sv=>intro b _ k;simp[mv]at b;grind
  | held=>
    intro b _ _;simp only[mv]at b
    grind
  | ja o=>
    intro b j _;simp only[mv]at b;split at b
    . rename_i m
      simp at b;obtain⟨rfl,rfl⟩:=b;have v:o.S=false:=j.2.2.1
      simp_all
    simp_all
  |vC=>intro b _ _;simp only[mv,lb,zG]at b;grind
  |give=>intro b _ _;simp[mv]at b;simp_all
 obtain⟨r,c,x⟩:=key;refine⟨h.toInv0.step hi b,r,λl d old sv f=>?_⟩;by_cases e:l=i
 . subst e
   rw[ak]at f
   simp_all
 . rw[ai pcs q e]at f
   obtain⟨y,t⟩:=h.j6 l d old sv f;refine⟨?_,t⟩;rcases c with c|⟨o,u,c⟩|c
   . omega
   . exact absurd (h.toInv0.add_one hi d c f) (za e)
   . rw[(h.toInv0.PR d f).1]at c;cases c
theorem Be:∀n:Nat,fB n (λ_=>0)=0
 |0=>rfl
 |n+1=>by rw[fB,Be n]
theorem Inv.rest{n:Nat}{pcs:Nat->Pc}{s:Sh}(h:Inv n pcs s)(l:∀i,i<n->pcs i=.out):s.w=.zero/\s.ms=0:=by
 have f:∀(F:Pc->Nat),F .out=0->fB n (λi=>F (pcs i))=0:=λF m=>by
  have:fB n (λi=>F (pcs i))=fB n (λ_=>0):=tV λi o=>by simp_all
  rw[this];exact Be n
 have L:s.w.L=false:=by
  have:=h.j1;rw[f cd rfl]at this
  grind
 have S:s.w.S=false:=by
  cases e:s.w.S with
  |false=>rfl
  |true=>have:=(h.j3 e).2.2.2;rw[f cJ rfl,f m5 rfl,f dg rfl]at this;exact absurd this.symm (h.j5 e)
 obtain⟨g,p,j⟩:=h.j2 S;rw[f fI rfl,f cK rfl,f m5 rfl]at g;rw[f cJ rfl,f cK rfl]at j;have K:s.w.K=false:=by grind
 refine⟨?_,by omega⟩;have N:s.w.N=0:=by omega
 cases k:s.w with
 |mk a b c d=>rw[k]at L S K N;simp only at L S K N;subst L;subst S;subst K;subst N;rfl
def gF:Pc->Nat
 |.out=>0
 |.iq=>6
 |.rd l=>if l.aw then 5 else 6
 |.sq _ l=>if l.aw then 5 else 6
 |.sw _ _=>6
 |.ko _ l=>if l.aw then 5 else 6
 |.gE _=>4
 |.tq=>5
 |.up _=>5
 |.add _ _=>5
 |.held=>3
 |.ja _=>2
 |.vC=>2
 |.give=>1
 |.bad=>0
def jF(w:Wd):Pc->Nat
 |.out=>0
 |.iq=>16
 |.rd l=>3+3*(4-l.it)
 |.sq old l=>if w=old then 2+3*(4-l.it)else 5+3*(4-l.it)
 |.sw old l=>if w=old then 1 else 4+3*(3-l.it)
 |.ko old l=>if w=old then 1 else 4+3*(4-l.it)
 |.gE _=>18
 |.tq=>17
 |.up _=>16
 |.add _ _=>1
 |.held=>1
 |.ja old=>if w=old then 1 else 4
 |.vC=>3
 |.give=>1
 |.bad=>0
theorem Oj(w:Wd)(p:Pc):jF w p<=18:=by cases p<;>simp[jF]<;>(try split)<;>omega
theorem EN{f:acs}{c:Nat}(h:∀i,f i<=c):∀n,fB n f<=n*c
 |0=>by simp[fB]
 |n+1=>by have:=EN h n;have:=h n;rw[fB,Nat.succ_mul];omega
def phi(n:Nat)(pcs:Nat->Pc)(s:Sh):Nat:=fB n (λi=>gF (pcs i))+s.ms
def meas(n:Nat)(pcs:Nat->Pc)(s:Sh):Nat:=phi n pcs s*(18*n+1)+fB n (λi=>jF s.w (pcs i))
theorem Ok{p q:Pc}{s s':Sh}(f:loc p)(h:(q,s')∈mv p s):gF q+s'.ms<gF p+s.ms\/(s'.w=s.w/\gF q+s'.ms<=gF p+s.ms/\jF s.w q<jF s.w p):=by
 have g:∀(old:Wd) (l:Lo) (q:Pc),q∈hd old l->gF q=gF (.rd l)/\jF s.w q<(if s.w=old then 2+3*(4-l.it)else 5+3*(4-l.it)):=λold l q b=>by
  unfold hd at b;simp only[aaG,lb]at b
  rcases b with b|rfl
  . split at b
    . rename_i a
      simp at a;simp only[lb]at b;subst b;split
      . rename_i i
        simp at i;simp[gF,jF,i.1.1]
        grind
      . refine⟨rfl,?_⟩
        have:=a.2;simp[jF]
        grind
    grind
  . simp[gF,jF]
    grind
 have c:∀(l:Lo),gF (nx s.w l)=gF (.rd l)/\jF s.w (nx s.w l)<3+3*(4-l.it):=λl=>by unfold nx;split<;>simp[gF,jF]<;>omega
 cases p with
 |out=>simp[mv]at h
 |bad=>simp[mv]at h
 |iq=>simp only[mv]at h;split at h<;>simp only[lb,zG]at h<;>obtain⟨rfl,rfl⟩:=h<;>simp[gF,jF]
 |rd l=>simp only[mv,lb,zG]at h;obtain⟨rfl,rfl⟩:=h;obtain⟨d,e⟩:=c l;exact .inr ⟨rfl,by omega,e⟩
 |sq old l=>simp only[mv,abd,zG]at h;obtain⟨k,b,rfl,rfl⟩:=h;obtain⟨d,e⟩:=g old l _ b;exact .inr ⟨rfl,by rw[d];exact ZF _,e⟩
 | sw old l=>
   have j:=f.1;have m:=f.2.2.2.2.2;simp only[mv]at h;split at h<;>rename_i a<;>simp only[lb,zG]at h<;>obtain⟨rfl,rfl⟩:=h
   . simp[gF,jF]
   . refine .inr ⟨rfl,by simp[gF,j],?_⟩
     simp[jF,a]
 | ko old l=>
   simp only[mv]at h;split at h
   . rename_i a
     simp at a;have:=f.1 a.1
     simp_all
   split at h<;>rename_i a<;>simp only[lb,zG]at h
   . obtain⟨rfl,rfl⟩:=h
     left;split<;>simp only[gF]<;>split<;>omega
   . obtain⟨rfl,rfl⟩:=h
     exact .inr ⟨rfl,by simp[gF],by simp[jF,a]⟩
 | gE sv=>
   simp only[mv]at h;split at h
   . simp at h
   . simp only[lb,zG]at h
     obtain⟨rfl,rfl⟩:=h;cases sv<;>exact .inr ⟨rfl,by simp[gF];omega,by simp[jF]⟩
 | tq=>
   simp only[mv,aax,zG,aaE,or_false]at h
   rcases h with⟨rfl,rfl⟩|⟨rfl,rfl⟩<;>exact .inr ⟨rfl,by simp[gF],by simp[jF]⟩
 | up sv=>
   simp only[mv]at h;split at h
   . split at h<;>simp only[lb,zG]at h<;>obtain⟨rfl,rfl⟩:=h<;>exact .inr ⟨rfl,by simp[gF],by simp[jF]⟩
   . simp only[lb,zG]at h
     obtain⟨rfl,rfl⟩:=h;obtain⟨d,e⟩:=c ⟨true,sv,0⟩;refine .inr ⟨rfl,by rw[d];simp[gF],?_⟩
     have n:∀w,jF w (.up sv)=16:=λ_=>rfl
     grind
 |add old sv=>simp only[mv,lb,zG]at h;obtain⟨rfl,rfl⟩:=h;exact .inl (by simp[gF])
 | held=>
   simp only[mv]at h;left;split at h
   . simp only[lb,zG]at h;obtain⟨rfl,rfl⟩:=h;simp[gF]
   . simp only[lb,zG]at h
     obtain⟨rfl,rfl⟩:=h;split
     . simp[gF]
     split
     . simp[gF]
     split<;>simp[gF]
 | ja old=>
   simp only[mv]at h;split at h<;>rename_i a<;>simp only[lb,zG]at h<;>obtain⟨rfl,rfl⟩:=h
   . simp[gF]
   . exact .inr ⟨rfl,by simp[gF],by simp[jF,a]⟩
 | vC=>
   simp only[mv,lb,zG]at h;obtain⟨rfl,rfl⟩:=h;split
   . left;simp[gF]
   . exact .inr ⟨rfl,by simp[gF],by simp[jF]⟩
 |give=>simp only[mv,lb,zG]at h;obtain⟨rfl,rfl⟩:=h;exact .inr ⟨rfl,by simp[gF];omega,by simp[jF]⟩
theorem HJ{n:Nat}{pcs:Nat->Pc}{s s':Sh}{i:Nat}{q:Pc}(hi:i<n)(b:loc (pcs i))(d:(q,s')∈mv (pcs i) s):meas n (set pcs i q) s'<meas n pcs s/\phi n (set pcs i q) s'<=phi n pcs s:=by
 have C:=gk gF pcs i q hi;have e:=iN (λj=>gF (pcs j)) hi;rcases Ok b d with h|⟨g,k,l⟩
 . have a:phi n (set pcs i q) s'+1<=phi n pcs s:=by unfold phi;omega
   refine⟨?_,by omega⟩;have m:=EN (f:=λj=>jF s'.w (set pcs i q j)) (c:=18) (λj=>Oj _ _) n;have:=ZZ (18*n+1) a;rw[aaU]at this;unfold meas;omega
 . have a:phi n (set pcs i q) s'<=phi n pcs s:=by unfold phi;omega
   refine⟨?_,a⟩;have R:=gk (jF s.w) pcs i q hi;have o:=iN (λj=>jF s.w (pcs j)) hi;have:=ZZ (18*n+1) a;unfold meas
   grind
theorem Inv.alive{n:Nat}{pcs:Nat->Pc}{s:Sh}(h:Inv n pcs s)(c:∀i,i<n->pcs i=.out\/∃sv,pcs i=.gE sv)(a:s.ms=0):∀i,i<n->pcs i=.out:=by
 have z:∀(f:Pc->Nat),f .out=0->(∀sv,f (.gE sv)=0)->fB n (λi=>f (pcs i))=0:=λf v w=>by
  have:∀m,m<=n->fB m (λi=>f (pcs i))=0:=λm=>by
   induction m with
   |zero=>intro _;rfl
   | succ m d=>
     intro a;rw[fB,d (by omega)]
     grind
  simp_all
 have g:=z cd rfl λ_=>rfl
 have j:=z fI rfl λ_=>rfl
 have k:=z cK rfl λ_=>rfl
 have l:=z m5 rfl λ_=>rfl
 have o:=z dg rfl λ_=>rfl
 have p:=z ir rfl λ_=>rfl
 have j1:=h.j1;have j2:=h.j2;have j3:=h.j3;have j4:=h.j4
 have q:fB n (λi=>cJ (pcs i))=0:=by obtain⟨⟨r,t,u,x⟩,ms⟩:=s;simp only at j1 j2 j3 j4 a;subst a;cases r<;>cases t<;>cases u<;>simp[g,j,k,l,o,p]at j1 j2 j3 j4 ⊢<;>omega
 intro i b
 rcases c i b with e|⟨sv,e⟩
 . exact e
 . have:=CA q i b
   rw[e]at this;simp[cJ]at this
end Go.bQ.Mu
namespace Go.bQ
open Go.Conc
def m7{α:Type}(P:acD):Sem α->Option α
 |.pure a=>some a
 |.program f=>m7 P (f P)
 |_=>none
theorem Kk{α:Type}{P:acD}(s:Sem α):∀{a:α},m7 P s=some a->∀w es,s.runT P w es=(.ok a w,es):=by
 induction s with
 |pure b=>intro a h w es;simp only[m7,kn]at h;subst h;rfl
 |program f c=>intro a h w es;simp only[m7]at h;simp only[Sem.runT];grind
 |_=>intro a h;simp[m7]at h
theorem lH{α β:Type}{P:acD}{f:α->Sem β}(s:Sem α):∀{a:α},m7 P s=some a->m7 P (s.bind f)=m7 P (f a):=by
 induction s with
 |pure b=>intro a h;simp only[m7,kn]at h;subst h;rfl
 |program g c=>intro a h;simp only[m7]at h;exact c P h
 |_=>intro a h;simp[m7]at h
def enc(L K S:Bool)(N:Int):Int:=8*N+(L.toNat+2*K.toNat+4*S.toNat:Nat)
theorem Bf{L K S:Bool}{N:Int}(h:0<=N):enc L K S N=((8*N.toNat+(L.toNat+2*K.toNat+4*S.toNat):Nat):Int):=by unfold enc;omega
theorem Vp{N:Nat}{b m:Nat}(hb:b<8)(a:m<8):(8*N+b) &&& m=b &&& m:=by
 have c:m=m % 2 ^ 3:=by omega
 apply Nat.eq_of_testBit_eq;intro i;simp only[Nat.testBit_and];by_cases d:i<3
 . congr 1
   have:=aao (i:=3) N (b:=b) (by omega) i
   grind
 . have:m.testBit i=false:=Nat.testBit_lt_two_pow (ZO a (by
    have:2 ^ 3<=2 ^ i:=aav (by omega) (by omega);omega))
   grind
theorem Ol{N:Nat}{b m:Nat}(hb:b<8)(c:m<8):(8*N+b)|||m=8*N+(b|||m):=by
 have e:=Nat.two_pow_add_eq_or_of_lt (i:=3) (b:=b) (by omega) N;have a:b|||m<2 ^ 3:=Nat.or_lt_two_pow (by omega) (by omega);have d:=Nat.two_pow_add_eq_or_of_lt (i:=3) (b:=b|||m) a N
 grind
def Vq(N:Int):Prop:=0<=N/\N<=1000000
theorem Om{L K S:Bool}{N:Int}(h:Vq N){m:Nat}(a:m<8):bits .and .i32 (enc L K S N) (m:Int)=(((L.toNat+2*K.toNat+4*S.toNat) &&& m:Nat):Int):=by
 have hb:L.toNat+2*K.toNat+4*S.toNat<8:=by cases L<;>cases K<;>cases S<;>decide
 rw[Bf h.1,(bits_nat .i32 31 (by decide) wraps_i32 _ m (by have:=h.2;omega) (by omega)).1,Vp hb a]
theorem QQ{L K S:Bool}{N:Int}(h:Vq N){m:Nat}(a:m<8):bits .or .i32 (enc L K S N) (m:Int)=((8*N.toNat+((L.toNat+2*K.toNat+4*S.toNat)|||m):Nat):Int):=by
 have hb:L.toNat+2*K.toNat+4*S.toNat<8:=by cases L<;>cases K<;>cases S<;>decide
 rw[Bf h.1,(bits_nat .i32 31 (by decide) wraps_i32 _ m (by have:=h.2;omega) (by omega)).2,Ol hb a]
theorem Vr{a b c d:Nat}(hb:b<8)(hd:d<8):(8*a+b) &&& (8*c+d)=8*(a &&& c)+(b &&& d):=by
 apply Nat.eq_of_testBit_eq;intro i;have e:=aao (i:=3) a (b:=b) (by omega) i;have f:=aao (i:=3) c (b:=d) (by omega) i;have g:=aao (i:=3) (a &&& c) (b:=b &&& d) (by have:=Nat.and_le_left (n:=b) (m:=d);omega) i
 grind
theorem CB{L K S:Bool}{N:Int}(h:Vq N):bits .andNot .i32 (enc L K S N) 2=enc L false S N:=by
 have hb:L.toNat+2*K.toNat+4*S.toNat<8:=by cases L<;>cases K<;>cases S<;>decide
 have e:((N.toNat:Nat):Int)=N:=Int.toNat_of_nonneg h.1;have f:=h.2
 have a:(BitVec.ofInt 32 (enc L K S N)).toNat=8*N.toNat+(L.toNat+2*K.toNat+4*S.toNat):=by rw[Bf h.1,BitVec.ofInt_natCast,BitVec.toNat_ofNat];omega
 have b:(~~~(BitVec.ofInt 32 2)).toNat=8*536870911+5:=by decide
 have c:N.toNat &&& 536870911=N.toNat:=by
  have:=Nat.and_two_pow_sub_one_eq_mod N.toNat 29
  grind
 have d:(L.toNat+2*K.toNat+4*S.toNat) &&& 5=L.toNat+4*S.toNat:=by cases L<;>cases K<;>cases S<;>decide
 show IntKind.i32.wrap ((BitVec.ofInt 32 (enc L K S N) &&& ~~~(BitVec.ofInt 32 2)).toNat:Int)=_;rw[BitVec.toNat_and,a,b,Vr hb (by omega),c,d,wraps_i32 _ (Int.natCast_nonneg _) (by omega)]
 unfold enc
 simp_all
def ew(c:Int)(w:Nat):Int:=c*4294967296+w
inductive SV where
 |cE
 |lit (v:Value)
 |word (L K S:Bool) (δ:Int)
 |cnt
 |ew (w:Nat)
 |Gs
 |HK
 |HL
 |now
 |Tf
structure Fl where
 n0:Bool
 n1:Bool
 c0:Bool
 c1:Bool
 wz:Bool
 tb:Bool
structure Sy where
 N:Int
 c:Int
 ws:Int
 tn:Int
structure Fl.At(f:Fl)(y:Sy):Prop where
 hN:0<=y.N/\y.N<=1000
 hc:0<=y.c/\y.c<=1000
 n0:f.n0=decide (y.N=0)
 n1:f.n1=decide (y.N=1)
 c0:f.c0=decide (y.c=0)
 c1:f.c1=decide (y.c=1)
 wz:f.wz=decide (y.ws=0)
 tb:f.tb=decide (IntKind.i64.wrap (y.tn-y.ws)>1000000)
def SR(y:Sy):SV->Value->Prop
 |.cE,_=>True
 |.lit v,x=>x=v
 |.word L K S a,x=>x=.int .i32 (enc L K S (y.N+a))/\0<=y.N+a/\a<=2
 |.cnt,x=>x=.int .i32 y.N
 |.ew w,x=>x=.int .u64 (ew y.c w)
 |.Gs,x=>x=.int .u64 y.c
 |.HK,x=>x=.int .i32 y.c
 |.HL,x=>x=.int .i64 y.ws
 |.now,x=>x=.int .i64 y.tn
 |.Tf,x=>x=.int .i64 (IntKind.i64.wrap (y.tn-y.ws))
def Kl(f:Fl)(op:BinOp)(a b:SV):Option SV:=
 match op,a,b with
 |.and,.word L K S c,.lit (.int .i32 m)=>if 0<=m/\m<8 then some (.lit (.int .i32 (((L.toNat+2*K.toNat+4*S.toNat) &&& m.toNat:Nat):Int)))else none
 |.or,.word L K S c,.lit (.int .i32 m)=>if m=1 then some (.word true K S c)else if m=2 then some (.word L true S c)else if m=4 then some (.word L K true c)else none
 |.andNot,.word L K S c,.lit (.int .i32 m)=>if m=2 then some (.word L false S c)else none
 |.add,.word L K S c,.lit (.int .i32 m)=>if m=8 then(if c<=1 then some (.word L K S (c+1))else none)else if m=1 then(if L=false then some (.word true K S c)else none)else none
 |.sub,.word L K S c,.lit (.int .i32 m)=>if m=8/\c=0/\f.n0=false then some (.word L K S (-1))else none
 |.shr,.word _ _ _ c,.lit (.int .u64 m)=>if m=3/\c=0 then some .cnt else none
 |.eql,.word L K S c,.lit (.int .i32 m)=>if m=0/\c=0 then some (.lit (.bool (!L && !K && !S && f.n0)))else none
 |.neq,.word L K S c,.lit (.int .i32 m)=>if m=0/\c=0 then some (.lit (.bool !(!L && !K && !S && f.n0)))else none
 |.eql,.cnt,.lit (.int .i32 m)=>if m=0 then some (.lit (.bool f.n0))else if m=1 then some (.lit (.bool f.n1))else none
 |.neq,.cnt,.lit (.int .i32 m)=>if m=0 then some (.lit (.bool !f.n0))else if m=1 then some (.lit (.bool !f.n1))else none
 |.and,.ew w,.lit (.int .u64 m)=>if m=2147483648/\w<=1000 then some (.lit (.int .u64 0))else if m=2147483647/\w<=1000 then some (.lit (.int .u64 w))else none
 |.shr,.ew w,.lit (.int .u64 m)=>if m=32/\w<=1000 then some .Gs else none
 |.eql,.HK,.lit (.int .i32 m)=>if m=0 then some (.lit (.bool f.c0))else if m=1 then some (.lit (.bool f.c1))else if m=-1 then some (.lit (.bool false))else none
 |.lss,.HK,.lit (.int .i32 m)=>if m=0 then some (.lit (.bool false))else none
 |.gtr,.HK,.lit (.int .i32 m)=>if m=0 then some (.lit (.bool !f.c0))else none
 |.neq,.ew w,.ew d=>if w=d then some (.lit (.bool false))else none
 |.neq,.ew w,.lit (.int .u64 m)=>if m=0 then some (.lit (.bool !(f.c0 && decide (w=0))))else none
 |.add,.ew w,.lit (.int .u64 m)=>if m=1/\w<=1000 then some (.ew (w+1))else none
 |.eql,.HL,.lit (.int .i64 m)=>if m=0 then some (.lit (.bool f.wz))else none
 |.neq,.HL,.lit (.int .i64 m)=>if m=0 then some (.lit (.bool !f.wz))else none
 |.sub,.now,.HL=>some .Tf
 |.gtr,.Tf,.lit (.int .i64 m)=>if m=1000000 then some (.lit (.bool f.tb))else none
 |_,_,_=>none
theorem iU{n:Int}(a:-2147483648<=n)(b:n<2147483648):IntKind.i32.wrap n=n:=by rw[IntKind.wrap_i32];omega
theorem jZ{n:Int}(a:0<=n)(b:n<18446744073709551616):IntKind.u64.wrap n=n:=by simp[IntKind.wrap,IntKind.bits,IntKind.signed];omega
theorem lI{L K S:Bool}{N:Int}:8*N<=enc L K S N/\enc L K S N<=8*N+7:=by unfold enc;cases L<;>cases K<;>cases S<;>simp[Bool.toNat]<;>omega
theorem xg{L K S:Bool}{N:Int}(h:0<=N):enc L K S N=0↔(L=false/\K=false/\S=false/\N=0):=by unfold enc;grind
