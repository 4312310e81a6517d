import Derived.Conc.CrowdTrace
import Derived.Test.YtkcceaplmgdnfaaGreatDoorC10
set_option linter.all false
namespace Go.bu
open Go.Conc
def ChanAt(w:World)(b:Nat):Prop:=∃cap buf cl s r a,w.heap[b]?=some (.chan cap buf cl s r a)
def Kept(kk:Nat->ai)(OO:Nat->aj)(w w':World)(b:Nat):Prop:=
 w'.heap[b]?=w.heap[b]?\/(ChanAt w b/\ChanAt w' b/\∀i,OO i b=none)\/
 ∃c a e,w.heap[b]?=some (.cells c e (0,0))/\w'.heap[b]?=some (.cells a e (0,0))/\a.size=c.size/\(∀i x,OO i b=some x->∃f,x=.part f/\∀n,f n≠none->a[n]?=c[n]?)/\∀n,a[n]?=c[n]?\/∀i,(kk i).cell b n=none
def Calm(Z:Base)(w w':World):Prop:=(lx w.os w'.os/\w'.output=w.output)/\∀b,b<Z.W0.heap.size->w'.heap[b]?=w.heap[b]?
def ID(kk:Nat->ai)(OO:Nat->aj)(B:Nat):Loc->Prop
 |.cell a=>a.block<B/\∀i,¬aO (OO i) a.block a.off/\(kk i).cell a.block a.off=none
 |.obj r=>r<B/\∀i o,OO i r≠some (.obj o)
 |_=>True
def Told(Z:Base)(J M:Nat->Prop)(t:Trace)(n:Nat)(a:Touch):Prop:=Knows t 0 n\/(∃j,J j/\Knows t j n)\/(∃p,M p/\Before t n p)\/(Z.Shun a.loc/\a.kind=.atomic/\(t.counts n->n<Z.N0))
theorem yd{t:Trace}{B:Nat}(h:∀op∈t,op.act.low B){n:Nat}{a:Touch}(c:touchAt t n=some a):match a.loc with|.cell ad=>ad.block<B|.obj r=>r<B|_=>True:=by
 obtain⟨x,d,b⟩:=touch_of c;have:=h x (Array.mem_of_getElem? d);obtain⟨f,fn,pos,act⟩:=x;cases act with
 |access e=>simp only[MemAct.touch?,Option.some.injEq]at b;subst b;simp only[MemAct.low,Loc.low]at this;omega
 |mark m=>cases m<;>simp_all [MemAct.touch?,MemAct.low]<;>(subst b;simpa using this)
 |_=>simp[MemAct.touch?]at b
section
variable{Z:Base}{kk:Nat->ai}{OO:Nat->aj}{J M:Nat->Prop}{w:World}{t:Trace}
theorem bX.r9(h:bX Z kk OO J M w t)(Fl:Nat->Nat->Prop){u:Trace}{w':World}{kk':Nat->ai}{OO':Nat->aj}{J' M':Nat->Prop}
 (U:w'.heap.size=w.heap.size) (V:Calm Z w w') (hb:∀b,Kept kk OO w w' b) (z:∀op∈u,op.act.low w.heap.size)
 (a9:∀i j,Fl i j->∀n a,touchAt t n=some a->a.loc.isMemory=true -> ¬Z.Shun a.loc->F0 Z t i n->F0 Z (t++u) j n)
 (O:∀j b n v,(kk' j).cell b n=some v->∃i,Fl i j/\(kk i).cell b n=some v)
 (hs:∀j b s,(kk' j).sh b=some s->∃i,Fl i j/\(kk i).sh b=some s)
 (D:∀j b x,OO' j b=some x->∃i,Fl i j/\OO i b=some x/\∀s,(kk i).sh b=some s->(kk' j).sh b=some s)
 (hd:∀i j b x,i≠j->OO' i b=some x->OO' j b=none)
 (hr:∀said,¬Race said (t++u))
 (hu:∀op∈u,∀a,op.act.touch?=some a->a.loc.isMemory=true->ID kk OO w.heap.size a.loc)
 (W:∀m op a,u[m]?=some op->op.act.touch?=some a->a.loc.isMemory=true->Told Z J' M' (t++u) (t.size+m) a)
 (S:∀n a,touchAt t n=some a->a.loc.isMemory=true->((∃j,J j/\Knows t j n)\/(∃p,M p/\Before t n p))->Told Z J' M' (t++u) n a):bX Z kk' OO' J' M' w' (t++u):=by
 have F:∀j b n,aO (OO' j) b n->∃i,Fl i j/\aO (OO i) b n:=λj b n y=>by
  rcases y with⟨o,q⟩|⟨m,q,A⟩|⟨f,q,A⟩
  . obtain⟨i,d,g,_⟩:=D j b _ q;exact⟨i,d,.inl ⟨o,g⟩⟩
  . obtain⟨i,d,g,_⟩:=D j b _ q;exact⟨i,d,.inr (.inl ⟨m,g,A⟩)⟩
  . obtain⟨i,d,g,_⟩:=D j b _ q;exact⟨i,d,.inr (.inr ⟨f,g,A⟩)⟩
 have ab:∀i j b n v,(kk i).cell b n=some v -> ¬aO (OO j) b n:=λi j b n v N=>by
  by_cases e:i=j
  . subst e;exact(h.sat i).apart b n v N
  . exact h.mz j i b n v (Ne.symm e) N
 have B:∀i b x,OO i b=some x->(∀f,x≠.part f)->w'.heap[b]?=w.heap[b]?:=λi b x P al=>by
  rcases hb b with d|⟨_,_,d⟩|⟨_,_,_,_,_,_,d,_⟩
  . exact d
  . simp_all
  grind
 have hold:∀{n:Nat}{a:Touch},touchAt (t++u) n=some a->(touchAt t n=some a/\n<t.size)\/∃m op,u[m]?=some op/\op.act.touch?=some a/\n=t.size+m:=λ{n a} S=>by
  obtain⟨x,P,X⟩:=touch_of S;by_cases hn:n<t.size
  . rw[Array.getElem?_append_left hn]at P
    exact .inl ⟨by rw[touchAt_of P];exact X,hn⟩
  grind
 refine⟨λj=>⟨λb n v N y=>?_,λb n v N=>?_,λb s Y=>?_,λb o C=>?_,λb n a7=>?_,λb f a8=>?_⟩,hd,λi j b n v ar N y=>?_,λj n a I A=>?_,hr,λop E=>?_,λn a I A=>?_,by simp;exact Nat.le_trans h.n0 (Nat.le_add_right _ _),h.A8 _,λa G=>?_,λr G=>?_,h.xw.step V.1.1 V.1.2 (by omega) V.2,λj b x P=>by obtain⟨i,_,d,_⟩:=D j b x P;exact h.mine i b x d⟩
 . grind
 . obtain⟨i,_,d⟩:=O j b n v N
   have g:=(h.sat i).cell b n v d;rcases hb b with k|⟨⟨_,_,_,_,_,_,k⟩,_⟩|⟨c,c',e,k,Q,h5,_,T⟩
   . simpa only[World.cell?,k]using g
   . simp[World.cell?,k]at g
   . rcases T n with T|T
     . simp only[World.cell?,k,Q]at g ⊢
       grind
     grind
 . obtain⟨i,_,d⟩:=hs j b s Y
   have g:=(h.sat i).sh b s d;rcases hb b with k|⟨⟨_,_,_,_,_,_,k⟩,_⟩|⟨c,c',e,k,Q,h5,_,T⟩
   . simpa only[World.shape?,k]using g
   . simp[World.shape?,k]at g
   . simp only[World.shape?,k,Q]at g ⊢
     grind
 . obtain⟨i,_,d,_⟩:=D j b _ C
   rw[B i b _ d (λ_ e=>by cases e)];exact(h.sat i).obj b o d
 . obtain⟨i,_,d,g⟩:=D j b _ a7
   rw[B i b _ d (λ_ e=>by cases e)];obtain⟨c,e,k,Q⟩:=(h.sat i).tail b n d
   grind
 . obtain⟨i,_,d,g⟩:=D j b _ a8
   obtain⟨c,e,k,Q,h5⟩:=(h.sat i).part b f d;rcases hb b with q|⟨_,_,q⟩|⟨c0,c1,e0,q1,q2,q3,q4,_⟩
   . grind
   . grind
   grind
 . grind
 . rcases hold I with⟨l,R⟩|⟨m,op,d,g,rfl⟩
   . by_cases hK:∃i,Fl i j/\F0 Z t i n/\¬Z.Shun a.loc
     . grind
     . refine .inr ?_
       have H:=yd h.seen l
       have K:∀i,Fl i j->nX (kk i) (OO i) w.heap.size a:=λi hi=>by
        by_cases G:Z.Shun a.loc
        . unfold nX
          split
          . next L z=>rw[z]at G;have:=h.kK L G;grind
          . next r z=>rw[z]at G;have:=h.nH r G;grind
          . trivial
        . rcases h.zo i n a l A with d|d
          . grind
          . exact d
       unfold nX;split
       . next L z=>
         rw[z]at H;refine⟨by omega,λy=>?_,?_⟩
         . obtain⟨i,d,g⟩:=F j _ _ y
           have:=K i d;unfold nX at this
           grind
         . cases q:(kk' j).cell L.block L.off with
           |none=>grind
           | some v=>
             obtain⟨i,d,g⟩:=O j _ _ v q;have:=K i d;unfold nX at this
             grind
       . next r z=>
         rw[z]at H;refine⟨by omega,λo C=>?_⟩;obtain⟨i,d,g,_⟩:=D j r _ C;have:=K i d;unfold nX at this
         grind
       . trivial
   . refine .inr ?_
     have:=hu op (Array.mem_of_getElem? d) a g A;unfold nX;split
     . next L z=>
       rw[z]at this;refine⟨by rw[U];exact this.1,λy=>?_,.inl ?_⟩
       . obtain⟨i,_,k⟩:=F j _ _ y
         exact(this.2 i).1 k
       . cases q:(kk' j).cell L.block L.off with
         |none=>rfl
         |some v=>obtain⟨i,_,k⟩:=O j _ _ v q;rw[(this.2 i).2]at k;cases k
     . next r z=>
       rw[z]at this;refine⟨by rw[U];exact this.1,λo C=>?_⟩;obtain⟨i,_,k,_⟩:=D j r _ C;exact this.2 i o k
     . trivial
 . rw[U]
   rcases Array.mem_append.1 E with E|E
   . exact h.seen op E
   grind
 . rcases hold I with⟨l,R⟩|⟨m,op,d,g,rfl⟩
   . rcases h.acc n a l A with d|d|d|d
     . exact .inl (d.app _)
     . exact S n a l A (.inl d)
     . exact S n a l A (.inr d)
     . exact .inr (.inr (.inr ⟨d.1,d.2.1,λO=>d.2.2 ((qc R).1 O)⟩))
   . exact W m op a d g A
 . obtain⟨d,g⟩:=h.kK a G
   refine⟨by omega,λj=>⟨λy=>?_,?_⟩⟩
   . grind
   . cases q:(kk' j).cell a.block a.off with
     |none=>rfl
     |some v=>grind
 . obtain⟨d,g⟩:=h.nH r G
   grind
theorem bX.Rb(h:bX Z kk OO J M w t){z:Nat}(L:z≠Z.lk){b:Nat}{f:Nat->Option Value}(hb:∀i,OO i b=none)(Q:∀n v,f n=some v->∀i,(kk i).cell b n=none)
 (R:∀ad:Addr,ad.block=b->f ad.off≠none -> ¬Z.Shun (.cell ad)) (S:∃c e,w.heap[b]?=some (.cells c e (0,0))/\(kk z).sh b=some (e,c.size)/\∀n v,f n=some v->c[n]?=some v)
 (N:∀m a ad,touchAt t m=some a->a.loc=.cell ad->ad.block=b->f ad.off≠none->Knows t z m) (G:Z.W0.heap.size<=b):bX Z kk (bF OO z ((OO z).set b (.part f))) J M w t:=by
 have O:∀n,f n≠none->∀i,(kk i).cell b n=none:=λn T i=>by
  cases q:f n with
  |none=>simp_all
  |some v=>simp_all
 have s:∀c n,aO ((OO z).set b (.part f)) c n->aO (OO z) c n\/(c=b/\f n≠none):=λc n k=>by
  by_cases d:c=b
  . subst d
    rcases k with⟨o,q⟩|⟨m,q,_⟩|⟨g,q,B⟩
    . simp[aj.set]at q
    . simp[aj.set]at q
    . simp only[aj.set,if_true,Option.some.injEq,Own.part.injEq]at q
      simp_all
  . exact .inl (by simpa[aO,aj.set,d]using k)
 have P:Sat (kk z) ((OO z).set b (.part f)) w:=by
  refine⟨λc n v D k=>?_,(h.sat z).cell,(h.sat z).sh,λc o k=>?_,λc n k=>?_,λc g k=>?_⟩
  . rcases s c n k with k|⟨rfl,B⟩
    . exact(h.sat z).apart c n v D k
    simp_all
  . by_cases d:c=b
    . subst d;simp[aj.set]at k
    . exact(h.sat z).obj c o (by simpa[aj.set,d]using k)
  . by_cases d:c=b
    . grind
    . exact(h.sat z).tail c n (by simpa[aj.set,d]using k)
  . by_cases d:c=b
    . subst d
      simp only[aj.set,if_true,Option.some.injEq,Own.part.injEq]at k
      simp_all
    . exact(h.sat z).part c g (by simpa[aj.set,d]using k)
 have H:b<w.heap.size:=by grind
 refine⟨λi=>?_,λi j c x u E=>?_,λi j c n v u D k=>?_,λi n a y I=>?_,h.clean,h.seen,h.acc,h.n0,h.vt,λa y=>⟨(h.kK a y).1,λi=>⟨λk=>?_,((h.kK a y).2 i).2⟩⟩,λr F=>⟨(h.nH r F).1,λi o k=>?_⟩,h.xw,λi c x k=>?_⟩
 . by_cases p:z=i
   . subst p;rw[az];exact P
   . rw[aA _ _ (Ne.symm p)];exact h.sat i
 . by_cases d:c=b
   . subst d
     by_cases K:z=j
     . subst K
       rw[aA _ _ u,hb i]at E;cases E
     . rw[aA _ _ (Ne.symm K)];exact hb j
   . have e:∀l,bF OO z ((OO z).set b (.part f)) l c=OO l c:=λl=>by
      by_cases A:z=l
      . subst A;rw[az];simp[aj.set,d]
      . rw[aA _ _ (Ne.symm A)]
     rw[e]at E ⊢;exact h.iF i j c x u E
 . by_cases p:z=i
   . subst p
     rw[az]at k;rcases s c n k with k|⟨rfl,B⟩
     . exact h.mz z j c n v u D k
     simp_all
   . rw[aA _ _ (Ne.symm p)]at k;exact h.mz i j c n v u D k
 . by_cases p:z=i
   . subst p
     rw[az];rcases h.zo z n a y I with C|C
     . grind
     . unfold nX at C ⊢
       split
       . next ad A=>
         rw[A]at C;by_cases B:ad.block=b/\f ad.off≠none
         . exact .inl ((mY L).2 (N n a ad y A B.1 B.2))
         grind
       . next r A=>
         rw[A]at C;refine .inr ⟨C.1,λo k=>?_⟩;by_cases d:r=b
         . subst d;simp[aj.set]at k
         . exact C.2 o (by simpa[aj.set,d]using k)
       simp_all
   . rw[aA _ _ (Ne.symm p)];exact h.zo i n a y I
 . by_cases p:z=i
   . subst p
     rw[az]at k;rcases s _ _ k with k|⟨e,B⟩
     . exact((h.kK a y).2 z).1 k
     simp_all
   . rw[aA _ _ (Ne.symm p)]at k;exact((h.kK a y).2 i).1 k
 . by_cases p:z=i
   . subst p
     rw[az]at k;by_cases d:r=b
     . subst d;simp[aj.set]at k
     . exact(h.nH r F).2 z o (by simpa[aj.set,d]using k)
   . rw[aA _ _ (Ne.symm p)]at k;exact(h.nH r F).2 i o k
 . by_cases p:z=i
   . subst p
     rw[az]at k;by_cases d:c=b
     . omega
     . exact h.mine z c x (by simpa[aj.set,d]using k)
   . rw[aA _ _ (Ne.symm p)]at k;exact h.mine i c x k
theorem qM(b:Nat):aj.bot b=none:=rfl
theorem bX.start{P:Program}{k:ai}{O:aj}{g:Goroutine}{gs:Array Goroutine}{w W0:World}{t:Trace}(h:du P W0 k O g gs w t)(lk:Nat)(la:Addr)(A:0≠lk):
 ∃Z:Base,Z.N0=t.size/\Z.lk=lk/\Z.la=la/\Z.W0=W0/\gs[0]?=some g/\(∃q,Leavers P t gs q)/\Deaf t 0=0/\bX Z (bF (λ_=>ai.bot) 0 k) (bF (λ_=>aj.bot) 0 O) (λ_=>False) (λ_=>False) w t/\∀n a,touchAt t n=some a->a.loc.isMemory=true->Knows t 0 n\/(Z.Shun a.loc/\a.kind=.atomic):=by
 obtain⟨Shun,q,L,M,d,B,N,Q,C,R⟩:=h;refine⟨⟨Shun,t.size,lk,la,W0⟩,rfl,rfl,rfl,rfl,L,⟨q,M⟩,d.hears,?_,d.known⟩
 have l:∀i,i=0\/(bF (λ_=>ai.bot) 0 k i=ai.bot/\bF (λ_=>aj.bot) 0 O i=aj.bot):=λi=>by
  by_cases u:i=0
  . omega
  . exact .inr ⟨aA _ _ u,aA _ _ u⟩
 refine⟨λi=>?_,λi j b x m p=>?_,λi j b n v m I=>?_,λi n a s D=>?_,d.clean,d.seen,λn a s D=>?_,Nat.le_refl _,λn g V S E F=>d.over n g S E F,λa s=>?_,λr T=>?_,C,λi b x p=>?_⟩
 . rcases l i with rfl|⟨y,f⟩
   . rw[az,az];exact Q
   . rw[y,f]
     exact⟨λ_ _ _ h=>(by cases h),λ_ _ _ h=>(by cases h),λ_ _ h=>(by cases h),λ_ _ h=>(by cases h),λ_ _ h=>(by cases h),λ_ _ h=>(by cases h)⟩
 . rcases l i with rfl|⟨_,e⟩
   . rw[aA _ _ (Ne.symm m)];rfl
   . rw[e]at p;cases p
 . rcases l j with rfl|⟨e,_⟩
   . rw[aA _ _ m];exact dE (qM b)
   . rw[e]at I;cases I
 . have c:=yd d.seen s
   have J:nX ai.bot aj.bot w.heap.size a:=by
    unfold nX;split
    . next W G=>rw[G]at c;exact⟨c,dE (qM _),.inl rfl⟩
    . next r G=>rw[G]at c;exact⟨c,λo B=>by cases B⟩
    . trivial
   rcases l i with rfl|⟨y,f⟩
   . rw[az,az]
     rcases d.known n a s D with z|⟨z,K⟩
     . exact .inl ((mY A).2 z)
     . refine .inr ?_
       unfold nX
       grind
   simp_all
 . rcases d.known n a s D with z|⟨z,K⟩
   . grind
   . refine .inr (.inr (.inr ⟨z,K,λ_=>?_⟩))
     obtain⟨x,p,_⟩:=touch_of s
     grind
 . obtain⟨H,U,X⟩:=B a s
   refine⟨H,λi=>?_⟩;rcases l i with rfl|⟨y,f⟩
   . rw[az,az];simp_all
   . rw[y,f];exact⟨dE (qM _),rfl⟩
 . obtain⟨H,U⟩:=N r T
   refine⟨H,λi o u=>?_⟩;rcases l i with rfl|⟨y,f⟩
   . rw[az]at u;grind
   . rw[f]at u;cases u
 . rcases l i with rfl|⟨_,f⟩
   . rw[az]at p;simp_all
   . rw[f]at p;cases p
theorem bX.finish{P:Program}{g:Goroutine}{gs:Array Goroutine}{q:Nat->Nat}(h:bX Z kk OO (λ_=>False) (λ_=>False) w t)(m:gs[0]?=some g)(o:Leavers P t gs q)(hd:Deaf t 0=0):du P Z.W0 (kk 0) (OO 0) g gs w t:=by
 refine⟨Z.Shun,q,m,o,⟨h.clean,λn a c d=>?_,λn s j e f=>?_,hd,h.seen⟩,λa c=>?_,λr k=>?_,h.sat 0,h.xw,h.mine 0⟩
 . rcases h.acc n a c d with b|⟨_,b,_⟩|⟨_,b,_⟩|⟨b,x,_⟩
   . grind
   . grind
   . grind
   simp_all
 . by_cases u:n<Z.N0
   . exact h.vt n s u j e f
   . have v:=f
     obtain⟨a,c,d,_⟩:=f;rcases h.acc n a c d with b|⟨_,b,_⟩|⟨_,b,_⟩|⟨_,_,b⟩
     . obtain⟨p,z,l,i,hb⟩:=b
       rcases hb with rfl|hb
       . rw[Trace.g?,l]at j
         simp_all
       . exact⟨p,by simp[Trace.g?,l,i],hb⟩
     . grind
     . grind
     simp_all
 . exact⟨(h.kK a c).1,((h.kK a c).2 0).1,((h.kK a c).2 0).2⟩
 . exact⟨(h.nH r k).1,(h.nH r k).2 0⟩
theorem bX.qN(h:bX Z kk OO J M w t)(S:Loc->Prop)(c:∀a,S (.cell a)->a.block<w.heap.size/\∀i,¬aO (OO i) a.block a.off/\(kk i).cell a.block a.off=none)(d:∀r,¬S (.obj r)):
 bX ⟨λl=>Z.Shun l\/S l,Z.N0,Z.lk,Z.la,Z.W0⟩ kk OO J M w t:=
 ⟨h.sat,h.iF,h.mz,h.zo,h.clean,h.seen,λn a b e=>(h.acc n a b e).imp id (·.imp id (·.imp id λx=>⟨.inl x.1,x.2⟩)),h.n0,h.vt,
   λa b=>b.elim (h.kK a) (c a),λr f=>f.elim (h.nH r) (λx=>absurd x (d r)),h.xw,h.mine⟩
end
def jK(u:Trace):Prop:=∀op∈u,op.act≠.mark .disable/\op.act≠.mark .enable
theorem sc{t u:Trace}(a:jK u)(g:Nat):∀m,m<=u.size->(t++u).deaf g (t.size+m)=Deaf t g
 |0,_=>deaf_old (Nat.le_refl _)
 | m+1,h=>by
   have b:m<u.size:=by omega
   have c:(t++u)[t.size+m]?=some u[m]:=by simp_all
   rw[<-Nat.add_assoc,deaf_succ c,sc a g m (by omega)];have:=a u[m] (Array.getElem_mem b);unfold deafStep
   simp_all
theorem bP{t u:Trace}(a:jK u)(g:Nat):Deaf (t++u) g=Deaf t g:=by
 have:=sc (t:=t) a g u.size (Nat.le_refl _);unfold Deaf at *
 simp_all
theorem cX{t u:Trace}{m:Nat}{op:MemOp}(h:u[m]?=some op):(t++u)[t.size+m]?=some op:=by grind
theorem heard_new{t u:Trace}(a:jK u){m:Nat}{op:MemOp}(h:u[m]?=some op)(hd:Deaf t op.g=0):(t++u).heard (t.size+m):=by have b:=(Array.getElem?_eq_some_iff.1 h).1;exact⟨op.g,by simp[Trace.g?,cX h],by rw[sc a _ _ (by omega)];exact hd⟩
section
variable{t u:Trace}{i j n:Nat}
theorem kL(a:Knows t i n){m:Nat}{op:MemOp}(h:u[m]?=some op)(b:op.g=i):Before (t++u) n (t.size+m):=.inr (a.hb_new (by omega) (cX h) b)
theorem vu(d:jK u){c k m1 m2:Nat}{x y:MemOp}(a:u[m1]?=some x)(b:u[m2]?=some y)(e:x.act=.send c k)(f:y.act=.recvDone c k)(h:Deaf t x.g=0)(i:Deaf t y.g=0)(j:Knows t x.g n):Knows (t++u) y.g n:=by
 have l:=kL j a rfl;have m:HappensBefore (t++u) (t.size+m1) (t.size+m2):=.single (.inr ⟨.handOver (c:=c) (k:=k) (by rw[act?_of (cX a),e]) (by rw[act?_of (cX b),f]),heard_new d a h,heard_new d b i⟩);exact⟨t.size+m2,y,cX b,rfl,l.trans (.inr m)⟩
theorem zp(e:jK u){c m p:Nat}{y:MemOp}(b:u[m]?=some y)(d:t.act? p=some (.close c))(f:t.heard p)(h:y.act=.recvClosed c)(i:Deaf t y.g=0)(hb:Before t n p):Knows (t++u) y.g n:=by
 have a:=lt_of_act? d;have j:HappensBefore (t++u) p (t.size+m):=.single (.inr ⟨.closed (c:=c) (by rw[act?_old a];exact d) (by rw[act?_of (cX b),h]),(heard_old a).2 f,heard_new e b i⟩);exact⟨t.size+m,y,cX b,rfl,(hb.app u).trans (.inr j)⟩
theorem tv(d:jK u){c m1 m2:Nat}{x y:MemOp}(b:u[m1]?=some x)(a:u[m2]?=some y)(e:x.act=.go y.g)(f:y.act=.start)(h:Deaf t x.g=0)(i:Deaf t y.g=0)(j:Knows t x.g n):Knows (t++u) y.g n:=by
 have k:=kL j b rfl;have l:HappensBefore (t++u) (t.size+m1) (t.size+m2):=.single (.inr ⟨.spawn (child:=y.g) (by rw[act?_of (cX b),e]) (by rw[act?_of (cX a),f]) (by simp[Trace.g?,cX a]),heard_new d b h,heard_new d a i⟩);exact⟨t.size+m2,y,cX a,rfl,k.trans (.inr l)⟩
end
theorem lY{t u:Trace}(f:jK u){a:Addr}{m p n:Nat}{y:MemOp}(c:u[m]?=some y)(h:y.act=.mark (.acquire a))(i:Deaf t y.g=0)(e:t.act? p=some (.mark (.releaseMerge a)))(j:t.heard p)(d:∀k,p<k->(t++u).act? k≠some (.mark (.release a)))(hb:Before t n p):Knows (t++u) y.g n:=by
 have b:=lt_of_act? e;have l:HappensBefore (t++u) p (t.size+m):=.single (.inr ⟨.marked (a:=a) (by omega) (.inr (by rw[act?_old b];exact e)) (by rw[act?_of (cX c),h]) (λk o _=>d k o),(heard_old b).2 j,heard_new f c i⟩);exact⟨t.size+m,y,cX c,rfl,(hb.app u).trans (.inr l)⟩
theorem vv{k:ai}{O:aj}{B:Nat}{es:Array Event}(h:∀e∈es.toList,iq k O B e)(g:Nat)(fn:FuncId)(pos:String):jK (MemOp.ofEvents g fn pos es):=λop a=>by
 obtain⟨e,c,rfl⟩:=Go.Conc.mem_ofEvents a;have:=h e (by simp_all);obtain⟨loc,wr,b⟩:=e;cases loc with
 |cell d=>simp[MemAct.ofEvent]
 |obj r=>cases wr<;>cases b<;>simp[MemAct.ofEvent]
 |mark m=>simp only[iq]at this;cases m<;>simp_all [jo,lU,MemAct.ofEvent]
 |_=>simp[iq]at this
end Go.bu
namespace Go.bu.Mu
structure Wd where
 L:Bool
 K:Bool
 S:Bool
 N:Nat
 deriving DecidableEq
def Wd.zero:Wd:=⟨false,false,false,0⟩
structure Lo where
 aw:Bool
 sv:Bool
 it:Nat
 deriving DecidableEq
inductive Pc where
 |out
 |fZ
 |rd (l:Lo)
 |sq (old:Wd) (l:Lo)
 |sw (old:Wd) (l:Lo)
 |jI (old:Wd) (l:Lo)
 |fA (sv:Bool)
 |tq
 |up (sv:Bool)
 |add (old:Wd) (sv:Bool)
 |held
 |ir (old:Wd)
 |ub
 |give
 |bad
 deriving DecidableEq
def hd(old:Wd)(l:Lo):List Pc:=(if old.L && !old.S && decide (l.it<4)then[if !l.aw && !old.K && decide (old.N≠0)then .sw old l else .rd {l with it:=l.it+1}]else[])++[.jI old l]
def nx(old:Wd)(l:Lo):Pc:=if old.L && !old.S then .sq old l else .jI old l
def nY(old:Wd)(l:Lo):Wd:=⟨old.L||!old.S,if l.aw then false else old.K,old.S||(l.sv && old.L),if old.L||old.S then old.N+1 else old.N⟩
structure Sh where
 w:Wd
 ms:Nat
 deriving DecidableEq
def mv(p:Pc)(s:Sh):List (Pc × Sh):=
 match p with
 |.out=>[]
 |.fZ=>if s.w=.zero then[(.held,{s with w:={Wd.zero with L:=true}})]else[(.rd ⟨false,false,0⟩,s)]
 |.rd l=>[(nx s.w l,s)]
 |.sq old l=>(hd old l).map (·,s)
 |.sw old l=>if s.w=old then[(.rd {l with aw:=true,it:=l.it+1},{s with w:={old with K:=true}})]else[(.rd {l with it:=l.it+1},s)]
 | .jI old l=>
   if l.aw && !old.K then[(.bad,s)]else
   if s.w=old then[(if old.L||old.S then .fA l.sv else .held,{s with w:=nY old l})]else[(.rd l,s)]
 |.fA sv=>if s.ms=0 then[]else[(if sv then .up true else .tq,{s with ms:=s.ms-1})]
 |.tq=>[(.up false,s),(.up true,s)]
 |.up sv=>if s.w.S then(if s.w.L||s.w.K||decide (s.w.N=0)then[(.bad,s)]else[(.add s.w sv,s)])else[(nx s.w ⟨true,sv,0⟩,s)]
 |.add old sv=>[(.held,{s with w:={s.w with L:=true,S:=s.w.S && !(!sv||decide (old.N=1)),N:=s.w.N-1}})]
 | .held=>
   let w:={s.w with L:=false}
   if s.w.L=false then[(.bad,s)]else
   [(if w=.zero then .out else if w.S then .give else if decide (w.N=0)||w.K then .out else .ir w,{s with w})]
 |.ir old=>if s.w=old then[(.give,{s with w:={old with K:=true,N:=old.N-1}})]else[(.ub,s)]
 |.ub=>[(if decide (s.w.N=0)||s.w.L||s.w.K||s.w.S then .out else .ir s.w,s)]
 |.give=>[(.out,{s with ms:=s.ms+1})]
 |.bad=>[]
def tot(n:Nat)(f:Nat->Nat):Nat:=match n with
 |0=>0
 |n+1=>tot n f+f n
def set(pcs:Nat->Pc)(i:Nat)(p:Pc):Nat->Pc:=λj=>if j=i then p else pcs j
theorem ao(pcs:Nat->Pc)(i:Nat)(p:Pc):set pcs i p i=p:=by simp[set]
theorem ak(pcs:Nat->Pc){i j:Nat}(p:Pc)(h:j≠i):set pcs i p j=pcs j:=by simp[set,h]
theorem sd{f g:Nat->Nat}:∀{n:Nat},(∀i,i<n->f i=g i)->tot n f=tot n g
 |0,_=>rfl
 |n+1,h=>by rw[tot,tot,sd (n:=n) λi a=>h i (by omega),h n (by omega)]
theorem eX(f:Pc->Nat)(pcs:Nat->Pc)(i:Nat)(p:Pc):∀{n:Nat},i<n->tot n (λj=>f (set pcs i p j))+f (pcs i)=tot n (λj=>f (pcs j))+f p
 |0,h=>by omega
 | n + 1,h=>by
   by_cases e:i=n
   . subst e
     rw[tot,tot,ao,sd (g:=λj=>f (pcs j)) λj a=>by rw[ak pcs p (show j≠i by omega)]];omega
   . have:=eX f pcs i p (n:=n) (by omega)
     rw[tot,tot,ak pcs p (show n≠i by omega)];omega
theorem gV(f:Nat->Nat){i:Nat}:∀{n:Nat},i<n->f i<=tot n f
 |0,h=>by omega
 | n+1,h=>by
   rw[tot];by_cases e:i=n
   . simp_all
   . have:=gV f (n:=n) (i:=i) (by omega);omega
theorem A9{f:Nat->Nat}:∀{n:Nat},tot n f=0->∀i,i<n->f i=0
 |0,_,i,a=>by omega
 | n+1,h,i,a=>by
   rw[tot]at h;by_cases e:i=n
   . simp_all
   . exact A9 (n:=n) (by omega) i (by omega)
def bO:Pc->Nat|.held=>1|_=>0
def eE:Pc->Nat|.rd l=>l.aw.toNat|.sq _ l=>l.aw.toNat|.sw _ l=>l.aw.toNat|.jI _ l=>l.aw.toNat|_=>0
def cj:Pc->Nat|.fA _=>1|_=>0
def ck:Pc->Nat|.give=>1|_=>0
def lZ:Pc->Nat|.tq=>1|.up _=>1|_=>0
def cO:Pc->Nat|.add _ _=>1|_=>0
def ga:Pc->Nat|.ir _=>1|.ub=>1|_=>0
def loc:Pc->Prop
 |.rd l=>(l.sv=true->l.aw=true)/\l.it<=4
 |.sq old l=>(l.aw=true->old.K=true)/\(l.sv=true->l.aw=true)/\l.it<=4/\old.L=true/\old.S=false
 |.sw old l=>l.aw=false/\l.sv=false/\old.L=true/\old.S=false/\old.K=false/\l.it<4
 |.jI old l=>(l.aw=true->old.K=true)/\(l.sv=true->l.aw=true)/\l.it<=4
 |.ir old=>old.L=false/\old.K=false/\old.S=false/\old.N≠0
 |.bad=>False
 |_=>True
structure Inv0(n:Nat)(pcs:Nat->Pc)(s:Sh):Prop where
 j0:∀i,i<n->loc (pcs i)
 j1:tot n (λi=>bO (pcs i))=s.w.L.toNat
 j2:s.w.S=false->tot n (λi=>eE (pcs i))+tot n (λi=>ck (pcs i))+s.ms+tot n (λi=>lZ (pcs i))=s.w.K.toNat/\tot n (λi=>cO (pcs i))=0/\tot n (λi=>cj (pcs i))=s.w.N+tot n (λi=>ck (pcs i))+s.ms
 j3:s.w.S=true->s.w.K=false/\tot n (λi=>eE (pcs i))=0/\tot n (λi=>ck (pcs i))+s.ms+tot n (λi=>lZ (pcs i))+tot n (λi=>cO (pcs i))=(!s.w.L).toNat/\tot n (λi=>cj (pcs i))+tot n (λi=>lZ (pcs i))+tot n (λi=>cO (pcs i))=s.w.N
 j4:s.w.L=false->s.w.K=false->s.w.S=false->s.w.N≠0->0<tot n (λi=>ga (pcs i))
theorem OY{old:Wd}{l:Lo}(a:l.sv=true->l.aw=true)(b:l.it<=4)(c:l.aw=true->old.K=true){p:Pc}(h:p∈hd old l):loc p/\eE p=l.aw.toNat/\bO p=0/\cj p=0/\ck p=0/\lZ p=0/\cO p=0/\ga p=0:=by
 obtain⟨aw,sv,it⟩:=l;obtain⟨i,j,k,m⟩:=old;simp only at a b c;unfold hd at h;simp only[List.mem_append,List.mem_singleton]at h;rcases h with h|rfl
 . split at h
   . rename_i d
     simp at d;simp only[List.mem_singleton]at h;subst h;split
     . rename_i e
       simp at e;obtain⟨⟨f,g⟩,n⟩:=e;subst f;have:sv=false:=by simp_all
       simp[loc,eE,bO,cj,ck,lZ,cO,ga,d,this,g]
     . exact⟨⟨a,by grind⟩,rfl,rfl,rfl,rfl,rfl,rfl,rfl⟩
   . simp at h
 . exact⟨⟨c,a,b⟩,rfl,rfl,rfl,rfl,rfl,rfl,rfl⟩
theorem IE{old:Wd}{l:Lo}(a:l.sv=true->l.aw=true)(b:l.it<=4)(c:l.aw=true->old.K=true):loc (nx old l)/\eE (nx old l)=l.aw.toNat/\bO (nx old l)=0/\cj (nx old l)=0/\ck (nx old l)=0/\lZ (nx old l)=0/\cO (nx old l)=0/\ga (nx old l)=0:=by
 unfold nx;split
 . rename_i h
   simp at h;exact⟨⟨c,a,b,h.1,h.2⟩,rfl,rfl,rfl,rfl,rfl,rfl,rfl⟩
 . exact⟨⟨c,a,b⟩,rfl,rfl,rfl,rfl,rfl,rfl,rfl⟩
set_option maxHeartbeats 2000000 in
theorem Inv0.step{n:Nat}{pcs:Nat->Pc}{s s':Sh}{i:Nat}{q:Pc}(h:Inv0 n pcs s)(m:i<n)(a:(q,s')∈mv (pcs i) s):Inv0 n (set pcs i q) s':=by
 have H:=eX bO pcs i q m;have A:=eX eE pcs i q m;have P:=eX cj pcs i q m;have G:=eX ck pcs i q m;have U:=eX lZ pcs i q m;have D:=eX cO pcs i q m;have R:=eX ga pcs i q m;have M:=gV (λj=>bO (pcs j)) m
 have O:=gV (λj=>eE (pcs j)) m
 have W:=gV (λj=>cj (pcs j)) m
 have Q:=gV (λj=>ck (pcs j)) m
 have E:=gV (λj=>lZ (pcs j)) m
 have T:=gV (λj=>cO (pcs j)) m
 have F:=gV (λj=>ga (pcs j)) m
 have z:=h.j0 i m;obtain⟨⟨d,f,g,X⟩,ms⟩:=s;have j1:=h.j1;have j2:=h.j2;have j3:=h.j3;have j4:=h.j4;simp only at j1 j2 j3 j4
 have key:∀(o:Wd) (u:Nat),s'=⟨o,u⟩->loc q->(tot n (λj=>bO (set pcs i q j))=o.L.toNat) ->
  (o.S=false->tot n (λj=>eE (set pcs i q j))+tot n (λj=>ck (set pcs i q j))+u+tot n (λj=>lZ (set pcs i q j))=o.K.toNat/\tot n (λj=>cO (set pcs i q j))=0/\tot n (λj=>cj (set pcs i q j))=o.N+tot n (λj=>ck (set pcs i q j))+u) ->
  (o.S=true->o.K=false/\tot n (λj=>eE (set pcs i q j))=0/\tot n (λj=>ck (set pcs i q j))+u+tot n (λj=>lZ (set pcs i q j))+tot n (λj=>cO (set pcs i q j))=(!o.L).toNat/\tot n (λj=>cj (set pcs i q j))+tot n (λj=>lZ (set pcs i q j))+tot n (λj=>cO (set pcs i q j))=o.N) ->
  (o.L=false->o.K=false->o.S=false->o.N≠0->0<tot n (λj=>ga (set pcs i q j)))->Inv0 n (set pcs i q) s':=by
  rintro o u rfl I r w t B
  refine⟨λj hj=>?_,r,w,t,B⟩
  by_cases e:j=i
  . subst e;rw[ao];exact I
  . rw[ak pcs q e];exact h.j0 j hj
 generalize hp:pcs i=p at *;generalize tot n (λj=>bO (set pcs i q j))=H' at *
 generalize tot n (λj=>eE (set pcs i q j))=A' at *
 generalize tot n (λj=>cj (set pcs i q j))=P' at *
 generalize tot n (λj=>ck (set pcs i q j))=G' at *
 generalize tot n (λj=>lZ (set pcs i q j))=U' at *
 generalize tot n (λj=>cO (set pcs i q j))=D' at *
 generalize tot n (λj=>ga (set pcs i q j))=R' at *
 generalize tot n (λj=>bO (pcs j))=H0 at *
 generalize tot n (λj=>eE (pcs j))=A0 at *
 generalize tot n (λj=>cj (pcs j))=P0 at *
 generalize tot n (λj=>ck (pcs j))=G0 at *
 generalize tot n (λj=>lZ (pcs j))=U0 at *
 generalize tot n (λj=>cO (pcs j))=D0 at *
 generalize tot n (λj=>ga (pcs j))=R0 at *
 cases p with
 |out=>simp[mv]at a
 |bad=>simp[mv]at a
 | fZ=>
   simp only[mv]at a;split at a
   . rename_i c
     simp only[Wd.zero,Wd.mk.injEq]at c;obtain⟨rfl,rfl,rfl,rfl⟩:=c;simp only[List.mem_singleton,Prod.mk.injEq]at a;obtain⟨rfl,rfl⟩:=a;refine key _ _ rfl trivial ?_ ?_ ?_ ?_<;>simp[bO,eE,cj,ck,lZ,cO,ga,Wd.zero]at *<;>omega
   . simp only[List.mem_singleton,Prod.mk.injEq]at a
     obtain⟨rfl,rfl⟩:=a;refine key _ _ rfl (by simp[loc]) ?_ ?_ ?_ ?_<;>simp[bO,eE,cj,ck,lZ,cO,ga,Wd.zero]at *<;>cases d<;>cases f<;>cases g<;>simp at *<;>omega
 | rd l=>
   simp only[mv,List.mem_singleton,Prod.mk.injEq]at a;obtain⟨rfl,rfl⟩:=a
   have Y:l.aw=true->f=true:=λha=>by
    simp[eE,ha]at O;cases g
    . have:=(j2 rfl).1
      cases f
      . simp at this;omega
      . rfl
    . have:=(j3 rfl).2.1;omega
   obtain⟨I,r,w,t,B,Z,k6,k7⟩:=IE (old:=⟨d,f,g,X⟩) z.1 z.2 Y;rw[r]at A;rw[w]at H;rw[t]at P;rw[B]at G;rw[Z]at U;rw[k6]at D;rw[k7]at R;refine key _ _ rfl I ?_ ?_ ?_ ?_<;>simp[bO,eE,cj,ck,lZ,cO,ga]at H A P G U D R ⊢<;>cases d<;>cases f<;>cases g<;>simp at j1 j2 j3 j4 ⊢<;>omega
 |sq old l=>simp only[mv,List.mem_map,Prod.mk.injEq]at a;obtain⟨q',k,rfl,rfl⟩:=a;obtain⟨I,r,w,t,B,Z,k6,k7⟩:=OY z.2.1 z.2.2.1 z.1 k;rw[r]at A;rw[w]at H;rw[t]at P;rw[B]at G;rw[Z]at U;rw[k6]at D;rw[k7]at R;refine key _ _ rfl I ?_ ?_ ?_ ?_<;>simp[bO,eE,cj,ck,lZ,cO,ga]at H A P G U D R ⊢<;>cases d<;>cases f<;>cases g<;>simp at j1 j2 j3 j4 ⊢<;>omega
 | sw old l=>
   obtain⟨oL,oK,oS,oN⟩:=old;obtain⟨x,y,C,V,h5,h6⟩:=z;obtain⟨aw,sv,it⟩:=l;simp only at x y C V h5 h6;subst x;subst y;subst C;subst V;subst h5;simp only[mv]at a;split at a
   . rename_i c
     simp only[Wd.mk.injEq]at c;obtain⟨rfl,rfl,rfl,rfl⟩:=c;simp only[List.mem_singleton,Prod.mk.injEq]at a;obtain⟨rfl,rfl⟩:=a;refine key _ _ rfl (by simp[loc];omega) ?_ ?_ ?_ ?_<;>simp[bO,eE,cj,ck,lZ,cO,ga]at *<;>omega
   . simp only[List.mem_singleton,Prod.mk.injEq]at a
     obtain⟨rfl,rfl⟩:=a;refine key _ _ rfl (by simp[loc];omega) ?_ ?_ ?_ ?_<;>simp[bO,eE,cj,ck,lZ,cO,ga]at H A P G U D R ⊢<;>cases d<;>cases f<;>cases g<;>simp at j1 j2 j3 j4 ⊢<;>omega
 | jI old l=>
   obtain⟨oL,oK,oS,oN⟩:=old;obtain⟨x,y,C⟩:=z;obtain⟨aw,sv,it⟩:=l;simp only at x y C;simp only[mv]at a;split at a
   . rename_i c
     simp at c;have:=x c.1;rw[this]at c;simp at c
   split at a
   . rename_i c
     simp only[Wd.mk.injEq]at c;obtain⟨rfl,rfl,rfl,rfl⟩:=c;simp only[List.mem_singleton,Prod.mk.injEq]at a;obtain⟨k,rfl⟩:=a;cases aw<;>cases sv<;>simp only[Bool.false_eq_true,false_implies,true_implies,imp_false,not_true]at y
     all_goals cases d<;>cases g<;>simp at k<;>subst k
     all_goals refine key _ _ rfl (by simp[loc]) ?_ ?_ ?_ ?_<;>simp[bO,eE,cj,ck,lZ,cO,ga,nY]at H A P G U D R M O W Q E T F ⊢<;>cases f<;>simp at j1 j2 j3 j4 x ⊢<;>omega
   . simp only[List.mem_singleton,Prod.mk.injEq]at a
     obtain⟨rfl,rfl⟩:=a;refine key _ _ rfl ⟨y,C⟩ ?_ ?_ ?_ ?_<;>simp[bO,eE,cj,ck,lZ,cO,ga]at H A P G U D R ⊢<;>cases d<;>cases f<;>cases g<;>simp at j1 j2 j3 j4 ⊢<;>omega
 | fA sv=>
   simp only[mv]at a;split at a
   . simp at a
   . rename_i c
     simp only[List.mem_singleton,Prod.mk.injEq]at a;obtain⟨rfl,rfl⟩:=a;cases sv
     all_goals refine key _ _ rfl trivial ?_ ?_ ?_ ?_<;>simp[bO,eE,cj,ck,lZ,cO,ga]at H A P G U D R M O W Q E T F ⊢<;>cases d<;>cases f<;>cases g<;>simp at j1 j2 j3 j4 ⊢<;>omega
 | tq=>
   simp only[mv,List.mem_cons,Prod.mk.injEq,List.not_mem_nil,or_false]at a
   rcases a with⟨rfl,rfl⟩|⟨rfl,rfl⟩
   all_goals refine key _ _ rfl trivial ?_ ?_ ?_ ?_<;>simp[bO,eE,cj,ck,lZ,cO,ga]at H A P G U D R M O W Q E T F ⊢<;>cases d<;>cases f<;>cases g<;>simp at j1 j2 j3 j4 ⊢<;>omega
 | up sv=>
   simp only[mv]at a;split at a
   . rename_i c
     subst c;obtain⟨r,w,t,B⟩:=j3 rfl;simp[lZ]at E;have J:d=false:=by cases d<;>simp at t ⊢;omega
     subst J;subst r;have hN:X≠0:=by omega
     simp only[Bool.false_or,hN,decide_false,Bool.false_eq_true,if_false,List.mem_singleton,Prod.mk.injEq]at a;obtain⟨rfl,rfl⟩:=a;refine key _ _ rfl trivial ?_ ?_ ?_ ?_<;>simp[bO,eE,cj,ck,lZ,cO,ga]at H A P G U D R t j1 ⊢<;>omega
   . rename_i c
     simp at c;subst c;simp only[List.mem_singleton,Prod.mk.injEq]at a;obtain⟨rfl,rfl⟩:=a;obtain⟨r,w,t⟩:=j2 rfl;simp[lZ]at E;have Y:f=true:=by cases f<;>simp at r ⊢;omega
     subst Y;obtain⟨l0,l1,l2,l3,l4,l5,l6,l7⟩:=IE (l:=⟨true,sv,0⟩) (old:=⟨d,true,false,X⟩) (λ_=>rfl) (by simp) (λ_=>rfl)
     rw[l1]at A;rw[l2]at H;rw[l3]at P;rw[l4]at G;rw[l5]at U;rw[l6]at D;rw[l7]at R;refine key _ _ rfl l0 ?_ ?_ ?_ ?_<;>simp[bO,eE,cj,ck,lZ,cO,ga]at H A P G U D R r ⊢<;>cases d<;>simp at j1 j4 ⊢<;>omega
 | add old sv=>
   simp only[mv,List.mem_singleton,Prod.mk.injEq]at a;obtain⟨rfl,rfl⟩:=a;simp[cO]at T
   have hS:g=true:=by
    cases g with
    |true=>rfl
    |false=>have:=(j2 rfl).2.1;omega
   subst hS;obtain⟨r,w,t,B⟩:=j3 rfl;have J:d=false:=by cases d<;>simp at t ⊢;omega
   subst J;subst r;generalize hb:(true && !(!sv||decide (old.N=1)))=b at key ⊢
   refine key _ _ rfl trivial ?_ ?_ ?_ ?_<;>simp[bO,eE,cj,ck,lZ,cO,ga]at H A P G U D R t j1 ⊢<;>cases b<;>(try simp)<;>omega
 | held=>
   simp[bO]at M;have J:d=true:=by cases d<;>simp at j1 ⊢;omega
   subst J;simp only[mv,Bool.true_eq_false,if_false,List.mem_singleton,Prod.mk.injEq]at a;obtain⟨k,rfl⟩:=a;split at k
   . rename_i c
     simp only[Wd.zero,Wd.mk.injEq,true_and]at c;obtain⟨rfl,rfl,rfl⟩:=c;subst k;refine key _ _ rfl trivial ?_ ?_ ?_ ?_<;>simp[bO,eE,cj,ck,lZ,cO,ga]at *<;>omega
   split at k
   . rename_i c
     have c:g=true:=c;subst c;subst k;obtain⟨r,w,t,B⟩:=j3 rfl;subst r;refine key _ _ rfl trivial ?_ ?_ ?_ ?_<;>simp[bO,eE,cj,ck,lZ,cO,ga]at H A P G U D R j1 t ⊢<;>omega
   split at k
   . rename_i a7 v c
     simp at v;subst v;subst k;refine key _ _ rfl trivial ?_ ?_ ?_ ?_<;>simp[bO,eE,cj,ck,lZ,cO,ga]at *<;>cases f<;>simp at *<;>omega
   . rename_i a7 v c
     simp at v c;subst v;subst k;refine key _ _ rfl (by simp[loc,c]) ?_ ?_ ?_ ?_<;>simp[bO,eE,cj,ck,lZ,cO,ga]at *<;>simp[c]at *<;>omega
 | ir old=>
   obtain⟨oL,oK,oS,oN⟩:=old;obtain⟨x,y,C,V⟩:=z;simp only at x y C V;subst x;subst y;subst C;simp only[mv]at a;split at a
   . rename_i c
     simp only[Wd.mk.injEq]at c;obtain⟨rfl,rfl,rfl,rfl⟩:=c;simp only[List.mem_singleton,Prod.mk.injEq]at a;obtain⟨rfl,rfl⟩:=a;refine key _ _ rfl trivial ?_ ?_ ?_ ?_<;>simp[bO,eE,cj,ck,lZ,cO,ga]at *<;>omega
   . simp only[List.mem_singleton,Prod.mk.injEq]at a
     obtain⟨rfl,rfl⟩:=a;refine key _ _ rfl trivial ?_ ?_ ?_ ?_<;>simp[bO,eE,cj,ck,lZ,cO,ga]at H A P G U D R F ⊢<;>cases d<;>cases f<;>cases g<;>simp at j1 j2 j3 j4 ⊢<;>omega
 | ub=>
   simp only[mv,List.mem_singleton,Prod.mk.injEq]at a;obtain⟨k,rfl⟩:=a;split at k
   . rename_i c
     subst k;refine key _ _ rfl trivial ?_ ?_ ?_ ?_<;>simp[bO,eE,cj,ck,lZ,cO,ga]at H A P G U D R F c ⊢<;>cases d<;>cases f<;>cases g<;>simp at j1 j2 j3 j4 c ⊢<;>omega
   . rename_i c
     simp at c;subst k;obtain⟨⟨⟨z1,z2⟩,z3⟩,z4⟩:=c;subst z2;subst z3;subst z4;refine key _ _ rfl (by simp[loc,z1]) ?_ ?_ ?_ ?_<;>simp[bO,eE,cj,ck,lZ,cO,ga]at *<;>omega
 |give=>simp only[mv,List.mem_singleton,Prod.mk.injEq]at a;obtain⟨rfl,rfl⟩:=a;refine key _ _ rfl trivial ?_ ?_ ?_ ?_<;>simp[bO,eE,cj,ck,lZ,cO,ga]at H A P G U D R Q ⊢<;>cases d<;>cases f<;>cases g<;>simp at j1 j2 j3 j4 ⊢<;>omega
structure Inv(n:Nat)(pcs:Nat->Pc)(s:Sh):Prop extends Inv0 n pcs s where
 j5:s.w.S=true->s.w.N≠0
 j6:∀i,i<n->∀old sv,pcs i=.add old sv->old.N<=s.w.N/\old.N≠0
theorem Inv0.NY{n:Nat}{pcs:Nat->Pc}{s:Sh}(h:Inv0 n pcs s){i:Nat}(a:i<n){old:Wd}{sv:Bool}(b:pcs i=.add old sv):s.w.S=true/\tot n (λi=>cO (pcs i))<=1:=by
 have d:cO (pcs i)=1:=by rw[b];rfl
 have f:cO (pcs i)<=tot n (λi=>cO (pcs i)):=gV (λi=>cO (pcs i)) a
 cases e:s.w.S with
 |true=>refine⟨rfl,?_⟩;have:=(h.j3 e).2.2.1;cases c:s.w.L<;>rw[c]at this<;>simp at this<;>omega
 |false=>have:=(h.j2 e).2.1;omega
theorem Inv0.add_one{n:Nat}{pcs:Nat->Pc}{s:Sh}(h:Inv0 n pcs s){i l:Nat}(d:i<n)(g:l<n){old a:Wd}{sv b:Bool}(f:pcs i=.add old sv)(c:pcs l=.add a b):i=l:=by
 by_cases e:i=l
 . exact e
 . have m:=(h.NY d f).2
   have o:=eX cO pcs i .out d;have k:cO (set pcs i .out l)<=tot n (λj=>cO (set pcs i .out j)):=gV (λj=>cO (set pcs i .out j)) g
   rw[ak pcs Pc.out (Ne.symm e)]at k;have p:cO (pcs i)=1:=by rw[f];rfl
   have q:cO (pcs l)=1:=by rw[c];rfl
   have r:cO .out=0:=rfl;omega
theorem Inv.step{n:Nat}{pcs:Nat->Pc}{s s':Sh}{i:Nat}{q:Pc}(h:Inv n pcs s)(g:i<n)(b:(q,s')∈mv (pcs i) s):Inv n (set pcs i q) s':=by
 have k:=h.j0 i g
 have key:(s'.w.S=true->s'.w.N≠0)/\(s.w.N<=s'.w.N\/(∃old sv,pcs i=.add old sv)\/s.w.S=false)/\(∀old sv,q=.add old sv->old.N<=s'.w.N/\old.N≠0):=by
  have j:=h.j5;have m:=h.j6 i g;revert b k m;cases pcs i with
  |out=>intro b;simp[mv]at b
  |bad=>intro b;simp[mv]at b
  | fZ=>
    intro b _ _;simp only[mv]at b
    grind
  |rd l=>intro b _ _;simp[mv]at b;obtain⟨rfl,rfl⟩:=b;exact⟨j,.inl (Nat.le_refl _),λold sv h=>by unfold nx at h;grind⟩
  | sq o l=>
    intro b _ _;simp only[mv,List.mem_map,Prod.mk.injEq]at b;obtain⟨a,r,rfl,rfl⟩:=b;refine⟨j,.inl (Nat.le_refl _),λold sv h=>?_⟩;subst h;unfold hd at r
    grind
  | sw o l=>
    intro b _ _;simp only[mv]at b
    grind
  | jI o l=>
    intro b _ _;simp only[mv]at b;split at b
    . simp_all
    . split at b
      . rename_i p
        simp at b;obtain⟨rfl,rfl⟩:=b;rw[p]at j ⊢;refine⟨λh=>?_,.inl ?_,λold sv h=>by grind⟩
        . unfold nY at h ⊢
          grind
        . unfold nY
          grind
      simp_all
  | fA sv=>
    intro b _ _;simp only[mv]at b
    grind
  | tq=>
    intro b _ _;simp[mv]at b
    grind
  | up sv=>
    intro b _ _;simp only[mv]at b;split at b
    . grind
    . simp at b;obtain⟨rfl,rfl⟩:=b
      exact⟨j,.inl (Nat.le_refl _),λold sv h=>by unfold nx at h;grind⟩
  |add o sv=>intro b _ m;simp[mv]at b;grind
  | held=>
    intro b _ _;simp only[mv]at b
    grind
  | ir o=>
    intro b k _;simp only[mv]at b;split at b
    . rename_i p
      simp at b;obtain⟨rfl,rfl⟩:=b;have x:o.S=false:=k.2.2.1
      simp_all
    simp_all
  |ub=>intro b _ _;simp only[mv,List.mem_singleton,Prod.mk.injEq]at b;grind
  |give=>intro b _ _;simp[mv]at b;simp_all
 obtain⟨t,c,y⟩:=key;refine⟨h.toInv0.step g b,t,λl d old sv f=>?_⟩;by_cases e:l=i
 . subst e
   rw[ao]at f
   simp_all
 . rw[ak pcs q e]at f
   obtain⟨z,u⟩:=h.j6 l d old sv f;refine⟨?_,u⟩;rcases c with c|⟨o,v,c⟩|c
   . omega
   . exact absurd (h.toInv0.add_one g d c f) (Ne.symm e)
   . rw[(h.toInv0.NY d f).1]at c;cases c
theorem zq:∀n:Nat,tot n (λ_=>0)=0
 |0=>rfl
 |n+1=>by rw[tot,zq n]
theorem Inv.rest{n:Nat}{pcs:Nat->Pc}{s:Sh}(h:Inv n pcs s)(l:∀i,i<n->pcs i=.out):s.w=.zero/\s.ms=0:=by
 have f:∀(F:Pc->Nat),F .out=0->tot n (λi=>F (pcs i))=0:=λF m=>by
  have:tot n (λi=>F (pcs i))=tot n (λ_=>0):=sd λi o=>by simp_all
  rw[this];exact zq n
 have L:s.w.L=false:=by
  have:=h.j1;rw[f bO rfl]at this
  grind
 have S:s.w.S=false:=by
  cases e:s.w.S with
  |false=>rfl
  |true=>have:=(h.j3 e).2.2.2;rw[f cj rfl,f lZ rfl,f cO rfl]at this;exact absurd this.symm (h.j5 e)
 obtain⟨g,p,j⟩:=h.j2 S;rw[f eE rfl,f ck rfl,f lZ rfl]at g;rw[f cj rfl,f ck rfl]at j;have K:s.w.K=false:=by grind
 refine⟨?_,by omega⟩;have N:s.w.N=0:=by omega
 cases k:s.w with
 |mk a b c d=>rw[k]at L S K N;simp only at L S K N;subst L;subst S;subst K;subst N;rfl
def fB:Pc->Nat
 |.out=>0
 |.fZ=>6
 |.rd l=>if l.aw then 5 else 6
 |.sq _ l=>if l.aw then 5 else 6
 |.sw _ _=>6
 |.jI _ l=>if l.aw then 5 else 6
 |.fA _=>4
 |.tq=>5
 |.up _=>5
 |.add _ _=>5
 |.held=>3
 |.ir _=>2
 |.ub=>2
 |.give=>1
 |.bad=>0
def iS(w:Wd):Pc->Nat
 |.out=>0
 |.fZ=>16
 |.rd l=>3+3*(4-l.it)
 |.sq old l=>if w=old then 2+3*(4-l.it)else 5+3*(4-l.it)
 |.sw old l=>if w=old then 1 else 4+3*(3-l.it)
 |.jI old l=>if w=old then 1 else 4+3*(4-l.it)
 |.fA _=>18
 |.tq=>17
 |.up _=>16
 |.add _ _=>1
 |.held=>1
 |.ir old=>if w=old then 1 else 4
 |.ub=>3
 |.give=>1
 |.bad=>0
theorem My(w:Wd)(p:Pc):iS w p<=18:=by cases p<;>simp[iS]<;>(try split)<;>omega
theorem Da{f:Nat->Nat}{c:Nat}(h:∀i,f i<=c):∀n,tot n f<=n*c
 |0=>by simp[tot]
 |n+1=>by have:=Da h n;have:=h n;rw[tot,Nat.succ_mul];omega
def phi(n:Nat)(pcs:Nat->Pc)(s:Sh):Nat:=tot n (λi=>fB (pcs i))+s.ms
def meas(n:Nat)(pcs:Nat->Pc)(s:Sh):Nat:=phi n pcs s*(18*n+1)+tot n (λi=>iS s.w (pcs i))
theorem Mz{p q:Pc}{s s':Sh}(f:loc p)(h:(q,s')∈mv p s):fB q+s'.ms<fB p+s.ms\/(s'.w=s.w/\fB q+s'.ms<=fB p+s.ms/\iS s.w q<iS s.w p):=by
 have g:∀(old:Wd) (l:Lo) (q:Pc),q∈hd old l->fB q=fB (.rd l)/\iS s.w q<(if s.w=old then 2+3*(4-l.it)else 5+3*(4-l.it)):=λold l q b=>by
  unfold hd at b;simp only[List.mem_append,List.mem_singleton]at b
  rcases b with b|rfl
  . split at b
    . rename_i a
      simp at a;simp only[List.mem_singleton]at b;subst b;split
      . rename_i i
        simp at i;simp[fB,iS,i.1.1]
        grind
      . refine⟨rfl,?_⟩
        have:=a.2;simp[iS]
        grind
    grind
  . simp[fB,iS]
    grind
 have c:∀(l:Lo),fB (nx s.w l)=fB (.rd l)/\iS s.w (nx s.w l)<3+3*(4-l.it):=λl=>by unfold nx;split<;>simp[fB,iS]<;>omega
 cases p with
 |out=>simp[mv]at h
 |bad=>simp[mv]at h
 |fZ=>simp only[mv]at h;split at h<;>simp only[List.mem_singleton,Prod.mk.injEq]at h<;>obtain⟨rfl,rfl⟩:=h<;>simp[fB,iS]
 |rd l=>simp only[mv,List.mem_singleton,Prod.mk.injEq]at h;obtain⟨rfl,rfl⟩:=h;obtain⟨d,e⟩:=c l;exact .inr ⟨rfl,by omega,e⟩
 |sq old l=>simp only[mv,List.mem_map,Prod.mk.injEq]at h;obtain⟨k,b,rfl,rfl⟩:=h;obtain⟨d,e⟩:=g old l _ b;exact .inr ⟨rfl,by rw[d];exact Nat.le_refl _,e⟩
 | sw old l=>
   have j:=f.1;have m:=f.2.2.2.2.2;simp only[mv]at h;split at h<;>rename_i a<;>simp only[List.mem_singleton,Prod.mk.injEq]at h<;>obtain⟨rfl,rfl⟩:=h
   . simp[fB,iS]
   . refine .inr ⟨rfl,by simp[fB,j],?_⟩
     simp[iS,a]
 | jI old l=>
   simp only[mv]at h;split at h
   . rename_i a
     simp at a;have:=f.1 a.1
     simp_all
   split at h<;>rename_i a<;>simp only[List.mem_singleton,Prod.mk.injEq]at h
   . obtain⟨rfl,rfl⟩:=h
     left;split<;>simp only[fB]<;>split<;>omega
   . obtain⟨rfl,rfl⟩:=h
     exact .inr ⟨rfl,by simp[fB],by simp[iS,a]⟩
 | fA sv=>
   simp only[mv]at h;split at h
   . simp at h
   . simp only[List.mem_singleton,Prod.mk.injEq]at h
     obtain⟨rfl,rfl⟩:=h;cases sv<;>exact .inr ⟨rfl,by simp[fB];omega,by simp[iS]⟩
 | tq=>
   simp only[mv,List.mem_cons,Prod.mk.injEq,List.not_mem_nil,or_false]at h
   rcases h with⟨rfl,rfl⟩|⟨rfl,rfl⟩<;>exact .inr ⟨rfl,by simp[fB],by simp[iS]⟩
 | up sv=>
   simp only[mv]at h;split at h
   . split at h<;>simp only[List.mem_singleton,Prod.mk.injEq]at h<;>obtain⟨rfl,rfl⟩:=h<;>exact .inr ⟨rfl,by simp[fB],by simp[iS]⟩
   . simp only[List.mem_singleton,Prod.mk.injEq]at h
     obtain⟨rfl,rfl⟩:=h;obtain⟨d,e⟩:=c ⟨true,sv,0⟩;refine .inr ⟨rfl,by rw[d];simp[fB],?_⟩
     have n:∀w,iS w (.up sv)=16:=λ_=>rfl
     grind
 |add old sv=>simp only[mv,List.mem_singleton,Prod.mk.injEq]at h;obtain⟨rfl,rfl⟩:=h;exact .inl (by simp[fB])
 | held=>
   simp only[mv]at h;left;split at h
   . simp only[List.mem_singleton,Prod.mk.injEq]at h;obtain⟨rfl,rfl⟩:=h;simp[fB]
   . simp only[List.mem_singleton,Prod.mk.injEq]at h
     obtain⟨rfl,rfl⟩:=h;split
     . simp[fB]
     split
     . simp[fB]
     split<;>simp[fB]
 | ir old=>
   simp only[mv]at h;split at h<;>rename_i a<;>simp only[List.mem_singleton,Prod.mk.injEq]at h<;>obtain⟨rfl,rfl⟩:=h
   . simp[fB]
   . exact .inr ⟨rfl,by simp[fB],by simp[iS,a]⟩
 | ub=>
   simp only[mv,List.mem_singleton,Prod.mk.injEq]at h;obtain⟨rfl,rfl⟩:=h;split
   . left;simp[fB]
   . exact .inr ⟨rfl,by simp[fB],by simp[iS]⟩
 |give=>simp only[mv,List.mem_singleton,Prod.mk.injEq]at h;obtain⟨rfl,rfl⟩:=h;exact .inr ⟨rfl,by simp[fB];omega,by simp[iS]⟩
theorem F1{n:Nat}{pcs:Nat->Pc}{s s':Sh}{i:Nat}{q:Pc}(a:i<n)(d:loc (pcs i))(e:(q,s')∈mv (pcs i) s):meas n (set pcs i q) s'<meas n pcs s/\phi n (set pcs i q) s'<=phi n pcs s:=by
 have C:=eX fB pcs i q a;have g:=gV (λj=>fB (pcs j)) a;rcases Mz d e with h|⟨k,l,m⟩
 . have b:phi n (set pcs i q) s'+1<=phi n pcs s:=by unfold phi;omega
   refine⟨?_,by omega⟩;have o:=Da (f:=λj=>iS s'.w (set pcs i q j)) (c:=18) (λj=>My _ _) n;have:=Nat.mul_le_mul_right (18*n+1) b;rw[Nat.add_mul]at this;unfold meas;omega
 . have b:phi n (set pcs i q) s'<=phi n pcs s:=by unfold phi;omega
   refine⟨?_,b⟩;have R:=eX (iS s.w) pcs i q a;have p:=gV (λj=>iS s.w (pcs j)) a;have:=Nat.mul_le_mul_right (18*n+1) b;unfold meas
   grind
theorem Inv.alive{n:Nat}{pcs:Nat->Pc}{s:Sh}(h:Inv n pcs s)(c:∀i,i<n->pcs i=.out\/∃sv,pcs i=.fA sv)(a:s.ms=0):∀i,i<n->pcs i=.out:=by
 have z:∀(f:Pc->Nat),f .out=0->(∀sv,f (.fA sv)=0)->tot n (λi=>f (pcs i))=0:=λf v w=>by
  have:∀m,m<=n->tot m (λi=>f (pcs i))=0:=λm=>by
   induction m with
   |zero=>intro _;rfl
   | succ m d=>
     intro a;rw[tot,d (by omega)]
     grind
  simp_all
 have g:=z bO rfl λ_=>rfl
 have j:=z eE rfl λ_=>rfl
 have k:=z ck rfl λ_=>rfl
 have l:=z lZ rfl λ_=>rfl
 have o:=z cO rfl λ_=>rfl
 have p:=z ga rfl λ_=>rfl
 have j1:=h.j1;have j2:=h.j2;have j3:=h.j3;have j4:=h.j4
 have q:tot n (λi=>cj (pcs i))=0:=by obtain⟨⟨r,t,u,x⟩,ms⟩:=s;simp only at j1 j2 j3 j4 a;subst a;cases r<;>cases t<;>cases u<;>simp[g,j,k,l,o,p]at j1 j2 j3 j4 ⊢<;>omega
 intro i b
 rcases c i b with e|⟨sv,e⟩
 . exact e
 . have:=A9 q i b
   rw[e]at this;simp[cj]at this
end Go.bu.Mu
namespace Go.bu
open Go.Conc
def l8{α:Type}(P:Program):Sem α->Option α
 |.pure a=>some a
 |.program f=>l8 P (f P)
 |_=>none
theorem IF{α:Type}{P:Program}(s:Sem α):∀{a:α},l8 P s=some a->∀w es,s.runT P w es=(.ok a w,es):=by
 induction s with
 |pure b=>intro a h w es;simp only[l8,Option.some.injEq]at h;subst h;rfl
 |program f c=>intro a h w es;simp only[l8]at h;simp only[Sem.runT];grind
 |_=>intro a h;simp[l8]at h
theorem kM{α β:Type}{P:Program}{f:α->Sem β}(s:Sem α):∀{a:α},l8 P s=some a->l8 P (s.bind f)=l8 P (f a):=by
 induction s with
 |pure b=>intro a h;simp only[l8,Option.some.injEq]at h;subst h;rfl
 |program g c=>intro a h;simp only[l8]at h;exact c P h
 |_=>intro a h;simp[l8]at h
def enc(L K S:Bool)(N:Int):Int:=8*N+(L.toNat+2*K.toNat+4*S.toNat:Nat)
theorem zr{L K S:Bool}{N:Int}(h:0<=N):enc L K S N=((8*N.toNat+(L.toNat+2*K.toNat+4*S.toNat):Nat):Int):=by unfold enc;omega
theorem Tx{N:Nat}{b m:Nat}(hb:b<8)(a:m<8):(8*N+b) &&& m=b &&& m:=by
 have c:m=m % 2 ^ 3:=by omega
 apply Nat.eq_of_testBit_eq;intro i;simp only[Nat.testBit_and];by_cases d:i<3
 . congr 1
   have:=Nat.testBit_two_pow_mul_add (i:=3) N (b:=b) (by omega) i
   grind
 . have:m.testBit i=false:=Nat.testBit_lt_two_pow (Nat.lt_of_lt_of_le a (by
    have:2 ^ 3<=2 ^ i:=Nat.pow_le_pow_right (by omega) (by omega);omega))
   grind
theorem MB{N:Nat}{b m:Nat}(hb:b<8)(c:m<8):(8*N+b)|||m=8*N+(b|||m):=by
 have e:=Nat.two_pow_add_eq_or_of_lt (i:=3) (b:=b) (by omega) N;have a:b|||m<2 ^ 3:=Nat.or_lt_two_pow (by omega) (by omega);have d:=Nat.two_pow_add_eq_or_of_lt (i:=3) (b:=b|||m) a N
 grind
def Ty(N:Int):Prop:=0<=N/\N<=1000000
theorem MC{L K S:Bool}{N:Int}(h:Ty N){m:Nat}(a:m<8):bits .and .i32 (enc L K S N) (m:Int)=(((L.toNat+2*K.toNat+4*S.toNat) &&& m:Nat):Int):=by
 have hb:L.toNat+2*K.toNat+4*S.toNat<8:=by cases L<;>cases K<;>cases S<;>decide
 rw[zr h.1,(bits_nat .i32 31 (by decide) wraps_i32 _ m (by have:=h.2;omega) (by omega)).1,Tx hb a]
theorem OZ{L K S:Bool}{N:Int}(h:Ty N){m:Nat}(a:m<8):bits .or .i32 (enc L K S N) (m:Int)=((8*N.toNat+((L.toNat+2*K.toNat+4*S.toNat)|||m):Nat):Int):=by
 have hb:L.toNat+2*K.toNat+4*S.toNat<8:=by cases L<;>cases K<;>cases S<;>decide
 rw[zr h.1,(bits_nat .i32 31 (by decide) wraps_i32 _ m (by have:=h.2;omega) (by omega)).2,MB hb a]
theorem Tz{a b c d:Nat}(hb:b<8)(hd:d<8):(8*a+b) &&& (8*c+d)=8*(a &&& c)+(b &&& d):=by
 apply Nat.eq_of_testBit_eq;intro i;have e:=Nat.testBit_two_pow_mul_add (i:=3) a (b:=b) (by omega) i;have f:=Nat.testBit_two_pow_mul_add (i:=3) c (b:=d) (by omega) i;have g:=Nat.testBit_two_pow_mul_add (i:=3) (a &&& c) (b:=b &&& d) (by have:=Nat.and_le_left (n:=b) (m:=d);omega) i
 grind
theorem Ba{L K S:Bool}{N:Int}(h:Ty N):bits .andNot .i32 (enc L K S N) 2=enc L false S N:=by
 have hb:L.toNat+2*K.toNat+4*S.toNat<8:=by cases L<;>cases K<;>cases S<;>decide
 have e:((N.toNat:Nat):Int)=N:=Int.toNat_of_nonneg h.1;have f:=h.2
 have a:(BitVec.ofInt 32 (enc L K S N)).toNat=8*N.toNat+(L.toNat+2*K.toNat+4*S.toNat):=by rw[zr h.1,BitVec.ofInt_natCast,BitVec.toNat_ofNat];omega
 have b:(~~~(BitVec.ofInt 32 2)).toNat=8*536870911+5:=by decide
 have c:N.toNat &&& 536870911=N.toNat:=by
  have:=Nat.and_two_pow_sub_one_eq_mod N.toNat 29
  grind
 have d:(L.toNat+2*K.toNat+4*S.toNat) &&& 5=L.toNat+4*S.toNat:=by cases L<;>cases K<;>cases S<;>decide
 show IntKind.i32.wrap ((BitVec.ofInt 32 (enc L K S N) &&& ~~~(BitVec.ofInt 32 2)).toNat:Int)=_;rw[BitVec.toNat_and,a,b,Tz hb (by omega),c,d,wraps_i32 _ (Int.natCast_nonneg _) (by omega)]
 unfold enc
 simp_all
def dN(c:Int)(w:Nat):Int:=c*4294967296+w
inductive SV where
 |bJ
 |lit (v:Value)
 |word (L K S:Bool) (δ:Int)
 |cnt
 |dN (w:Nat)
 |EU
 |F3
 |F4
 |now
 |Rc
structure Fl where
 n0:Bool
 n1:Bool
 c0:Bool
 c1:Bool
 wz:Bool
 tb:Bool
structure Sy where
 N:Int
 c:Int
 ws:Int
 tn:Int
structure Fl.At(f:Fl)(y:Sy):Prop where
 hN:0<=y.N/\y.N<=1000
 hc:0<=y.c/\y.c<=1000
 n0:f.n0=decide (y.N=0)
 n1:f.n1=decide (y.N=1)
 c0:f.c0=decide (y.c=0)
 c1:f.c1=decide (y.c=1)
 wz:f.wz=decide (y.ws=0)
 tb:f.tb=decide (IntKind.i64.wrap (y.tn-y.ws)>1000000)
def SR(y:Sy):SV->Value->Prop
 |.bJ,_=>True
 |.lit v,x=>x=v
 |.word L K S a,x=>x=.int .i32 (enc L K S (y.N+a))/\0<=y.N+a/\a<=2
 |.cnt,x=>x=.int .i32 y.N
 |.dN w,x=>x=.int .u64 (dN y.c w)
 |.EU,x=>x=.int .u64 y.c
 |.F3,x=>x=.int .i32 y.c
 |.F4,x=>x=.int .i64 y.ws
 |.now,x=>x=.int .i64 y.tn
 |.Rc,x=>x=.int .i64 (IntKind.i64.wrap (y.tn-y.ws))
def IG(f:Fl)(op:BinOp)(a b:SV):Option SV:=
 match op,a,b with
 |.and,.word L K S c,.lit (.int .i32 m)=>if 0<=m/\m<8 then some (.lit (.int .i32 (((L.toNat+2*K.toNat+4*S.toNat) &&& m.toNat:Nat):Int)))else none
 |.or,.word L K S c,.lit (.int .i32 m)=>if m=1 then some (.word true K S c)else if m=2 then some (.word L true S c)else if m=4 then some (.word L K true c)else none
 |.andNot,.word L K S c,.lit (.int .i32 m)=>if m=2 then some (.word L false S c)else none
 |.add,.word L K S c,.lit (.int .i32 m)=>if m=8 then(if c<=1 then some (.word L K S (c+1))else none)else if m=1 then(if L=false then some (.word true K S c)else none)else none
 |.sub,.word L K S c,.lit (.int .i32 m)=>if m=8/\c=0/\f.n0=false then some (.word L K S (-1))else none
 |.shr,.word _ _ _ c,.lit (.int .u64 m)=>if m=3/\c=0 then some .cnt else none
 |.eql,.word L K S c,.lit (.int .i32 m)=>if m=0/\c=0 then some (.lit (.bool (!L && !K && !S && f.n0)))else none
 |.neq,.word L K S c,.lit (.int .i32 m)=>if m=0/\c=0 then some (.lit (.bool !(!L && !K && !S && f.n0)))else none
 |.eql,.cnt,.lit (.int .i32 m)=>if m=0 then some (.lit (.bool f.n0))else if m=1 then some (.lit (.bool f.n1))else none
 |.neq,.cnt,.lit (.int .i32 m)=>if m=0 then some (.lit (.bool !f.n0))else if m=1 then some (.lit (.bool !f.n1))else none
 |.and,.dN w,.lit (.int .u64 m)=>if m=2147483648/\w<=1000 then some (.lit (.int .u64 0))else if m=2147483647/\w<=1000 then some (.lit (.int .u64 w))else none
 |.shr,.dN w,.lit (.int .u64 m)=>if m=32/\w<=1000 then some .EU else none
 |.eql,.F3,.lit (.int .i32 m)=>if m=0 then some (.lit (.bool f.c0))else if m=1 then some (.lit (.bool f.c1))else if m=-1 then some (.lit (.bool false))else none
 |.lss,.F3,.lit (.int .i32 m)=>if m=0 then some (.lit (.bool false))else none
 |.gtr,.F3,.lit (.int .i32 m)=>if m=0 then some (.lit (.bool !f.c0))else none
 |.neq,.dN w,.dN d=>if w=d then some (.lit (.bool false))else none
 |.neq,.dN w,.lit (.int .u64 m)=>if m=0 then some (.lit (.bool !(f.c0 && decide (w=0))))else none
 |.add,.dN w,.lit (.int .u64 m)=>if m=1/\w<=1000 then some (.dN (w+1))else none
 |.eql,.F4,.lit (.int .i64 m)=>if m=0 then some (.lit (.bool f.wz))else none
 |.neq,.F4,.lit (.int .i64 m)=>if m=0 then some (.lit (.bool !f.wz))else none
 |.sub,.now,.F4=>some .Rc
 |.gtr,.Rc,.lit (.int .i64 m)=>if m=1000000 then some (.lit (.bool f.tb))else none
 |_,_,_=>none
theorem ia{n:Int}(a:-2147483648<=n)(b:n<2147483648):IntKind.i32.wrap n=n:=by rw[IntKind.wrap_i32];omega
theorem jz{n:Int}(a:0<=n)(b:n<18446744073709551616):IntKind.u64.wrap n=n:=by simp[IntKind.wrap,IntKind.bits,IntKind.signed];omega
theorem kN{L K S:Bool}{N:Int}:8*N<=enc L K S N/\enc L K S N<=8*N+7:=by unfold enc;cases L<;>cases K<;>cases S<;>simp[Bool.toNat]<;>omega
theorem vw{L K S:Bool}{N:Int}(h:0<=N):enc L K S N=0↔(L=false/\K=false/\S=false/\N=0):=by unfold enc;grind
end Go.bu
