/- Part 12 of the proof. -/
import Derived.Conc.CrowdTrace
import Derived.Test.YtigilmjkokbblaaGreatDoorC11
set_option linter.all false
namespace Go.bd
open Go.Conc
def ChanAt(w:World)(b:Nat):Prop:=∃cap buf a s r c,w.heap[b]?=some (.chan cap buf a s r c)
def Kept(kk:Nat->ah)(OO:Nat->ai)(w w':World)(b:Nat):Prop:=
 w'.heap[b]?=w.heap[b]?\/(ChanAt w b/\ChanAt w' b/\∀i,OO i b=none)\/
 ∃c a e,w.heap[b]?=some (.cells c e (0,0))/\w'.heap[b]?=some (.cells a e (0,0))/\a.size=c.size/\(∀i x,OO i b=some x->∃f,x=.part f/\∀n,f n≠none->a[n]?=c[n]?)/\∀n,a[n]?=c[n]?\/∀i,(kk i).cell b n=none
def Calm(Z:Base)(w w':World):Prop:=(mD w.os w'.os/\w'.output=w.output)/\∀b,b<Z.W0.heap.size->w'.heap[b]?=w.heap[b]?
def KA(kk:Nat->ah)(OO:Nat->ai)(B:Nat):Loc->Prop
 |.cell a=>a.block<B/\∀i,¬aY (OO i) a.block a.off/\(kk i).cell a.block a.off=none
 |.obj r=>r<B/\∀i o,OO i r≠some (.obj o)
 |_=>True
def Told(Z:Base)(J M:Nat->Prop)(t:Trace)(n:Nat)(a:Touch):Prop:=Knows t 0 n\/(∃j,J j/\Knows t j n)\/(∃p,M p/\Before t n p)\/(Z.Shun a.loc/\a.kind=.atomic/\(t.counts n->n<Z.N0))
theorem zX{t:Trace}{B:Nat}(h:∀op∈t,op.act.low B){n:Nat}{a:Touch}(c:touchAt t n=some a):match a.loc with|.cell ad=>ad.block<B|.obj r=>r<B|_=>True:=by
 obtain⟨x,d,b⟩:=touch_of c;have:=h x (Array.mem_of_getElem? d);obtain⟨f,fn,pos,act⟩:=x;cases act with
 |access e=>simp only[MemAct.touch?,Option.some.injEq]at b;subst b;simp only[MemAct.low,Loc.low]at this;cases g:e.loc<;>simp_all
 |mark m=>cases m<;>simp_all [MemAct.touch?,MemAct.low]<;>(subst b;simpa using this)
 |_=>simp[MemAct.touch?]at b
section
variable{Z:Base}{kk:Nat->ah}{OO:Nat->ai}{J M:Nat->Prop}{w:World}{t:Trace}
theorem cA.tY(h:cA Z kk OO J M w t)(Fl:Nat->Nat->Prop){u:Trace}{w':World}{kk':Nat->ah}{OO':Nat->ai}{J' M':Nat->Prop}
 (N:w'.heap.size=w.heap.size) (hq:Calm Z w w') (hb:∀b,Kept kk OO w w' b) (B:∀op∈u,op.act.low w.heap.size)
 (a7:∀i j,Fl i j->∀n a,touchAt t n=some a->a.loc.isMemory=true -> ¬Z.Shun a.loc->HZ Z t i n->HZ Z (t++u) j n)
 (O:∀j b n v,(kk' j).cell b n=some v->∃i,Fl i j/\(kk i).cell b n=some v)
 (hs:∀j b s,(kk' j).sh b=some s->∃i,Fl i j/\(kk i).sh b=some s)
 (I:∀j b x,OO' j b=some x->∃i,Fl i j/\OO i b=some x/\∀s,(kk i).sh b=some s->(kk' j).sh b=some s)
 (hd:∀i j b x,i≠j->OO' i b=some x->OO' j b=none)
 (hr:∀said,¬Race said (t++u))
 (hu:∀op∈u,∀a,op.act.touch?=some a->a.loc.isMemory=true->KA kk OO w.heap.size a.loc)
 (a8:∀m op a,u[m]?=some op->op.act.touch?=some a->a.loc.isMemory=true->Told Z J' M' (t++u) (t.size+m) a)
 (Y:∀n a,touchAt t n=some a->a.loc.isMemory=true->((∃j,J j/\Knows t j n)\/(∃p,M p/\Before t n p))->Told Z J' M' (t++u) n a):cA Z kk' OO' J' M' w' (t++u):=by
 have A:∀j b n,aY (OO' j) b n->∃i,Fl i j/\aY (OO i) b n:=λj b n y=>by
  rcases y with⟨o,q⟩|⟨m,q,E⟩|⟨f,q,E⟩
  . obtain⟨i,d,g,_⟩:=I j b _ q;exact⟨i,d,.inl ⟨o,g⟩⟩
  . obtain⟨i,d,g,_⟩:=I j b _ q;exact⟨i,d,.inr (.inl ⟨m,g,E⟩)⟩
  . obtain⟨i,d,g,_⟩:=I j b _ q;exact⟨i,d,.inr (.inr ⟨f,g,E⟩)⟩
 have U:∀i j b n v,(kk i).cell b n=some v -> ¬aY (OO j) b n:=λi j b n v F=>by
  by_cases e:i=j
  . subst e;exact(h.sat i).apart b n v F
  . exact h.nM j i b n v (Ne.symm e) F
 have G:∀i b x,OO i b=some x->(∀f,x≠.part f)->w'.heap[b]?=w.heap[b]?:=λi b x K a9=>by
  rcases hb b with d|⟨_,_,d⟩|⟨_,_,_,_,_,_,d,_⟩
  . exact d
  . rw[d i]at K;cases K
  . obtain⟨f,rfl,_⟩:=d i x K
    exact absurd rfl (a9 f)
 have hold:∀{n:Nat}{a:Touch},touchAt (t++u) n=some a->(touchAt t n=some a/\n<t.size)\/∃m op,u[m]?=some op/\op.act.touch?=some a/\n=t.size+m:=λ{n a} Y=>by
  obtain⟨x,K,V⟩:=touch_of Y;by_cases hn:n<t.size
  . rw[Array.getElem?_append_left hn]at K
    exact .inl ⟨by rw[touchAt_of K];exact V,hn⟩
  . rw[Array.getElem?_append_right (by omega)]at K
    exact .inr ⟨n-t.size,x,K,V,by omega⟩
 refine⟨λj=>⟨λb n v F y=>?_,λb n v F=>?_,λb s al=>?_,λb o C=>?_,λb n av=>?_,λb f ax=>?_⟩,hd,λi j b n v b0 F y=>?_,λj n a Q E=>?_,hr,λop H=>?_,λn a Q E=>?_,by simp;exact Nat.le_trans h.n0 (Nat.le_add_right _ _),h.C7 _,λa L=>?_,λr L=>?_,h.yT.step hq.1.1 hq.1.2 (by rw[N];exact Nat.le_refl _) hq.2,λj b x K=>by obtain⟨i,_,d,_⟩:=I j b x K;exact h.mine i b x d⟩
 . obtain⟨i,_,d⟩:=O j b n v F
   obtain⟨l,_,g⟩:=A j b n y;exact U i l b n v d g
 . obtain⟨i,_,d⟩:=O j b n v F
   have g:=(h.sat i).cell b n v d;rcases hb b with k|⟨⟨_,_,_,_,_,_,k⟩,_⟩|⟨c,c',e,k,P,W,_,T⟩
   . simpa only[World.cell?,k]using g
   . simp[World.cell?,k]at g
   . rcases T n with T|T
     . simp only[World.cell?,k,P]at g ⊢
       rw[T];exact g
     . rw[T i]at d;cases d
 . obtain⟨i,_,d⟩:=hs j b s al
   have g:=(h.sat i).sh b s d;rcases hb b with k|⟨⟨_,_,_,_,_,_,k⟩,_⟩|⟨c,c',e,k,P,W,_,T⟩
   . simpa only[World.shape?,k]using g
   . simp[World.shape?,k]at g
   . simp only[World.shape?,k,P]at g ⊢
     rw[W];exact g
 . obtain⟨i,_,d,_⟩:=I j b _ C
   rw[G i b _ d (λ_ e=>by cases e)];exact(h.sat i).obj b o d
 . obtain⟨i,_,d,g⟩:=I j b _ av
   rw[G i b _ d (λ_ e=>by cases e)];obtain⟨c,e,k,P⟩:=(h.sat i).tail b n d;exact⟨c,e,k,g _ P⟩
 . obtain⟨i,_,d,g⟩:=I j b _ ax
   obtain⟨c,e,k,P,W⟩:=(h.sat i).part b f d;rcases hb b with q|⟨_,_,q⟩|⟨c0,c1,e0,q1,q2,q3,q4,_⟩
   . exact⟨c,e,by rw[q];exact k,g _ P,W⟩
   . rw[q i]at d;cases d
   . obtain⟨f',ef,ay⟩:=q4 i _ d
     cases ef;rw[q1]at k;cases k;exact⟨c1,_,q2,by rw[q3];exact g _ P,λn v F=>by rw[ay n (by rw[F];simp)];exact W n v F⟩
 . obtain⟨l,_,d⟩:=O j b n v F
   obtain⟨l',_,g⟩:=A i b n y;exact U l l' b n v d g
 . rcases hold Q with⟨z,X⟩|⟨m,op,d,g,rfl⟩
   . by_cases hK:∃i,Fl i j/\HZ Z t i n/\¬Z.Shun a.loc
     . obtain⟨i,d,g,k⟩:=hK
       exact .inl (a7 i j d n a z E k g)
     . refine .inr ?_
       have D:=zX h.seen z
       have R:∀i,Fl i j->pn (kk i) (OO i) w.heap.size a:=λi hi=>by
        by_cases L:Z.Shun a.loc
        . unfold pn
          split
          . next S B=>rw[B]at L;have:=h.kB S L;exact⟨this.1,(this.2 i).1,.inl (this.2 i).2⟩
          . next r B=>rw[B]at L;have:=h.nN r L;exact⟨this.1,this.2 i⟩
          . trivial
        . rcases h.Bs i n a z E with d|d
          . exact absurd ⟨i,hi,d,L⟩ hK
          . exact d
       unfold pn;split
       . next S B=>
         rw[B]at D;refine⟨by rw[N];exact D,λy=>?_,?_⟩
         . obtain⟨i,d,g⟩:=A j _ _ y
           have:=R i d;unfold pn at this;rw[B]at this;exact this.2.1 g
         . cases q:(kk' j).cell S.block S.off with
           |none=>exact .inl rfl
           | some v=>
             obtain⟨i,d,g⟩:=O j _ _ v q;have:=R i d;unfold pn at this;rw[B]at this;rcases this.2.2 with k|k
             . rw[k]at g;cases g
             . exact .inr k
       . next r B=>
         rw[B]at D;refine⟨by rw[N];exact D,λo C=>?_⟩;obtain⟨i,d,g,_⟩:=I j r _ C;have:=R i d;unfold pn at this;rw[B]at this;exact this.2 o g
       . trivial
   . refine .inr ?_
     have:=hu op (Array.mem_of_getElem? d) a g E;unfold pn;split
     . next S B=>
       rw[B]at this;refine⟨by rw[N];exact this.1,λy=>?_,.inl ?_⟩
       . obtain⟨i,_,k⟩:=A j _ _ y
         exact(this.2 i).1 k
       . cases q:(kk' j).cell S.block S.off with
         |none=>rfl
         |some v=>obtain⟨i,_,k⟩:=O j _ _ v q;rw[(this.2 i).2]at k;cases k
     . next r B=>
       rw[B]at this;refine⟨by rw[N];exact this.1,λo C=>?_⟩;obtain⟨i,_,k,_⟩:=I j r _ C;exact this.2 i o k
     . trivial
 . rw[N]
   rcases Array.mem_append.1 H with H|H
   . exact h.seen op H
   . exact B op H
 . rcases hold Q with⟨z,X⟩|⟨m,op,d,g,rfl⟩
   . rcases h.acc n a z E with d|d|d|d
     . exact .inl (d.app _)
     . exact Y n a z E (.inl d)
     . exact Y n a z E (.inr d)
     . exact .inr (.inr (.inr ⟨d.1,d.2.1,λO=>d.2.2 ((rD X).1 O)⟩))
   . exact a8 m op a d g E
 . obtain⟨d,g⟩:=h.kB a L
   refine⟨by rw[N];exact d,λj=>⟨λy=>?_,?_⟩⟩
   . obtain⟨i,_,k⟩:=A j _ _ y
     exact(g i).1 k
   . cases q:(kk' j).cell a.block a.off with
     |none=>rfl
     |some v=>obtain⟨i,_,k⟩:=O j _ _ v q;rw[(g i).2]at k;cases k
 . obtain⟨d,g⟩:=h.nN r L
   refine⟨by rw[N];exact d,λj o C=>?_⟩;obtain⟨i,_,k,_⟩:=I j r _ C;exact g i o k
theorem cA.UY(h:cA Z kk OO J M w t)(L:0≠Z.lk){b:Nat}{f:Nat->Option Value}(hb:∀i,OO i b=none)(N:∀n v,f n=some v->∀i,(kk i).cell b n=none)
 (O:∀ad:Addr,ad.block=b->f ad.off≠none -> ¬Z.Shun (.cell ad)) (G:∃c e,w.heap[b]?=some (.cells c e (0,0))/\(kk 0).sh b=some (e,c.size)/\∀n v,f n=some v->c[n]?=some v)
 (P:∀m a ad,touchAt t m=some a->a.loc=.cell ad->ad.block=b->f ad.off≠none->Knows t 0 m) (C:Z.W0.heap.size<=b):cA Z kk (bR OO 0 ((OO 0).set b (.part f))) J M w t:=by
 have D:∀n,f n≠none->∀i,(kk i).cell b n=none:=λn Q i=>by
  cases q:f n with
  |none=>exact absurd q Q
  |some v=>exact N n v q i
 have p:∀c n,aY ((OO 0).set b (.part f)) c n->aY (OO 0) c n\/(c=b/\f n≠none):=λc n hc=>by
  by_cases d:c=b
  . subst d
    rcases hc with⟨o,q⟩|⟨m,q,_⟩|⟨g,q,u⟩
    . simp[ai.set]at q
    . simp[ai.set]at q
    . simp only[ai.set,if_true,Option.some.injEq,Own.part.injEq]at q
      subst q;exact .inr ⟨rfl,u⟩
  . exact .inl (by simpa[aY,ai.set,d]using hc)
 have R:Sat (kk 0) ((OO 0).set b (.part f)) w:=by
  refine⟨λc n v A hc=>?_,(h.sat 0).cell,(h.sat 0).sh,λc o hc=>?_,λc n hc=>?_,λc g hc=>?_⟩
  . rcases p c n hc with hc|⟨rfl,u⟩
    . exact(h.sat 0).apart c n v A hc
    . rw[D n u 0]at A;cases A
  . by_cases d:c=b
    . subst d;simp[ai.set]at hc
    . exact(h.sat 0).obj c o (by simpa[ai.set,d]using hc)
  . by_cases d:c=b
    . subst d;simp[ai.set]at hc
    . exact(h.sat 0).tail c n (by simpa[ai.set,d]using hc)
  . by_cases d:c=b
    . subst d
      simp only[ai.set,if_true,Option.some.injEq,Own.part.injEq]at hc;subst hc;exact G
    . exact(h.sat 0).part c g (by simpa[ai.set,d]using hc)
 have H:b<w.heap.size:=by obtain⟨c,e,s,_⟩:=G;exact(Array.getElem?_eq_some_iff.1 s).1
 refine⟨λi=>?_,λi j c x y E=>?_,λi j c n v y A hc=>?_,λi n a z I=>?_,h.clean,h.seen,h.acc,h.n0,h.xu,λa z=>⟨(h.kB a z).1,λi=>⟨λhc=>?_,((h.kB a z).2 i).2⟩⟩,λr F=>⟨(h.nN r F).1,λi o hc=>?_⟩,h.yT,λi c x hc=>?_⟩
 . by_cases k:i=0
   . subst k;rw[au];exact R
   . rw[az _ _ k];exact h.sat i
 . by_cases d:c=b
   . subst d
     by_cases K:j=0
     . subst K
       rw[az _ _ y,hb i]at E;cases E
     . rw[az _ _ K];exact hb j
   . have e:∀l,bR OO 0 ((OO 0).set b (.part f)) l c=OO l c:=λl=>by
      by_cases B:l=0
      . subst B;rw[au];simp[ai.set,d]
      . rw[az _ _ B]
     rw[e]at E ⊢;exact h.ju i j c x y E
 . by_cases k:i=0
   . subst k
     rw[au]at hc
     rcases p c n hc with hc|⟨rfl,u⟩
     . exact h.nM 0 j c n v y A hc
     . rw[D n u j]at A;cases A
   . rw[az _ _ k]at hc;exact h.nM i j c n v y A hc
 . by_cases k:i=0
   . subst k
     rw[au]
     rcases h.Bs 0 n a z I with s|s
     . exact .inl s
     . unfold pn at s ⊢
       split
       . next ad B=>
         rw[B]at s
         by_cases u:ad.block=b/\f ad.off≠none
         . exact .inl ((oC L).2 (P n a ad z B u.1 u.2))
         . refine .inr ⟨s.1,λhc=>?_,s.2.2⟩
           rcases p _ _ hc with hc|hc
           . exact s.2.1 hc
           . exact u hc
       . next r B=>
         rw[B]at s;refine .inr ⟨s.1,λo hc=>?_⟩
         by_cases d:r=b
         . subst d;simp[ai.set]at hc
         . exact s.2 o (by simpa[ai.set,d]using hc)
       . exact .inr trivial
   . rw[az _ _ k];exact h.Bs i n a z I
 . by_cases k:i=0
   . subst k
     rw[au]at hc
     rcases p _ _ hc with hc|⟨e,u⟩
     . exact((h.kB a z).2 0).1 hc
     . exact O a e u z
   . rw[az _ _ k]at hc;exact((h.kB a z).2 i).1 hc
 . by_cases k:i=0
   . subst k
     rw[au]at hc
     by_cases d:r=b
     . subst d;simp[ai.set]at hc
     . exact(h.nN r F).2 0 o (by simpa[ai.set,d]using hc)
   . rw[az _ _ k]at hc;exact(h.nN r F).2 i o hc
 . by_cases k:i=0
   . subst k
     rw[au]at hc
     by_cases d:c=b
     . subst d;exact C
     . exact h.mine 0 c x (by simpa[ai.set,d]using hc)
   . rw[az _ _ k]at hc;exact h.mine i c x hc
theorem sP(b:Nat):ai.bot b=none:=rfl
theorem cA.start{P:Program}{k:ah}{O:ai}{g:Goroutine}{gs:Array Goroutine}{w W0:World}{t:Trace}(h:eQ P W0 k O g gs w t)(lk:Nat)(la:Addr)(F:0≠lk):
 ∃Z:Base,Z.N0=t.size/\Z.lk=lk/\Z.la=la/\Z.W0=W0/\gs[0]?=some g/\(∃q,Leavers P t gs q)/\Deaf t 0=0/\cA Z (bR (λ_=>ah.bot) 0 k) (bR (λ_=>ai.bot) 0 O) (λ_=>False) (λ_=>False) w t/\∀n a,touchAt t n=some a->a.loc.isMemory=true->Knows t 0 n\/(Z.Shun a.loc/\a.kind=.atomic):=by
 obtain⟨Shun,q,S,T,m,E,M,U,G,H⟩:=h;refine⟨⟨Shun,t.size,lk,la,W0⟩,rfl,rfl,rfl,rfl,S,⟨q,T⟩,m.hears,?_,m.known⟩
 have s:∀i,i=0\/(bR (λ_=>ah.bot) 0 k i=ah.bot/\bR (λ_=>ai.bot) 0 O i=ai.bot):=λi=>by
  by_cases p:i=0
  . exact .inl p
  . exact .inr ⟨az _ _ p,az _ _ p⟩
 refine⟨λi=>?_,λi j b x u f=>?_,λi j b n v u N=>?_,λi n a y I=>?_,m.clean,m.seen,λn a y I=>?_,Nat.le_refl _,λn g X V J K=>m.over n g V J K,λa y=>?_,λr W=>?_,G,λi b x f=>?_⟩
 . rcases s i with rfl|⟨A,l⟩
   . rw[au,au];exact U
   . rw[A,l]
     exact⟨λ_ _ _ h=>(by cases h),λ_ _ _ h=>(by cases h),λ_ _ h=>(by cases h),λ_ _ h=>(by cases h),λ_ _ h=>(by cases h),λ_ _ h=>(by cases h)⟩
 . rcases s i with rfl|⟨_,e⟩
   . rw[az _ _ (Ne.symm u)];rfl
   . rw[e]at f;cases f
 . rcases s j with rfl|⟨e,_⟩
   . rw[az _ _ u];exact dY (sP b)
   . rw[e]at N;cases N
 . have c:=zX m.seen y
   have B:pn ah.bot ai.bot w.heap.size a:=by
    unfold pn;split
    . next Q z=>rw[z]at c;exact⟨c,dY (sP _),.inl rfl⟩
    . next r z=>rw[z]at c;exact⟨c,λo E=>by cases E⟩
    . trivial
   rcases s i with rfl|⟨A,l⟩
   . rw[au,au]
     rcases m.known n a y I with d|⟨d,R⟩
     . exact .inl ((oC F).2 d)
     . refine .inr ?_
       unfold pn;split
       . next Q z=>rw[z]at d;obtain⟨C,D,L⟩:=E Q d;exact⟨C,D,.inl L⟩
       . next r z=>rw[z]at d;exact M r d
       . trivial
   . rw[A,l];exact .inr B
 . rcases m.known n a y I with d|⟨d,R⟩
   . exact .inl d
   . refine .inr (.inr (.inr ⟨d,R,λ_=>?_⟩))
     obtain⟨x,f,_⟩:=touch_of y;exact lt_size_of_getElem? f
 . obtain⟨C,D,L⟩:=E a y
   refine⟨C,λi=>?_⟩;rcases s i with rfl|⟨A,l⟩
   . rw[au,au];exact⟨D,L⟩
   . rw[A,l];exact⟨dY (sP _),rfl⟩
 . obtain⟨C,D⟩:=M r W
   refine⟨C,λi o p=>?_⟩;rcases s i with rfl|⟨A,l⟩
   . rw[au]at p;exact D o p
   . rw[l]at p;cases p
 . rcases s i with rfl|⟨_,l⟩
   . rw[au]at f;exact H b x f
   . rw[l]at f;cases f
theorem cA.finish{P:Program}{g:Goroutine}{gs:Array Goroutine}{q:Nat->Nat}(h:cA Z kk OO (λ_=>False) (λ_=>False) w t)(s:gs[0]?=some g)(u:Leavers P t gs q)(hd:Deaf t 0=0):eQ P Z.W0 (kk 0) (OO 0) g gs w t:=by
 refine⟨Z.Shun,q,s,u,⟨h.clean,λn a c i=>?_,λn v f d j=>?_,hd,h.seen⟩,λa c=>?_,λr l=>?_,h.sat 0,h.yT,h.mine 0⟩
 . rcases h.acc n a c i with b|⟨_,b,_⟩|⟨_,b,_⟩|⟨b,x,_⟩
   . exact .inl b
   . exact b.elim
   . exact b.elim
   . exact .inr ⟨b,x⟩
 . by_cases m:n<Z.N0
   . exact h.xu n v m f d j
   . have k:=j
     obtain⟨a,c,i,_⟩:=j;rcases h.acc n a c i with b|⟨_,b,_⟩|⟨_,b,_⟩|⟨_,_,b⟩
     . obtain⟨p,z,o,e,hb⟩:=b
       rcases hb with rfl|hb
       . rw[Trace.g?,o]at f
         simp only[Option.map_some,Option.some.injEq]at f;exact absurd (f.symm.trans e) d
       . exact⟨p,by simp[Trace.g?,o,e],hb⟩
     . exact b.elim
     . exact b.elim
     . exact absurd (b k) m
 . exact⟨(h.kB a c).1,((h.kB a c).2 0).1,((h.kB a c).2 0).2⟩
 . exact⟨(h.nN r l).1,(h.nN r l).2 0⟩
theorem cA.rE(h:cA Z kk OO J M w t)(S:Loc->Prop)(c:∀a,S (.cell a)->a.block<w.heap.size/\∀i,¬aY (OO i) a.block a.off/\(kk i).cell a.block a.off=none)(d:∀r,¬S (.obj r)):
 cA ⟨λl=>Z.Shun l\/S l,Z.N0,Z.lk,Z.la,Z.W0⟩ kk OO J M w t:=
 ⟨h.sat,h.ju,h.nM,h.Bs,h.clean,h.seen,λn a b e=>(h.acc n a b e).imp id (·.imp id (·.imp id λx=>⟨.inl x.1,x.2⟩)),h.n0,h.xu,
   λa b=>b.elim (h.kB a) (c a),λr f=>f.elim (h.nN r) (λx=>absurd x (d r)),h.yT,h.mine⟩
end
def lZ(u:Trace):Prop:=∀op∈u,op.act≠.mark .disable/\op.act≠.mark .enable
theorem tZ{t u:Trace}(a:lZ u)(g:Nat):∀m,m<=u.size->(t++u).deaf g (t.size+m)=Deaf t g
 |0,_=>deaf_old (Nat.le_refl _)
 | m+1,h=>by
   have b:m<u.size:=by omega
   have c:(t++u)[t.size+m]?=some u[m]:=by rw[Array.getElem?_append_right (by omega)];simp[b]
   rw[<-Nat.add_assoc,deaf_succ c,tZ a g m (by omega)]
   have:=a u[m] (Array.getElem_mem b);unfold deafStep;split
   . next e=>exact absurd e this.1
   . next e=>exact absurd e this.2
   . rfl
theorem cy{t u:Trace}(a:lZ u)(g:Nat):Deaf (t++u) g=Deaf t g:=by have:=tZ (t:=t) a g u.size (Nat.le_refl _);unfold Deaf at *;rw[Array.size_append];exact this
theorem dw{t u:Trace}{m:Nat}{op:MemOp}(h:u[m]?=some op):(t++u)[t.size+m]?=some op:=by rw[Array.getElem?_append_right (by omega)];simpa using h
theorem heard_new{t u:Trace}(a:lZ u){m:Nat}{op:MemOp}(h:u[m]?=some op)(hd:Deaf t op.g=0):(t++u).heard (t.size+m):=by have b:=(Array.getElem?_eq_some_iff.1 h).1;exact⟨op.g,by simp[Trace.g?,dw h],by rw[tZ a _ _ (by omega)];exact hd⟩
section
variable{t u:Trace}{i j n:Nat}
theorem l8(a:Knows t i n){m:Nat}{op:MemOp}(h:u[m]?=some op)(b:op.g=i):Before (t++u) n (t.size+m):=.inr (a.hb_new (by omega) (dw h) b)
theorem xv(d:lZ u){c k m1 m2:Nat}{x y:MemOp}(a:u[m1]?=some x)(b:u[m2]?=some y)(e:x.act=.send c k)(f:y.act=.recvDone c k)(h:Deaf t x.g=0)(i:Deaf t y.g=0)(j:Knows t x.g n):Knows (t++u) y.g n:=by
 have l:=l8 j a rfl;have m:HappensBefore (t++u) (t.size+m1) (t.size+m2):=.single (.inr ⟨.handOver (c:=c) (k:=k) (by rw[act?_of (dw a),e]) (by rw[act?_of (dw b),f]),heard_new d a h,heard_new d b i⟩);exact⟨t.size+m2,y,dw b,rfl,l.trans (.inr m)⟩
theorem Bt(e:lZ u){c m p:Nat}{y:MemOp}(b:u[m]?=some y)(d:t.act? p=some (.close c))(f:t.heard p)(h:y.act=.recvClosed c)(i:Deaf t y.g=0)(hb:Before t n p):Knows (t++u) y.g n:=by
 have a:=lt_of_act? d;have j:HappensBefore (t++u) p (t.size+m):=.single (.inr ⟨.closed (c:=c) (by rw[act?_old a];exact d) (by rw[act?_of (dw b),h]),(heard_old a).2 f,heard_new e b i⟩);exact⟨t.size+m,y,dw b,rfl,(hb.app u).trans (.inr j)⟩
theorem vd(d:lZ u){c m1 m2:Nat}{x y:MemOp}(b:u[m1]?=some x)(a:u[m2]?=some y)(e:x.act=.go y.g)(f:y.act=.start)(h:Deaf t x.g=0)(i:Deaf t y.g=0)(j:Knows t x.g n):Knows (t++u) y.g n:=by
 have k:=l8 j b rfl;have l:HappensBefore (t++u) (t.size+m1) (t.size+m2):=.single (.inr ⟨.spawn (child:=y.g) (by rw[act?_of (dw b),e]) (by rw[act?_of (dw a),f]) (by simp[Trace.g?,dw a]),heard_new d b h,heard_new d a i⟩);exact⟨t.size+m2,y,dw a,rfl,k.trans (.inr l)⟩
end
theorem qP{t u:Trace}(f:lZ u){a:Addr}{m p n:Nat}{y:MemOp}(c:u[m]?=some y)(h:y.act=.mark (.acquire a))(i:Deaf t y.g=0)(e:t.act? p=some (.mark (.releaseMerge a)))(j:t.heard p)(d:∀k,p<k->(t++u).act? k≠some (.mark (.release a)))(hb:Before t n p):Knows (t++u) y.g n:=by
 have b:=lt_of_act? e;have l:HappensBefore (t++u) p (t.size+m):=.single (.inr ⟨.marked (a:=a) (by omega) (.inr (by rw[act?_old b];exact e)) (by rw[act?_of (dw c),h]) (λk o _=>d k o),(heard_old b).2 j,heard_new f c i⟩);exact⟨t.size+m,y,dw c,rfl,(hb.app u).trans (.inr l)⟩
theorem xw{k:ah}{O:ai}{B:Nat}{es:Array Event}(h:∀e∈es.toList,jc k O B e)(g:Nat)(fn:FuncId)(pos:String):lZ (MemOp.ofEvents g fn pos es):=λop a=>by
 obtain⟨e,b,rfl⟩:=Go.Conc.mem_ofEvents a;have:=h e (by simpa using b);obtain⟨loc,wr,c⟩:=e;cases loc with
 |cell d=>simp[MemAct.ofEvent]
 |obj r=>cases wr<;>cases c<;>simp[MemAct.ofEvent]
 |mark m=>simp only[jc]at this;cases m<;>simp_all [jX,mY,MemAct.ofEvent]
 |_=>simp[jc]at this
end Go.bd
namespace Go.bd.Mu
structure Wd where
 L:Bool
 K:Bool
 S:Bool
 N:Nat
 deriving DecidableEq
def Wd.zero:Wd:=⟨false,false,false,0⟩
structure Lo where
 aw:Bool
 sv:Bool
 it:Nat
 deriving DecidableEq
inductive Pc where
 |out
 |ig
 |rd (l:Lo)
 |sq (old:Wd) (l:Lo)
 |sw (old:Wd) (l:Lo)
 |kQ (old:Wd) (l:Lo)
 |gx (sv:Bool)
 |tq
 |up (sv:Bool)
 |add (old:Wd) (sv:Bool)
 |held
 |iY (old:Wd)
 |vz
 |give
 |bad
 deriving DecidableEq
def hd(old:Wd)(l:Lo):List Pc:=(if old.L && !old.S && decide (l.it<4)then[if !l.aw && !old.K && decide (old.N≠0)then .sw old l else .rd {l with it:=l.it+1}]else[])++[.kQ old l]
def nx(old:Wd)(l:Lo):Pc:=if old.L && !old.S then .sq old l else .kQ old l
def pQ(old:Wd)(l:Lo):Wd:=⟨old.L||!old.S,if l.aw then false else old.K,old.S||(l.sv && old.L),if old.L||old.S then old.N+1 else old.N⟩
structure Sh where
 w:Wd
 ms:Nat
 deriving DecidableEq
def mv(p:Pc)(s:Sh):List (Pc × Sh):=
 match p with
 |.out=>[]
 |.ig=>if s.w=.zero then[(.held,{s with w:={Wd.zero with L:=true}})]else[(.rd ⟨false,false,0⟩,s)]
 |.rd l=>[(nx s.w l,s)]
 |.sq old l=>(hd old l).map (·,s)
 |.sw old l=>if s.w=old then[(.rd {l with aw:=true,it:=l.it+1},{s with w:={old with K:=true}})]else[(.rd {l with it:=l.it+1},s)]
 | .kQ old l=>
   if l.aw && !old.K then[(.bad,s)]else
   if s.w=old then[(if old.L||old.S then .gx l.sv else .held,{s with w:=pQ old l})]else[(.rd l,s)]
 |.gx sv=>if s.ms=0 then[]else[(if sv then .up true else .tq,{s with ms:=s.ms-1})]
 |.tq=>[(.up false,s),(.up true,s)]
 |.up sv=>if s.w.S then(if s.w.L||s.w.K||decide (s.w.N=0)then[(.bad,s)]else[(.add s.w sv,s)])else[(nx s.w ⟨true,sv,0⟩,s)]
 |.add old sv=>[(.held,{s with w:={s.w with L:=true,S:=s.w.S && !(!sv||decide (old.N=1)),N:=s.w.N-1}})]
 | .held=>
   let w:={s.w with L:=false}
   if s.w.L=false then[(.bad,s)]else
   [(if w=.zero then .out else if w.S then .give else if decide (w.N=0)||w.K then .out else .iY w,{s with w})]
 |.iY old=>if s.w=old then[(.give,{s with w:={old with K:=true,N:=old.N-1}})]else[(.vz,s)]
 |.vz=>[(if decide (s.w.N=0)||s.w.L||s.w.K||s.w.S then .out else .iY s.w,s)]
 |.give=>[(.out,{s with ms:=s.ms+1})]
 |.bad=>[]
def tot(n:Nat)(f:Nat->Nat):Nat:=match n with
 |0=>0
 |n+1=>tot n f+f n
def set(pcs:Nat->Pc)(i:Nat)(p:Pc):Nat->Pc:=λj=>if j=i then p else pcs j
theorem ak(pcs:Nat->Pc)(i:Nat)(p:Pc):set pcs i p i=p:=by simp[set]
theorem ag(pcs:Nat->Pc){i j:Nat}(p:Pc)(h:j≠i):set pcs i p j=pcs j:=by simp[set,h]
theorem ua{f g:Nat->Nat}:∀{n:Nat},(∀i,i<n->f i=g i)->tot n f=tot n g
 |0,_=>rfl
 |n+1,h=>by rw[tot,tot,ua (n:=n) λi a=>h i (by omega),h n (by omega)]
theorem gu(f:Pc->Nat)(pcs:Nat->Pc)(i:Nat)(p:Pc):∀{n:Nat},i<n->tot n (λj=>f (set pcs i p j))+f (pcs i)=tot n (λj=>f (pcs j))+f p
 |0,h=>by omega
 | n + 1,h=>by
   by_cases e:i=n
   . subst e
     rw[tot,tot,ak,ua (g:=λj=>f (pcs j)) λj a=>by rw[ag pcs p (show j≠i by omega)]];omega
   . have:=gu f pcs i p (n:=n) (by omega)
     rw[tot,tot,ag pcs p (show n≠i by omega)];omega
theorem iM(f:Nat->Nat){i:Nat}:∀{n:Nat},i<n->f i<=tot n f
 |0,h=>by omega
 | n+1,h=>by
   rw[tot];by_cases e:i=n
   . subst e;omega
   . have:=iM f (n:=n) (i:=i) (by omega);omega
theorem C8{f:Nat->Nat}:∀{n:Nat},tot n f=0->∀i,i<n->f i=0
 |0,_,i,a=>by omega
 | n+1,h,i,a=>by
   rw[tot]at h;by_cases e:i=n
   . subst e;omega
   . exact C8 (n:=n) (by omega) i (by omega)
def cr:Pc->Nat|.held=>1|_=>0
def fK:Pc->Nat|.rd l=>l.aw.toNat|.sq _ l=>l.aw.toNat|.sw _ l=>l.aw.toNat|.kQ _ l=>l.aw.toNat|_=>0
def cI:Pc->Nat|.gx _=>1|_=>0
def cJ:Pc->Nat|.give=>1|_=>0
def na:Pc->Nat|.tq=>1|.up _=>1|_=>0
def dh:Pc->Nat|.add _ _=>1|_=>0
def ij:Pc->Nat|.iY _=>1|.vz=>1|_=>0
def loc:Pc->Prop
 |.rd l=>(l.sv=true->l.aw=true)/\l.it<=4
 |.sq old l=>(l.aw=true->old.K=true)/\(l.sv=true->l.aw=true)/\l.it<=4/\old.L=true/\old.S=false
 |.sw old l=>l.aw=false/\l.sv=false/\old.L=true/\old.S=false/\old.K=false/\l.it<4
 |.kQ old l=>(l.aw=true->old.K=true)/\(l.sv=true->l.aw=true)/\l.it<=4
 |.iY old=>old.L=false/\old.K=false/\old.S=false/\old.N≠0
 |.bad=>False
 |_=>True
structure Inv0(n:Nat)(pcs:Nat->Pc)(s:Sh):Prop where
 j0:∀i,i<n->loc (pcs i)
 j1:tot n (λi=>cr (pcs i))=s.w.L.toNat
 j2:s.w.S=false->tot n (λi=>fK (pcs i))+tot n (λi=>cJ (pcs i))+s.ms+tot n (λi=>na (pcs i))=s.w.K.toNat/\tot n (λi=>dh (pcs i))=0/\tot n (λi=>cI (pcs i))=s.w.N+tot n (λi=>cJ (pcs i))+s.ms
 j3:s.w.S=true->s.w.K=false/\tot n (λi=>fK (pcs i))=0/\tot n (λi=>cJ (pcs i))+s.ms+tot n (λi=>na (pcs i))+tot n (λi=>dh (pcs i))=(!s.w.L).toNat/\tot n (λi=>cI (pcs i))+tot n (λi=>na (pcs i))+tot n (λi=>dh (pcs i))=s.w.N
 j4:s.w.L=false->s.w.K=false->s.w.S=false->s.w.N≠0->0<tot n (λi=>ij (pcs i))
theorem Qp{old:Wd}{l:Lo}(a:l.sv=true->l.aw=true)(c:l.it<=4)(d:l.aw=true->old.K=true){p:Pc}(h:p∈hd old l):loc p/\fK p=l.aw.toNat/\cr p=0/\cI p=0/\cJ p=0/\na p=0/\dh p=0/\ij p=0:=by
 obtain⟨aw,sv,it⟩:=l;obtain⟨i,j,k,m⟩:=old;simp only at a c d;unfold hd at h;simp only[List.mem_append,List.mem_singleton]at h;rcases h with h|rfl
 . split at h
   . rename_i b
     simp at b;simp only[List.mem_singleton]at h;subst h;split
     . rename_i e
       simp at e;obtain⟨⟨f,g⟩,n⟩:=e;subst f;have:sv=false:=by cases sv with|false=>rfl|true=>simp at a
       simp[loc,fK,cr,cI,cJ,na,dh,ij,b,this,g]
     . exact⟨⟨a,by have:=b.2;simp;omega⟩,rfl,rfl,rfl,rfl,rfl,rfl,rfl⟩
   . simp at h
 . exact⟨⟨d,a,c⟩,rfl,rfl,rfl,rfl,rfl,rfl,rfl⟩
theorem KB{old:Wd}{l:Lo}(a:l.sv=true->l.aw=true)(b:l.it<=4)(c:l.aw=true->old.K=true):loc (nx old l)/\fK (nx old l)=l.aw.toNat/\cr (nx old l)=0/\cI (nx old l)=0/\cJ (nx old l)=0/\na (nx old l)=0/\dh (nx old l)=0/\ij (nx old l)=0:=by
 unfold nx;split
 . rename_i h
   simp at h;exact⟨⟨c,a,b,h.1,h.2⟩,rfl,rfl,rfl,rfl,rfl,rfl,rfl⟩
 . exact⟨⟨c,a,b⟩,rfl,rfl,rfl,rfl,rfl,rfl,rfl⟩
set_option maxHeartbeats 2000000 in
theorem Inv0.step{n:Nat}{pcs:Nat->Pc}{s s':Sh}{i:Nat}{q:Pc}(h:Inv0 n pcs s)(m:i<n)(a:(q,s')∈mv (pcs i) s):Inv0 n (set pcs i q) s':=by
 have H:=gu cr pcs i q m;have A:=gu fK pcs i q m;have P:=gu cI pcs i q m;have G:=gu cJ pcs i q m;have U:=gu na pcs i q m;have D:=gu dh pcs i q m;have R:=gu ij pcs i q m;have M:=iM (λj=>cr (pcs j)) m
 have O:=iM (λj=>fK (pcs j)) m
 have W:=iM (λj=>cI (pcs j)) m
 have Q:=iM (λj=>cJ (pcs j)) m
 have E:=iM (λj=>na (pcs j)) m
 have T:=iM (λj=>dh (pcs j)) m
 have F:=iM (λj=>ij (pcs j)) m
 have z:=h.j0 i m;obtain⟨⟨d,f,g,X⟩,ms⟩:=s;have j1:=h.j1;have j2:=h.j2;have j3:=h.j3;have j4:=h.j4;simp only at j1 j2 j3 j4
 have key:∀(o:Wd) (u:Nat),s'=⟨o,u⟩->loc q->(tot n (λj=>cr (set pcs i q j))=o.L.toNat) ->
  (o.S=false->tot n (λj=>fK (set pcs i q j))+tot n (λj=>cJ (set pcs i q j))+u+tot n (λj=>na (set pcs i q j))=o.K.toNat/\tot n (λj=>dh (set pcs i q j))=0/\tot n (λj=>cI (set pcs i q j))=o.N+tot n (λj=>cJ (set pcs i q j))+u) ->
  (o.S=true->o.K=false/\tot n (λj=>fK (set pcs i q j))=0/\tot n (λj=>cJ (set pcs i q j))+u+tot n (λj=>na (set pcs i q j))+tot n (λj=>dh (set pcs i q j))=(!o.L).toNat/\tot n (λj=>cI (set pcs i q j))+tot n (λj=>na (set pcs i q j))+tot n (λj=>dh (set pcs i q j))=o.N) ->
  (o.L=false->o.K=false->o.S=false->o.N≠0->0<tot n (λj=>ij (set pcs i q j)))->Inv0 n (set pcs i q) s':=by
  rintro o u rfl I r w t B
  refine⟨λj hj=>?_,r,w,t,B⟩
  by_cases e:j=i
  . subst e;rw[ak];exact I
  . rw[ag pcs q e];exact h.j0 j hj
 generalize hp:pcs i=p at *;generalize tot n (λj=>cr (set pcs i q j))=H' at *
 generalize tot n (λj=>fK (set pcs i q j))=A' at *
 generalize tot n (λj=>cI (set pcs i q j))=P' at *
 generalize tot n (λj=>cJ (set pcs i q j))=G' at *
 generalize tot n (λj=>na (set pcs i q j))=U' at *
 generalize tot n (λj=>dh (set pcs i q j))=D' at *
 generalize tot n (λj=>ij (set pcs i q j))=R' at *
 generalize tot n (λj=>cr (pcs j))=H0 at *
 generalize tot n (λj=>fK (pcs j))=A0 at *
 generalize tot n (λj=>cI (pcs j))=P0 at *
 generalize tot n (λj=>cJ (pcs j))=G0 at *
 generalize tot n (λj=>na (pcs j))=U0 at *
 generalize tot n (λj=>dh (pcs j))=D0 at *
 generalize tot n (λj=>ij (pcs j))=R0 at *
 cases p with
 |out=>simp[mv]at a
 |bad=>simp[mv]at a
 | ig=>
   simp only[mv]at a;split at a
   . rename_i c
     simp only[Wd.zero,Wd.mk.injEq]at c;obtain⟨rfl,rfl,rfl,rfl⟩:=c;simp only[List.mem_singleton,Prod.mk.injEq]at a;obtain⟨rfl,rfl⟩:=a;refine key _ _ rfl trivial ?_ ?_ ?_ ?_<;>simp[cr,fK,cI,cJ,na,dh,ij,Wd.zero]at *<;>omega
   . simp only[List.mem_singleton,Prod.mk.injEq]at a
     obtain⟨rfl,rfl⟩:=a;refine key _ _ rfl (by simp[loc]) ?_ ?_ ?_ ?_<;>simp[cr,fK,cI,cJ,na,dh,ij,Wd.zero]at *<;>cases d<;>cases f<;>cases g<;>simp at *<;>omega
 | rd l=>
   simp only[mv,List.mem_singleton,Prod.mk.injEq]at a;obtain⟨rfl,rfl⟩:=a
   have Y:l.aw=true->f=true:=λha=>by
    simp[fK,ha]at O;cases g
    . have:=(j2 rfl).1
      cases f
      . simp at this;omega
      . rfl
    . have:=(j3 rfl).2.1;omega
   obtain⟨I,r,w,t,B,Z,k6,k7⟩:=KB (old:=⟨d,f,g,X⟩) z.1 z.2 Y;rw[r]at A;rw[w]at H;rw[t]at P;rw[B]at G;rw[Z]at U;rw[k6]at D;rw[k7]at R;refine key _ _ rfl I ?_ ?_ ?_ ?_<;>simp[cr,fK,cI,cJ,na,dh,ij]at H A P G U D R ⊢<;>cases d<;>cases f<;>cases g<;>simp at j1 j2 j3 j4 ⊢<;>omega
 |sq old l=>simp only[mv,List.mem_map,Prod.mk.injEq]at a;obtain⟨q',k,rfl,rfl⟩:=a;obtain⟨I,r,w,t,B,Z,k6,k7⟩:=Qp z.2.1 z.2.2.1 z.1 k;rw[r]at A;rw[w]at H;rw[t]at P;rw[B]at G;rw[Z]at U;rw[k6]at D;rw[k7]at R;refine key _ _ rfl I ?_ ?_ ?_ ?_<;>simp[cr,fK,cI,cJ,na,dh,ij]at H A P G U D R ⊢<;>cases d<;>cases f<;>cases g<;>simp at j1 j2 j3 j4 ⊢<;>omega
 | sw old l=>
   obtain⟨oL,oK,oS,oN⟩:=old;obtain⟨x,y,C,V,h5,h6⟩:=z;obtain⟨aw,sv,it⟩:=l;simp only at x y C V h5 h6;subst x;subst y;subst C;subst V;subst h5;simp only[mv]at a;split at a
   . rename_i c
     simp only[Wd.mk.injEq]at c;obtain⟨rfl,rfl,rfl,rfl⟩:=c;simp only[List.mem_singleton,Prod.mk.injEq]at a;obtain⟨rfl,rfl⟩:=a;refine key _ _ rfl (by simp[loc];omega) ?_ ?_ ?_ ?_<;>simp[cr,fK,cI,cJ,na,dh,ij]at *<;>omega
   . simp only[List.mem_singleton,Prod.mk.injEq]at a
     obtain⟨rfl,rfl⟩:=a;refine key _ _ rfl (by simp[loc];omega) ?_ ?_ ?_ ?_<;>simp[cr,fK,cI,cJ,na,dh,ij]at H A P G U D R ⊢<;>cases d<;>cases f<;>cases g<;>simp at j1 j2 j3 j4 ⊢<;>omega
 | kQ old l=>
   obtain⟨oL,oK,oS,oN⟩:=old;obtain⟨x,y,C⟩:=z;obtain⟨aw,sv,it⟩:=l;simp only at x y C;simp only[mv]at a;split at a
   . rename_i c
     simp at c;have:=x c.1;rw[this]at c;simp at c
   split at a
   . rename_i c
     simp only[Wd.mk.injEq]at c;obtain⟨rfl,rfl,rfl,rfl⟩:=c;simp only[List.mem_singleton,Prod.mk.injEq]at a;obtain⟨k,rfl⟩:=a;cases aw<;>cases sv<;>simp only[Bool.false_eq_true,false_implies,true_implies,imp_false,not_true]at y
     all_goals cases d<;>cases g<;>simp at k<;>subst k
     all_goals refine key _ _ rfl (by simp[loc]) ?_ ?_ ?_ ?_<;>simp[cr,fK,cI,cJ,na,dh,ij,pQ]at H A P G U D R M O W Q E T F ⊢<;>cases f<;>simp at j1 j2 j3 j4 x ⊢<;>omega
   . simp only[List.mem_singleton,Prod.mk.injEq]at a
     obtain⟨rfl,rfl⟩:=a;refine key _ _ rfl ⟨y,C⟩ ?_ ?_ ?_ ?_<;>simp[cr,fK,cI,cJ,na,dh,ij]at H A P G U D R ⊢<;>cases d<;>cases f<;>cases g<;>simp at j1 j2 j3 j4 ⊢<;>omega
 | gx sv=>
   simp only[mv]at a;split at a
   . simp at a
   . rename_i c
     simp only[List.mem_singleton,Prod.mk.injEq]at a;obtain⟨rfl,rfl⟩:=a;cases sv
     all_goals refine key _ _ rfl trivial ?_ ?_ ?_ ?_<;>simp[cr,fK,cI,cJ,na,dh,ij]at H A P G U D R M O W Q E T F ⊢<;>cases d<;>cases f<;>cases g<;>simp at j1 j2 j3 j4 ⊢<;>omega
 | tq=>
   simp only[mv,List.mem_cons,Prod.mk.injEq,List.not_mem_nil,or_false]at a
   rcases a with⟨rfl,rfl⟩|⟨rfl,rfl⟩
   all_goals refine key _ _ rfl trivial ?_ ?_ ?_ ?_<;>simp[cr,fK,cI,cJ,na,dh,ij]at H A P G U D R M O W Q E T F ⊢<;>cases d<;>cases f<;>cases g<;>simp at j1 j2 j3 j4 ⊢<;>omega
 | up sv=>
   simp only[mv]at a;split at a
   . rename_i c
     subst c;obtain⟨r,w,t,B⟩:=j3 rfl;simp[na]at E;have J:d=false:=by cases d<;>simp at t ⊢;omega
     subst J;subst r;have hN:X≠0:=by omega
     simp only[Bool.false_or,hN,decide_false,Bool.false_eq_true,if_false,List.mem_singleton,Prod.mk.injEq]at a;obtain⟨rfl,rfl⟩:=a;refine key _ _ rfl trivial ?_ ?_ ?_ ?_<;>simp[cr,fK,cI,cJ,na,dh,ij]at H A P G U D R t j1 ⊢<;>omega
   . rename_i c
     simp at c;subst c;simp only[List.mem_singleton,Prod.mk.injEq]at a;obtain⟨rfl,rfl⟩:=a;obtain⟨r,w,t⟩:=j2 rfl;simp[na]at E;have Y:f=true:=by cases f<;>simp at r ⊢;omega
     subst Y;obtain⟨l0,l1,l2,l3,l4,l5,l6,l7⟩:=KB (l:=⟨true,sv,0⟩) (old:=⟨d,true,false,X⟩) (λ_=>rfl) (by simp) (λ_=>rfl)
     rw[l1]at A;rw[l2]at H;rw[l3]at P;rw[l4]at G;rw[l5]at U;rw[l6]at D;rw[l7]at R;refine key _ _ rfl l0 ?_ ?_ ?_ ?_<;>simp[cr,fK,cI,cJ,na,dh,ij]at H A P G U D R r ⊢<;>cases d<;>simp at j1 j4 ⊢<;>omega
 | add old sv=>
   simp only[mv,List.mem_singleton,Prod.mk.injEq]at a;obtain⟨rfl,rfl⟩:=a;simp[dh]at T
   have hS:g=true:=by
    cases g with
    |true=>rfl
    |false=>have:=(j2 rfl).2.1;omega
   subst hS;obtain⟨r,w,t,B⟩:=j3 rfl;have J:d=false:=by cases d<;>simp at t ⊢;omega
   subst J;subst r;generalize hb:(true && !(!sv||decide (old.N=1)))=b at key ⊢
   refine key _ _ rfl trivial ?_ ?_ ?_ ?_<;>simp[cr,fK,cI,cJ,na,dh,ij]at H A P G U D R t j1 ⊢<;>cases b<;>(try simp)<;>omega
 | held=>
   simp[cr]at M;have J:d=true:=by cases d<;>simp at j1 ⊢;omega
   subst J;simp only[mv,Bool.true_eq_false,if_false,List.mem_singleton,Prod.mk.injEq]at a;obtain⟨k,rfl⟩:=a;split at k
   . rename_i c
     simp only[Wd.zero,Wd.mk.injEq,true_and]at c;obtain⟨rfl,rfl,rfl⟩:=c;subst k;refine key _ _ rfl trivial ?_ ?_ ?_ ?_<;>simp[cr,fK,cI,cJ,na,dh,ij]at *<;>omega
   split at k
   . rename_i c
     have c:g=true:=c;subst c;subst k;obtain⟨r,w,t,B⟩:=j3 rfl;subst r;refine key _ _ rfl trivial ?_ ?_ ?_ ?_<;>simp[cr,fK,cI,cJ,na,dh,ij]at H A P G U D R j1 t ⊢<;>omega
   split at k
   . rename_i a7 v c
     simp at v;subst v;subst k;refine key _ _ rfl trivial ?_ ?_ ?_ ?_<;>simp[cr,fK,cI,cJ,na,dh,ij]at *<;>cases f<;>simp at *<;>omega
   . rename_i a7 v c
     simp at v c;subst v;subst k;refine key _ _ rfl (by simp[loc,c]) ?_ ?_ ?_ ?_<;>simp[cr,fK,cI,cJ,na,dh,ij]at *<;>simp[c]at *<;>omega
 | iY old=>
   obtain⟨oL,oK,oS,oN⟩:=old;obtain⟨x,y,C,V⟩:=z;simp only at x y C V;subst x;subst y;subst C;simp only[mv]at a;split at a
   . rename_i c
     simp only[Wd.mk.injEq]at c;obtain⟨rfl,rfl,rfl,rfl⟩:=c;simp only[List.mem_singleton,Prod.mk.injEq]at a;obtain⟨rfl,rfl⟩:=a;refine key _ _ rfl trivial ?_ ?_ ?_ ?_<;>simp[cr,fK,cI,cJ,na,dh,ij]at *<;>omega
   . simp only[List.mem_singleton,Prod.mk.injEq]at a
     obtain⟨rfl,rfl⟩:=a;refine key _ _ rfl trivial ?_ ?_ ?_ ?_<;>simp[cr,fK,cI,cJ,na,dh,ij]at H A P G U D R F ⊢<;>cases d<;>cases f<;>cases g<;>simp at j1 j2 j3 j4 ⊢<;>omega
 | vz=>
   simp only[mv,List.mem_singleton,Prod.mk.injEq]at a;obtain⟨k,rfl⟩:=a;split at k
   . rename_i c
     subst k;refine key _ _ rfl trivial ?_ ?_ ?_ ?_<;>simp[cr,fK,cI,cJ,na,dh,ij]at H A P G U D R F c ⊢<;>cases d<;>cases f<;>cases g<;>simp at j1 j2 j3 j4 c ⊢<;>omega
   . rename_i c
     simp at c;subst k;obtain⟨⟨⟨z1,z2⟩,z3⟩,z4⟩:=c;subst z2;subst z3;subst z4;refine key _ _ rfl (by simp[loc,z1]) ?_ ?_ ?_ ?_<;>simp[cr,fK,cI,cJ,na,dh,ij]at *<;>omega
 |give=>simp only[mv,List.mem_singleton,Prod.mk.injEq]at a;obtain⟨rfl,rfl⟩:=a;refine key _ _ rfl trivial ?_ ?_ ?_ ?_<;>simp[cr,fK,cI,cJ,na,dh,ij]at H A P G U D R Q ⊢<;>cases d<;>cases f<;>cases g<;>simp at j1 j2 j3 j4 ⊢<;>omega
structure Inv(n:Nat)(pcs:Nat->Pc)(s:Sh):Prop extends Inv0 n pcs s where
 j5:s.w.S=true->s.w.N≠0
 j6:∀i,i<n->∀old sv,pcs i=.add old sv->old.N<=s.w.N/\old.N≠0
theorem Inv0.Pq{n:Nat}{pcs:Nat->Pc}{s:Sh}(h:Inv0 n pcs s){i:Nat}(a:i<n){old:Wd}{sv:Bool}(b:pcs i=.add old sv):s.w.S=true/\tot n (λi=>dh (pcs i))<=1:=by
 have d:dh (pcs i)=1:=by rw[b];rfl
 have f:dh (pcs i)<=tot n (λi=>dh (pcs i)):=iM (λi=>dh (pcs i)) a
 cases e:s.w.S with
 |true=>refine⟨rfl,?_⟩;have:=(h.j3 e).2.2.1;cases c:s.w.L<;>rw[c]at this<;>simp at this<;>omega
 |false=>have:=(h.j2 e).2.1;omega
theorem Inv0.add_one{n:Nat}{pcs:Nat->Pc}{s:Sh}(h:Inv0 n pcs s){i l:Nat}(d:i<n)(g:l<n){old a:Wd}{sv b:Bool}(f:pcs i=.add old sv)(c:pcs l=.add a b):i=l:=by
 by_cases e:i=l
 . exact e
 . have m:=(h.Pq d f).2
   have o:=gu dh pcs i .out d;have k:dh (set pcs i .out l)<=tot n (λj=>dh (set pcs i .out j)):=iM (λj=>dh (set pcs i .out j)) g
   rw[ag pcs Pc.out (Ne.symm e)]at k;have p:dh (pcs i)=1:=by rw[f];rfl
   have q:dh (pcs l)=1:=by rw[c];rfl
   have r:dh .out=0:=rfl;omega
theorem Inv.step{n:Nat}{pcs:Nat->Pc}{s s':Sh}{i:Nat}{q:Pc}(h:Inv n pcs s)(m:i<n)(b:(q,s')∈mv (pcs i) s):Inv n (set pcs i q) s':=by
 have p:=h.j0 i m
 have key : (s'.w.S=true->s'.w.N≠0)/\(s.w.N<=s'.w.N\/(∃old sv,pcs i=.add old sv)\/s.w.S=false)/\(∀old sv,q=.add old sv->old.N<=s'.w.N/\old.N≠0):=by
  have c:=h.j5;have r:=h.j6 i m;revert b p r;cases pcs i with
  |out=>intro b;simp[mv]at b
  |bad=>intro b;simp[mv]at b
  | ig=>
    intro b _ _;simp only[mv]at b;split at b
    . rename_i f
      simp at b;obtain⟨rfl,rfl⟩:=b;exact⟨λh=>(by cases h),.inr (.inr (by rw[f];rfl)),λold sv h=>(by cases h)⟩
    . simp at b;obtain⟨rfl,rfl⟩:=b
      exact⟨c,.inl (Nat.le_refl _),λold sv h=>by cases h⟩
  |rd l=>intro b _ _;simp[mv]at b;obtain⟨rfl,rfl⟩:=b;exact⟨c,.inl (Nat.le_refl _),λold sv h=>by unfold nx at h;split at h<;>cases h⟩
  | sq o l=>
    intro b _ _;simp only[mv,List.mem_map,Prod.mk.injEq]at b;obtain⟨a,d,rfl,rfl⟩:=b;refine⟨c,.inl (Nat.le_refl _),λold sv h=>?_⟩;subst h;unfold hd at d;simp only[List.mem_append,List.mem_singleton]at d;rcases d with d|d
    . split at d
      . simp only[List.mem_singleton]at d
        split at d<;>cases d
      . cases d
    . cases d
  | sw o l=>
    intro b _ _;simp only[mv]at b;split at b
    . rename_i f
      simp at b;obtain⟨rfl,rfl⟩:=b;rw[f]at c;exact⟨c,.inl (by rw[f];exact Nat.le_refl _),λold sv h=>by cases h⟩
    . simp at b;obtain⟨rfl,rfl⟩:=b
      exact⟨c,.inl (Nat.le_refl _),λold sv h=>by cases h⟩
  | kQ o l =>
    intro b _ _;simp only[mv]at b;split at b
    . simp at b;obtain⟨rfl,rfl⟩:=b
      exact⟨c,.inl (Nat.le_refl _),λold sv h=>by cases h⟩
    . split at b
      . rename_i f
        simp at b;obtain⟨rfl,rfl⟩:=b;rw[f]at c ⊢;refine⟨λh=>?_,.inl ?_,λold sv h=>by split at h<;>cases h⟩
        . unfold pQ at h ⊢
          simp only at h ⊢;split
          . omega
          . rename_i v
            cases B:o.L<;>cases t:o.S<;>simp_all
        . unfold pQ
          simp only;split<;>omega
      . simp at b;obtain⟨rfl,rfl⟩:=b
        exact⟨c,.inl (Nat.le_refl _),λold sv h=>by cases h⟩
  | gx sv=>
    intro b _ _;simp only[mv]at b;split at b
    . cases b
    . simp at b;obtain⟨rfl,rfl⟩:=b
      exact⟨c,.inl (Nat.le_refl _),λold sv h=>by split at h<;>cases h⟩
  | tq=>
    intro b _ _;simp[mv]at b;rcases b with⟨rfl,rfl⟩|⟨rfl,rfl⟩<;>exact⟨c,.inl (Nat.le_refl _),λold sv h=>by cases h⟩
  | up sv=>
    intro b _ _;simp only[mv]at b;split at b
    . split at b
      . simp at b;obtain⟨rfl,rfl⟩:=b
        exact⟨c,.inl (Nat.le_refl _),λold sv h=>by cases h⟩
      . rename_i hb
        simp at b;obtain⟨rfl,rfl⟩:=b;refine⟨c,.inl (Nat.le_refl _),λold sv h=>?_⟩;cases h;simp at hb;exact⟨Nat.le_refl _,hb.2⟩
    . simp at b;obtain⟨rfl,rfl⟩:=b
      exact⟨c,.inl (Nat.le_refl _),λold sv h=>by unfold nx at h;split at h<;>cases h⟩
  | add o sv=>
    intro b _ r;simp[mv]at b;obtain⟨rfl,rfl⟩:=b;obtain⟨x,u⟩:=r o sv rfl;refine⟨λh=>?_,.inr (.inl ⟨o,sv,rfl⟩),λold sv h=>by cases h⟩;simp at h ⊢;omega
  | held=>
    intro b _ _;simp only[mv]at b;split at b
    . simp at b;obtain⟨rfl,rfl⟩:=b
      exact⟨c,.inl (Nat.le_refl _),λold sv h=>by cases h⟩
    . simp only[List.mem_singleton,Prod.mk.injEq]at b;obtain⟨rfl,rfl⟩:=b
      refine⟨c,.inl (Nat.le_refl _),λold sv h=>?_⟩;split at h
      . cases h
      . split at h
        . cases h
        . split at h<;>cases h
  | iY o=>
    intro b p _;simp only[mv]at b;split at b
    . rename_i f
      simp at b;obtain⟨rfl,rfl⟩:=b;have t:o.S=false:=p.2.2.1;exact⟨λh=>by simp[t]at h,.inr (.inr (by rw[f];exact t)),λold sv h=>by cases h⟩
    . simp at b;obtain⟨rfl,rfl⟩:=b
      exact⟨c,.inl (Nat.le_refl _),λold sv h=>by cases h⟩
  |vz=>intro b _ _;simp only[mv,List.mem_singleton,Prod.mk.injEq]at b;obtain⟨rfl,rfl⟩:=b;exact⟨c,.inl (Nat.le_refl _),λold sv h=>by split at h<;>cases h⟩
  |give=>intro b _ _;simp[mv]at b;obtain⟨rfl,rfl⟩:=b;exact⟨c,.inl (Nat.le_refl _),λold sv h=>by cases h⟩
 obtain⟨y,g,z⟩:=key;refine⟨h.toInv0.step m b,y,λl j old sv k=>?_⟩;by_cases e:l=i
 . subst e
   rw[ak]at k;exact z old sv k
 . rw[ag pcs q e]at k
   obtain⟨x,u⟩:=h.j6 l j old sv k;refine⟨?_,u⟩;rcases g with g|⟨o,A,g⟩|g
   . omega
   . exact absurd (h.toInv0.add_one m j g k) (Ne.symm e)
   . rw[(h.toInv0.Pq j k).1]at g;cases g
theorem Bu:∀n:Nat,tot n (λ_=>0)=0
 |0=>rfl
 |n+1=>by rw[tot,Bu n]
theorem Inv.rest{n:Nat}{pcs:Nat->Pc}{s:Sh}(h:Inv n pcs s)(j:∀i,i<n->pcs i=.out):s.w=.zero/\s.ms=0:=by
 have f:∀(F:Pc->Nat),F .out=0->tot n (λi=>F (pcs i))=0:=λF k=>by
  have:tot n (λi=>F (pcs i))=tot n (λ_=>0):=ua λi l=>by rw[j i l,k]
  rw[this];exact Bu n
 have L:s.w.L=false:=by
  have:=h.j1;rw[f cr rfl]at this;cases e:s.w.L with
  |false=>rfl
  |true=>rw[e]at this;cases this
 have S:s.w.S=false:=by
  cases e:s.w.S with
  |false=>rfl
  |true=>have:=(h.j3 e).2.2.2;rw[f cI rfl,f na rfl,f dh rfl]at this;exact absurd this.symm (h.j5 e)
 obtain⟨g,p,m⟩:=h.j2 S;rw[f fK rfl,f cJ rfl,f na rfl]at g;rw[f cI rfl,f cJ rfl]at m
 have K:s.w.K=false:=by
  cases e:s.w.K with
  |false=>rfl
  |true=>rw[e]at g;simp at g;omega
 refine⟨?_,by omega⟩;have N:s.w.N=0:=by omega
 cases o:s.w with
 |mk a b c d=>rw[o]at L S K N;simp only at L S K N;subst L;subst S;subst K;subst N;rfl
def gy:Pc->Nat
 |.out=>0
 |.ig=>6
 |.rd l=>if l.aw then 5 else 6
 |.sq _ l=>if l.aw then 5 else 6
 |.sw _ _=>6
 |.kQ _ l=>if l.aw then 5 else 6
 |.gx _=>4
 |.tq=>5
 |.up _=>5
 |.add _ _=>5
 |.held=>3
 |.iY _=>2
 |.vz=>2
 |.give=>1
 |.bad=>0
def jE(w:Wd):Pc->Nat
 |.out=>0
 |.ig=>16
 |.rd l=>3+3*(4-l.it)
 |.sq old l=>if w=old then 2+3*(4-l.it)else 5+3*(4-l.it)
 |.sw old l=>if w=old then 1 else 4+3*(3-l.it)
 |.kQ old l=>if w=old then 1 else 4+3*(4-l.it)
 |.gx _=>18
 |.tq=>17
 |.up _=>16
 |.add _ _=>1
 |.held=>1
 |.iY old=>if w=old then 1 else 4
 |.vz=>3
 |.give=>1
 |.bad=>0
theorem Oe(w:Wd)(p:Pc):jE w p<=18:=by cases p<;>simp[jE]<;>(try split)<;>omega
theorem Fh{f:Nat->Nat}{c:Nat}(h:∀i,f i<=c):∀n,tot n f<=n*c
 |0=>by simp[tot]
 |n+1=>by have:=Fh h n;have:=h n;rw[tot,Nat.succ_mul];omega
def phi(n:Nat)(pcs:Nat->Pc)(s:Sh):Nat:=tot n (λi=>gy (pcs i))+s.ms
def meas(n:Nat)(pcs:Nat->Pc)(s:Sh):Nat:=phi n pcs s*(18*n+1)+tot n (λi=>jE s.w (pcs i))
theorem Of{p q:Pc}{s s':Sh}(f:loc p)(h:(q,s')∈mv p s):gy q+s'.ms<gy p+s.ms\/(s'.w=s.w/\gy q+s'.ms<=gy p+s.ms/\jE s.w q<jE s.w p):=by
 have g:∀(old:Wd) (l:Lo) (q:Pc),q∈hd old l->gy q=gy (.rd l)/\jE s.w q<(if s.w=old then 2+3*(4-l.it)else 5+3*(4-l.it)):=λold l q b=>by
  unfold hd at b;simp only[List.mem_append,List.mem_singleton]at b
  rcases b with b|rfl
  . split at b
    . rename_i a
      simp at a;simp only[List.mem_singleton]at b;subst b;split
      . rename_i i
        simp at i;simp[gy,jE,i.1.1];split<;>omega
      . refine⟨rfl,?_⟩
        have:=a.2;simp[jE];split<;>omega
    . simp at b
  . simp[gy,jE]
    split<;>omega
 have c:∀(l:Lo),gy (nx s.w l)=gy (.rd l)/\jE s.w (nx s.w l)<3+3*(4-l.it):=λl=>by unfold nx;split<;>simp[gy,jE]<;>omega
 cases p with
 |out=>simp[mv]at h
 |bad=>simp[mv]at h
 |ig=>simp only[mv]at h;split at h<;>simp only[List.mem_singleton,Prod.mk.injEq]at h<;>obtain⟨rfl,rfl⟩:=h<;>simp[gy,jE]
 |rd l=>simp only[mv,List.mem_singleton,Prod.mk.injEq]at h;obtain⟨rfl,rfl⟩:=h;obtain⟨d,e⟩:=c l;exact .inr ⟨rfl,by rw[d];exact Nat.le_refl _,e⟩
 |sq old l=>simp only[mv,List.mem_map,Prod.mk.injEq]at h;obtain⟨m,b,rfl,rfl⟩:=h;obtain⟨d,e⟩:=g old l _ b;exact .inr ⟨rfl,by rw[d];exact Nat.le_refl _,e⟩
 | sw old l=>
   have j:=f.1;have n:=f.2.2.2.2.2;simp only[mv]at h;split at h<;>rename_i a<;>simp only[List.mem_singleton,Prod.mk.injEq]at h<;>obtain⟨rfl,rfl⟩:=h
   . simp[gy,jE]
   . refine .inr ⟨rfl,by simp[gy,j],?_⟩
     simp[jE,a]
 | kQ old l=>
   simp only[mv]at h;split at h
   . rename_i a
     simp at a;have:=f.1 a.1;rw[this]at a;simp at a
   split at h<;>rename_i a<;>simp only[List.mem_singleton,Prod.mk.injEq]at h
   . obtain⟨rfl,rfl⟩:=h
     left;split<;>simp only[gy]<;>split<;>omega
   . obtain⟨rfl,rfl⟩:=h
     exact .inr ⟨rfl,by simp[gy],by simp[jE,a]⟩
 | gx sv=>
   simp only[mv]at h;split at h
   . simp at h
   . simp only[List.mem_singleton,Prod.mk.injEq]at h
     obtain⟨rfl,rfl⟩:=h;cases sv<;>exact .inr ⟨rfl,by simp[gy];omega,by simp[jE]⟩
 | tq=>
   simp only[mv,List.mem_cons,Prod.mk.injEq,List.not_mem_nil,or_false]at h
   rcases h with⟨rfl,rfl⟩|⟨rfl,rfl⟩<;>exact .inr ⟨rfl,by simp[gy],by simp[jE]⟩
 | up sv=>
   simp only[mv]at h;split at h
   . split at h<;>simp only[List.mem_singleton,Prod.mk.injEq]at h<;>obtain⟨rfl,rfl⟩:=h<;>exact .inr ⟨rfl,by simp[gy],by simp[jE]⟩
   . simp only[List.mem_singleton,Prod.mk.injEq]at h
     obtain⟨rfl,rfl⟩:=h;obtain⟨d,e⟩:=c ⟨true,sv,0⟩;refine .inr ⟨rfl,by rw[d];simp[gy],?_⟩
     have k:∀w,jE w (.up sv)=16:=λ_=>rfl
     rw[k];simp only at e;omega
 |add old sv=>simp only[mv,List.mem_singleton,Prod.mk.injEq]at h;obtain⟨rfl,rfl⟩:=h;exact .inl (by simp[gy])
 | held=>
   simp only[mv]at h;left;split at h
   . simp only[List.mem_singleton,Prod.mk.injEq]at h;obtain⟨rfl,rfl⟩:=h;simp[gy]
   . simp only[List.mem_singleton,Prod.mk.injEq]at h
     obtain⟨rfl,rfl⟩:=h;split
     . simp[gy]
     split
     . simp[gy]
     split<;>simp[gy]
 | iY old=>
   simp only[mv]at h;split at h<;>rename_i a<;>simp only[List.mem_singleton,Prod.mk.injEq]at h<;>obtain⟨rfl,rfl⟩:=h
   . simp[gy]
   . exact .inr ⟨rfl,by simp[gy],by simp[jE,a]⟩
 | vz=>
   simp only[mv,List.mem_singleton,Prod.mk.injEq]at h;obtain⟨rfl,rfl⟩:=h;split
   . left;simp[gy]
   . exact .inr ⟨rfl,by simp[gy],by simp[jE]⟩
 |give=>simp only[mv,List.mem_singleton,Prod.mk.injEq]at h;obtain⟨rfl,rfl⟩:=h;exact .inr ⟨rfl,by simp[gy];omega,by simp[jE]⟩
theorem H2{n:Nat}{pcs:Nat->Pc}{s s':Sh}{i:Nat}{q:Pc}(a:i<n)(d:loc (pcs i))(e:(q,s')∈mv (pcs i) s):meas n (set pcs i q) s'<meas n pcs s/\phi n (set pcs i q) s'<=phi n pcs s:=by
 have C:=gu gy pcs i q a;have k:=iM (λj=>gy (pcs j)) a;rcases Of d e with h|⟨g,l,m⟩
 . have b:phi n (set pcs i q) s'+1<=phi n pcs s:=by unfold phi;omega
   refine⟨?_,by omega⟩;have o:=Fh (f:=λj=>jE s'.w (set pcs i q j)) (c:=18) (λj=>Oe _ _) n;have:=Nat.mul_le_mul_right (18*n+1) b;rw[Nat.add_mul]at this;unfold meas;omega
 . have b:phi n (set pcs i q) s'<=phi n pcs s:=by unfold phi;omega
   refine⟨?_,b⟩;have R:=gu (jE s.w) pcs i q a;have p:=iM (λj=>jE s.w (pcs j)) a;have:=Nat.mul_le_mul_right (18*n+1) b;unfold meas;rw[g];omega
theorem Inv.alive{n:Nat}{pcs:Nat->Pc}{s:Sh}(h:Inv n pcs s)(b:∀i,i<n->pcs i=.out\/∃sv,pcs i=.gx sv)(a:s.ms=0):∀i,i<n->pcs i=.out:=by
 have z:∀(f:Pc->Nat),f .out=0->(∀sv,f (.gx sv)=0)->tot n (λi=>f (pcs i))=0:=λf d g=>by
  have:∀m,m<=n->tot m (λi=>f (pcs i))=0:=λm=>by
   induction m with
   |zero=>intro _;rfl
   | succ m j=>
     intro a;rw[tot,j (by omega)]
     rcases b m (by omega)with e|⟨sv,e⟩<;>rw[e]<;>simp[d,g]
  exact this n (Nat.le_refl _)
 have k:=z cr rfl λ_=>rfl
 have l:=z fK rfl λ_=>rfl
 have o:=z cJ rfl λ_=>rfl
 have p:=z na rfl λ_=>rfl
 have q:=z dh rfl λ_=>rfl
 have r:=z ij rfl λ_=>rfl
 have j1:=h.j1;have j2:=h.j2;have j3:=h.j3;have j4:=h.j4
 have t:tot n (λi=>cI (pcs i))=0:=by obtain⟨⟨u,v,w,x⟩,ms⟩:=s;simp only at j1 j2 j3 j4 a;subst a;cases u<;>cases v<;>cases w<;>simp[k,l,o,p,q,r]at j1 j2 j3 j4 ⊢<;>omega
 intro i c
 rcases b i c with e|⟨sv,e⟩
 . exact e
 . have:=C8 t i c
   rw[e]at this;simp[cI]at this
end Go.bd.Mu
