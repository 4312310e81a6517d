import Derived.Conc.CrowdTrace
import Derived.Test.YtldmpfccgajobaaGreatDoorV7
set_option linter.all false
namespace Go.bG
open Go.Conc
def ChanAt(w:World)(b:Nat):Prop:=∃cap buf a s r c,w.heap[b]?=some (.chan cap buf a s r c)
def Kept(kk:Nat->ag)(OO:Nat->ah)(w w':World)(b:Nat):Prop:=
 w'.heap[b]?=w.heap[b]?\/(ChanAt w b/\ChanAt w' b/\∀i,OO i b=none)\/
 ∃c a e,w.heap[b]?=some (.cells c e (0,0))/\w'.heap[b]?=some (.cells a e (0,0))/\a.size=c.size/\(∀i x,OO i b=some x->∃f,x=.part f/\∀n,f n≠none->a[n]?=c[n]?)/\∀n,a[n]?=c[n]?\/∀i,(kk i).cell b n=none
def Calm(Z:Base)(w w':World):Prop:=(ko w.os w'.os/\w'.output=w.output)/\∀b,b<Z.W0.heap.size->w'.heap[b]?=w.heap[b]?
def Gb(kk:Nat->ag)(OO:Nat->ah)(B:Nat):Loc->Prop
 |.cell a=>a.block<B/\∀i,¬aK (OO i) a.block a.off/\(kk i).cell a.block a.off=none
 |.obj r=>r<B/\∀i o,OO i r≠some (.obj o)
 |_=>True
def Told(Z:Base)(J M:Nat->Prop)(t:Trace)(n:Nat)(a:Touch):Prop:=Knows t 0 n\/(∃j,J j/\Knows t j n)\/(∃p,M p/\Before t n p)\/(Z.Shun a.loc/\a.kind=.atomic/\(t.counts n->n<Z.N0))
theorem v8{t:Trace}{B:Nat}(h:∀op∈t,op.act.low B){n:Nat}{a:Touch}(c:touchAt t n=some a):match a.loc with|.cell ad=>ad.block<B|.obj r=>r<B|_=>True:=by
 obtain⟨x,d,b⟩:=touch_of c;have:=h x (Array.mem_of_getElem? d);obtain⟨f,fn,pos,act⟩:=x;cases act with
 |access e=>simp only[MemAct.touch?,Option.some.injEq]at b;subst b;simp only[MemAct.low,Loc.low]at this;cases g:e.loc<;>simp_all
 |mark m=>cases m<;>simp_all [MemAct.touch?,MemAct.low]<;>(subst b;simpa using this)
 |_=>simp[MemAct.touch?]at b
section
variable{Z:Base}{kk:Nat->ag}{OO:Nat->ah}{J M:Nat->Prop}{w:World}{t:Trace}
theorem bL.qF(h:bL Z kk OO J M w t)(Fl:Nat->Nat->Prop){u:Trace}{w':World}{kk':Nat->ag}{OO':Nat->ah}{J' M':Nat->Prop}
 (N:w'.heap.size=w.heap.size) (hq:Calm Z w w') (hb:∀b,Kept kk OO w w' b) (B:∀op∈u,op.act.low w.heap.size)
 (a7:∀i j,Fl i j->∀n a,touchAt t n=some a->a.loc.isMemory=true -> ¬Z.Shun a.loc->DD Z t i n->DD Z (t++u) j n)
 (O:∀j b n v,(kk' j).cell b n=some v->∃i,Fl i j/\(kk i).cell b n=some v)
 (hs:∀j b s,(kk' j).sh b=some s->∃i,Fl i j/\(kk i).sh b=some s)
 (I:∀j b x,OO' j b=some x->∃i,Fl i j/\OO i b=some x/\∀s,(kk i).sh b=some s->(kk' j).sh b=some s)
 (hd:∀i j b x,i≠j->OO' i b=some x->OO' j b=none)
 (hr:∀said,¬Race said (t++u))
 (hu:∀op∈u,∀a,op.act.touch?=some a->a.loc.isMemory=true->Gb kk OO w.heap.size a.loc)
 (a8:∀m op a,u[m]?=some op->op.act.touch?=some a->a.loc.isMemory=true->Told Z J' M' (t++u) (t.size+m) a)
 (Y:∀n a,touchAt t n=some a->a.loc.isMemory=true->((∃j,J j/\Knows t j n)\/(∃p,M p/\Before t n p))->Told Z J' M' (t++u) n a):bL Z kk' OO' J' M' w' (t++u):=by
 have A:∀j b n,aK (OO' j) b n->∃i,Fl i j/\aK (OO i) b n:=λj b n y=>by
  rcases y with⟨o,q⟩|⟨m,q,E⟩|⟨f,q,E⟩
  . obtain⟨i,d,g,_⟩:=I j b _ q;exact⟨i,d,.inl ⟨o,g⟩⟩
  . obtain⟨i,d,g,_⟩:=I j b _ q;exact⟨i,d,.inr (.inl ⟨m,g,E⟩)⟩
  . obtain⟨i,d,g,_⟩:=I j b _ q;exact⟨i,d,.inr (.inr ⟨f,g,E⟩)⟩
 have U:∀i j b n v,(kk i).cell b n=some v -> ¬aK (OO j) b n:=λi j b n v F=>by
  by_cases e:i=j
  . subst e;exact(h.sat i).apart b n v F
  . exact h.lx j i b n v (Ne.symm e) F
 have G:∀i b x,OO i b=some x->(∀f,x≠.part f)->w'.heap[b]?=w.heap[b]?:=λi b x K a9=>by
  rcases hb b with d|⟨_,_,d⟩|⟨_,_,_,_,_,_,d,_⟩
  . exact d
  . rw[d i]at K;cases K
  . obtain⟨f,rfl,_⟩:=d i x K
    exact absurd rfl (a9 f)
 have hold:∀{n:Nat}{a:Touch},touchAt (t++u) n=some a->(touchAt t n=some a/\n<t.size)\/∃m op,u[m]?=some op/\op.act.touch?=some a/\n=t.size+m:=λ{n a} Y=>by
  obtain⟨x,K,V⟩:=touch_of Y;by_cases hn:n<t.size
  . rw[Array.getElem?_append_left hn]at K
    exact .inl ⟨by rw[touchAt_of K];exact V,hn⟩
  . rw[Array.getElem?_append_right (by omega)]at K
    exact .inr ⟨n-t.size,x,K,V,by omega⟩
 refine⟨λj=>⟨λb n v F y=>?_,λb n v F=>?_,λb s al=>?_,λb o C=>?_,λb n av=>?_,λb f ax=>?_⟩,hd,λi j b n v b0 F y=>?_,λj n a Q E=>?_,hr,λop H=>?_,λn a Q E=>?_,by simp;exact Nat.le_trans h.n0 (Nat.le_add_right _ _),h.yX _,λa L=>?_,λr L=>?_,h.vC.step hq.1.1 hq.1.2 (by rw[N];exact Nat.le_refl _) hq.2,λj b x K=>by obtain⟨i,_,d,_⟩:=I j b x K;exact h.mine i b x d⟩
 . obtain⟨i,_,d⟩:=O j b n v F
   obtain⟨l,_,g⟩:=A j b n y;exact U i l b n v d g
 . obtain⟨i,_,d⟩:=O j b n v F
   have g:=(h.sat i).cell b n v d;rcases hb b with k|⟨⟨_,_,_,_,_,_,k⟩,_⟩|⟨c,c',e,k,P,W,_,T⟩
   . simpa only[World.cell?,k]using g
   . simp[World.cell?,k]at g
   . rcases T n with T|T
     . simp only[World.cell?,k,P]at g ⊢
       rw[T];exact g
     . rw[T i]at d;cases d
 . obtain⟨i,_,d⟩:=hs j b s al
   have g:=(h.sat i).sh b s d;rcases hb b with k|⟨⟨_,_,_,_,_,_,k⟩,_⟩|⟨c,c',e,k,P,W,_,T⟩
   . simpa only[World.shape?,k]using g
   . simp[World.shape?,k]at g
   . simp only[World.shape?,k,P]at g ⊢
     rw[W];exact g
 . obtain⟨i,_,d,_⟩:=I j b _ C
   rw[G i b _ d (λ_ e=>by cases e)];exact(h.sat i).obj b o d
 . obtain⟨i,_,d,g⟩:=I j b _ av
   rw[G i b _ d (λ_ e=>by cases e)];obtain⟨c,e,k,P⟩:=(h.sat i).tail b n d;exact⟨c,e,k,g _ P⟩
 . obtain⟨i,_,d,g⟩:=I j b _ ax
   obtain⟨c,e,k,P,W⟩:=(h.sat i).part b f d;rcases hb b with q|⟨_,_,q⟩|⟨c0,c1,e0,q1,q2,q3,q4,_⟩
   . exact⟨c,e,by rw[q];exact k,g _ P,W⟩
   . rw[q i]at d;cases d
   . obtain⟨f',ef,ay⟩:=q4 i _ d
     cases ef;rw[q1]at k;cases k;exact⟨c1,_,q2,by rw[q3];exact g _ P,λn v F=>by rw[ay n (by rw[F];simp)];exact W n v F⟩
 . obtain⟨l,_,d⟩:=O j b n v F
   obtain⟨l',_,g⟩:=A i b n y;exact U l l' b n v d g
 . rcases hold Q with⟨z,X⟩|⟨m,op,d,g,rfl⟩
   . by_cases hK:∃i,Fl i j/\DD Z t i n/\¬Z.Shun a.loc
     . obtain⟨i,d,g,k⟩:=hK
       exact .inl (a7 i j d n a z E k g)
     . refine .inr ?_
       have D:=v8 h.seen z
       have R:∀i,Fl i j->mN (kk i) (OO i) w.heap.size a:=λi hi=>by
        by_cases L:Z.Shun a.loc
        . unfold mN
          split
          . next S B=>rw[B]at L;have:=h.iT S L;exact⟨this.1,(this.2 i).1,.inl (this.2 i).2⟩
          . next r B=>rw[B]at L;have:=h.ly r L;exact⟨this.1,this.2 i⟩
          . trivial
        . rcases h.xO i n a z E with d|d
          . exact absurd ⟨i,hi,d,L⟩ hK
          . exact d
       unfold mN;split
       . next S B=>
         rw[B]at D;refine⟨by rw[N];exact D,λy=>?_,?_⟩
         . obtain⟨i,d,g⟩:=A j _ _ y
           have:=R i d;unfold mN at this;rw[B]at this;exact this.2.1 g
         . cases q:(kk' j).cell S.block S.off with
           |none=>exact .inl rfl
           | some v=>
             obtain⟨i,d,g⟩:=O j _ _ v q;have:=R i d;unfold mN at this;rw[B]at this;rcases this.2.2 with k|k
             . rw[k]at g;cases g
             . exact .inr k
       . next r B=>
         rw[B]at D;refine⟨by rw[N];exact D,λo C=>?_⟩;obtain⟨i,d,g,_⟩:=I j r _ C;have:=R i d;unfold mN at this;rw[B]at this;exact this.2 o g
       . trivial
   . refine .inr ?_
     have:=hu op (Array.mem_of_getElem? d) a g E;unfold mN;split
     . next S B=>
       rw[B]at this;refine⟨by rw[N];exact this.1,λy=>?_,.inl ?_⟩
       . obtain⟨i,_,k⟩:=A j _ _ y
         exact(this.2 i).1 k
       . cases q:(kk' j).cell S.block S.off with
         |none=>rfl
         |some v=>obtain⟨i,_,k⟩:=O j _ _ v q;rw[(this.2 i).2]at k;cases k
     . next r B=>
       rw[B]at this;refine⟨by rw[N];exact this.1,λo C=>?_⟩;obtain⟨i,_,k,_⟩:=I j r _ C;exact this.2 i o k
     . trivial
 . rw[N]
   rcases Array.mem_append.1 H with H|H
   . exact h.seen op H
   . exact B op H
 . rcases hold Q with⟨z,X⟩|⟨m,op,d,g,rfl⟩
   . rcases h.acc n a z E with d|d|d|d
     . exact .inl (d.app _)
     . exact Y n a z E (.inl d)
     . exact Y n a z E (.inr d)
     . exact .inr (.inr (.inr ⟨d.1,d.2.1,λO=>d.2.2 ((oJ X).1 O)⟩))
   . exact a8 m op a d g E
 . obtain⟨d,g⟩:=h.iT a L
   refine⟨by rw[N];exact d,λj=>⟨λy=>?_,?_⟩⟩
   . obtain⟨i,_,k⟩:=A j _ _ y
     exact(g i).1 k
   . cases q:(kk' j).cell a.block a.off with
     |none=>rfl
     |some v=>obtain⟨i,_,k⟩:=O j _ _ v q;rw[(g i).2]at k;cases k
 . obtain⟨d,g⟩:=h.ly r L
   refine⟨by rw[N];exact d,λj o C=>?_⟩;obtain⟨i,_,k,_⟩:=I j r _ C;exact g i o k
theorem bL.Pq(h:bL Z kk OO J M w t)(L:0≠Z.lk){b:Nat}{f:Nat->Option Value}(hb:∀i,OO i b=none)(N:∀n v,f n=some v->∀i,(kk i).cell b n=none)
 (O:∀ad:Addr,ad.block=b->f ad.off≠none -> ¬Z.Shun (.cell ad)) (G:∃c e,w.heap[b]?=some (.cells c e (0,0))/\(kk 0).sh b=some (e,c.size)/\∀n v,f n=some v->c[n]?=some v)
 (P:∀m a ad,touchAt t m=some a->a.loc=.cell ad->ad.block=b->f ad.off≠none->Knows t 0 m) (C:Z.W0.heap.size<=b):bL Z kk (bo OO 0 ((OO 0).set b (.part f))) J M w t:=by
 have D:∀n,f n≠none->∀i,(kk i).cell b n=none:=λn Q i=>by
  cases q:f n with
  |none=>exact absurd q Q
  |some v=>exact N n v q i
 have p:∀c n,aK ((OO 0).set b (.part f)) c n->aK (OO 0) c n\/(c=b/\f n≠none):=λc n hc=>by
  by_cases d:c=b
  . subst d
    rcases hc with⟨o,q⟩|⟨m,q,_⟩|⟨g,q,u⟩
    . simp[ah.set]at q
    . simp[ah.set]at q
    . simp only[ah.set,if_true,Option.some.injEq,Own.part.injEq]at q
      subst q;exact .inr ⟨rfl,u⟩
  . exact .inl (by simpa[aK,ah.set,d]using hc)
 have R:Sat (kk 0) ((OO 0).set b (.part f)) w:=by
  refine⟨λc n v A hc=>?_,(h.sat 0).cell,(h.sat 0).sh,λc o hc=>?_,λc n hc=>?_,λc g hc=>?_⟩
  . rcases p c n hc with hc|⟨rfl,u⟩
    . exact(h.sat 0).apart c n v A hc
    . rw[D n u 0]at A;cases A
  . by_cases d:c=b
    . subst d;simp[ah.set]at hc
    . exact(h.sat 0).obj c o (by simpa[ah.set,d]using hc)
  . by_cases d:c=b
    . subst d;simp[ah.set]at hc
    . exact(h.sat 0).tail c n (by simpa[ah.set,d]using hc)
  . by_cases d:c=b
    . subst d
      simp only[ah.set,if_true,Option.some.injEq,Own.part.injEq]at hc;subst hc;exact G
    . exact(h.sat 0).part c g (by simpa[ah.set,d]using hc)
 have H:b<w.heap.size:=by obtain⟨c,e,s,_⟩:=G;exact(Array.getElem?_eq_some_iff.1 s).1
 refine⟨λi=>?_,λi j c x y E=>?_,λi j c n v y A hc=>?_,λi n a z I=>?_,h.clean,h.seen,h.acc,h.n0,h.tP,λa z=>⟨(h.iT a z).1,λi=>⟨λhc=>?_,((h.iT a z).2 i).2⟩⟩,λr F=>⟨(h.ly r F).1,λi o hc=>?_⟩,h.vC,λi c x hc=>?_⟩
 . by_cases k:i=0
   . subst k;rw[ak];exact R
   . rw[ap _ _ k];exact h.sat i
 . by_cases d:c=b
   . subst d
     by_cases K:j=0
     . subst K
       rw[ap _ _ y,hb i]at E;cases E
     . rw[ap _ _ K];exact hb j
   . have e:∀l,bo OO 0 ((OO 0).set b (.part f)) l c=OO l c:=λl=>by
      by_cases B:l=0
      . subst B;rw[ak];simp[ah.set,d]
      . rw[ap _ _ B]
     rw[e]at E ⊢;exact h.gY i j c x y E
 . by_cases k:i=0
   . subst k
     rw[ak]at hc
     rcases p c n hc with hc|⟨rfl,u⟩
     . exact h.lx 0 j c n v y A hc
     . rw[D n u j]at A;cases A
   . rw[ap _ _ k]at hc;exact h.lx i j c n v y A hc
 . by_cases k:i=0
   . subst k
     rw[ak]
     rcases h.xO 0 n a z I with s|s
     . exact .inl s
     . unfold mN at s ⊢
       split
       . next ad B=>
         rw[B]at s
         by_cases u:ad.block=b/\f ad.off≠none
         . exact .inl ((l9 L).2 (P n a ad z B u.1 u.2))
         . refine .inr ⟨s.1,λhc=>?_,s.2.2⟩
           rcases p _ _ hc with hc|hc
           . exact s.2.1 hc
           . exact u hc
       . next r B=>
         rw[B]at s;refine .inr ⟨s.1,λo hc=>?_⟩
         by_cases d:r=b
         . subst d;simp[ah.set]at hc
         . exact s.2 o (by simpa[ah.set,d]using hc)
       . exact .inr trivial
   . rw[ap _ _ k];exact h.xO i n a z I
 . by_cases k:i=0
   . subst k
     rw[ak]at hc
     rcases p _ _ hc with hc|⟨e,u⟩
     . exact((h.iT a z).2 0).1 hc
     . exact O a e u z
   . rw[ap _ _ k]at hc;exact((h.iT a z).2 i).1 hc
 . by_cases k:i=0
   . subst k
     rw[ak]at hc
     by_cases d:r=b
     . subst d;simp[ah.set]at hc
     . exact(h.ly r F).2 0 o (by simpa[ah.set,d]using hc)
   . rw[ap _ _ k]at hc;exact(h.ly r F).2 i o hc
 . by_cases k:i=0
   . subst k
     rw[ak]at hc
     by_cases d:c=b
     . subst d;exact C
     . exact h.mine 0 c x (by simpa[ah.set,d]using hc)
   . rw[ap _ _ k]at hc;exact h.mine i c x hc
theorem pF(b:Nat):ah.bot b=none:=rfl
theorem bL.start{P:Program}{k:ag}{O:ah}{g:Goroutine}{gs:Array Goroutine}{w W0:World}{t:Trace}(h:dE P W0 k O g gs w t)(lk:Nat)(la:Addr)(F:0≠lk):
 ∃Z:Base,Z.N0=t.size/\Z.lk=lk/\Z.la=la/\Z.W0=W0/\gs[0]?=some g/\(∃q,Leavers P t gs q)/\Deaf t 0=0/\bL Z (bo (λ_=>ag.bot) 0 k) (bo (λ_=>ah.bot) 0 O) (λ_=>False) (λ_=>False) w t/\∀n a,touchAt t n=some a->a.loc.isMemory=true->Knows t 0 n\/(Z.Shun a.loc/\a.kind=.atomic):=by
 obtain⟨Shun,q,S,T,m,E,M,U,G,H⟩:=h;refine⟨⟨Shun,t.size,lk,la,W0⟩,rfl,rfl,rfl,rfl,S,⟨q,T⟩,m.hears,?_,m.known⟩
 have s:∀i,i=0\/(bo (λ_=>ag.bot) 0 k i=ag.bot/\bo (λ_=>ah.bot) 0 O i=ah.bot):=λi=>by
  by_cases p:i=0
  . exact .inl p
  . exact .inr ⟨ap _ _ p,ap _ _ p⟩
 refine⟨λi=>?_,λi j b x u f=>?_,λi j b n v u N=>?_,λi n a y I=>?_,m.clean,m.seen,λn a y I=>?_,Nat.le_refl _,λn g X V J K=>m.over n g V J K,λa y=>?_,λr W=>?_,G,λi b x f=>?_⟩
 . rcases s i with rfl|⟨A,l⟩
   . rw[ak,ak];exact U
   . rw[A,l]
     exact⟨λ_ _ _ h=>(by cases h),λ_ _ _ h=>(by cases h),λ_ _ h=>(by cases h),λ_ _ h=>(by cases h),λ_ _ h=>(by cases h),λ_ _ h=>(by cases h)⟩
 . rcases s i with rfl|⟨_,e⟩
   . rw[ap _ _ (Ne.symm u)];rfl
   . rw[e]at f;cases f
 . rcases s j with rfl|⟨e,_⟩
   . rw[ap _ _ u];exact de (pF b)
   . rw[e]at N;cases N
 . have c:=v8 m.seen y
   have B:mN ag.bot ah.bot w.heap.size a:=by
    unfold mN;split
    . next Q z=>rw[z]at c;exact⟨c,de (pF _),.inl rfl⟩
    . next r z=>rw[z]at c;exact⟨c,λo E=>by cases E⟩
    . trivial
   rcases s i with rfl|⟨A,l⟩
   . rw[ak,ak]
     rcases m.known n a y I with d|⟨d,R⟩
     . exact .inl ((l9 F).2 d)
     . refine .inr ?_
       unfold mN;split
       . next Q z=>rw[z]at d;obtain⟨C,D,L⟩:=E Q d;exact⟨C,D,.inl L⟩
       . next r z=>rw[z]at d;exact M r d
       . trivial
   . rw[A,l];exact .inr B
 . rcases m.known n a y I with d|⟨d,R⟩
   . exact .inl d
   . refine .inr (.inr (.inr ⟨d,R,λ_=>?_⟩))
     obtain⟨x,f,_⟩:=touch_of y;exact lt_size_of_getElem? f
 . obtain⟨C,D,L⟩:=E a y
   refine⟨C,λi=>?_⟩;rcases s i with rfl|⟨A,l⟩
   . rw[ak,ak];exact⟨D,L⟩
   . rw[A,l];exact⟨de (pF _),rfl⟩
 . obtain⟨C,D⟩:=M r W
   refine⟨C,λi o p=>?_⟩;rcases s i with rfl|⟨A,l⟩
   . rw[ak]at p;exact D o p
   . rw[l]at p;cases p
 . rcases s i with rfl|⟨_,l⟩
   . rw[ak]at f;exact H b x f
   . rw[l]at f;cases f
theorem bL.finish{P:Program}{g:Goroutine}{gs:Array Goroutine}{q:Nat->Nat}(h:bL Z kk OO (λ_=>False) (λ_=>False) w t)(s:gs[0]?=some g)(u:Leavers P t gs q)(hd:Deaf t 0=0):dE P Z.W0 (kk 0) (OO 0) g gs w t:=by
 refine⟨Z.Shun,q,s,u,⟨h.clean,λn a c i=>?_,λn v f d j=>?_,hd,h.seen⟩,λa c=>?_,λr l=>?_,h.sat 0,h.vC,h.mine 0⟩
 . rcases h.acc n a c i with b|⟨_,b,_⟩|⟨_,b,_⟩|⟨b,x,_⟩
   . exact .inl b
   . exact b.elim
   . exact b.elim
   . exact .inr ⟨b,x⟩
 . by_cases m:n<Z.N0
   . exact h.tP n v m f d j
   . have k:=j
     obtain⟨a,c,i,_⟩:=j;rcases h.acc n a c i with b|⟨_,b,_⟩|⟨_,b,_⟩|⟨_,_,b⟩
     . obtain⟨p,z,o,e,hb⟩:=b
       rcases hb with rfl|hb
       . rw[Trace.g?,o]at f
         simp only[Option.map_some,Option.some.injEq]at f;exact absurd (f.symm.trans e) d
       . exact⟨p,by simp[Trace.g?,o,e],hb⟩
     . exact b.elim
     . exact b.elim
     . exact absurd (b k) m
 . exact⟨(h.iT a c).1,((h.iT a c).2 0).1,((h.iT a c).2 0).2⟩
 . exact⟨(h.ly r l).1,(h.ly r l).2 0⟩
theorem bL.oO(h:bL Z kk OO J M w t)(S:Loc->Prop)(c:∀a,S (.cell a)->a.block<w.heap.size/\∀i,¬aK (OO i) a.block a.off/\(kk i).cell a.block a.off=none)(d:∀r,¬S (.obj r)):
 bL ⟨λl=>Z.Shun l\/S l,Z.N0,Z.lk,Z.la,Z.W0⟩ kk OO J M w t:=
 ⟨h.sat,h.gY,h.lx,h.xO,h.clean,h.seen,λn a b e=>(h.acc n a b e).imp id (·.imp id (·.imp id λx=>⟨.inl x.1,x.2⟩)),h.n0,h.tP,
   λa b=>b.elim (h.iT a) (c a),λr f=>f.elim (h.ly r) (λx=>absurd x (d r)),h.vC,h.mine⟩
end
def jS(u:Trace):Prop:=∀op∈u,op.act≠.mark .disable/\op.act≠.mark .enable
theorem qG{t u:Trace}(a:jS u)(g:Nat):∀m,m<=u.size->(t++u).deaf g (t.size+m)=Deaf t g
 |0,_=>deaf_old (Nat.le_refl _)
 | m+1,h=>by
   have b:m<u.size:=by omega
   have c:(t++u)[t.size+m]?=some u[m]:=by rw[Array.getElem?_append_right (by omega)];simp[b]
   rw[<-Nat.add_assoc,deaf_succ c,qG a g m (by omega)]
   have:=a u[m] (Array.getElem_mem b);unfold deafStep;split
   . next e=>exact absurd e this.1
   . next e=>exact absurd e this.2
   . rfl
theorem bD{t u:Trace}(a:jS u)(g:Nat):Deaf (t++u) g=Deaf t g:=by have:=qG (t:=t) a g u.size (Nat.le_refl _);unfold Deaf at *;rw[Array.size_append];exact this
theorem cC{t u:Trace}{m:Nat}{op:MemOp}(h:u[m]?=some op):(t++u)[t.size+m]?=some op:=by rw[Array.getElem?_append_right (by omega)];simpa using h
theorem heard_new{t u:Trace}(a:jS u){m:Nat}{op:MemOp}(h:u[m]?=some op)(hd:Deaf t op.g=0):(t++u).heard (t.size+m):=by have b:=(Array.getElem?_eq_some_iff.1 h).1;exact⟨op.g,by simp[Trace.g?,cC h],by rw[qG a _ _ (by omega)];exact hd⟩
section
variable{t u:Trace}{i j n:Nat}
theorem jT(a:Knows t i n){m:Nat}{op:MemOp}(h:u[m]?=some op)(b:op.g=i):Before (t++u) n (t.size+m):=.inr (a.hb_new (by omega) (cC h) b)
theorem tQ(d:jS u){c k m1 m2:Nat}{x y:MemOp}(a:u[m1]?=some x)(b:u[m2]?=some y)(e:x.act=.send c k)(f:y.act=.recvDone c k)(h:Deaf t x.g=0)(i:Deaf t y.g=0)(j:Knows t x.g n):Knows (t++u) y.g n:=by
 have l:=jT j a rfl;have m:HappensBefore (t++u) (t.size+m1) (t.size+m2):=.single (.inr ⟨.handOver (c:=c) (k:=k) (by rw[act?_of (cC a),e]) (by rw[act?_of (cC b),f]),heard_new d a h,heard_new d b i⟩);exact⟨t.size+m2,y,cC b,rfl,l.trans (.inr m)⟩
theorem xP(e:jS u){c m p:Nat}{y:MemOp}(b:u[m]?=some y)(d:t.act? p=some (.close c))(f:t.heard p)(h:y.act=.recvClosed c)(i:Deaf t y.g=0)(hb:Before t n p):Knows (t++u) y.g n:=by
 have a:=lt_of_act? d;have j:HappensBefore (t++u) p (t.size+m):=.single (.inr ⟨.closed (c:=c) (by rw[act?_old a];exact d) (by rw[act?_of (cC b),h]),(heard_old a).2 f,heard_new e b i⟩);exact⟨t.size+m,y,cC b,rfl,(hb.app u).trans (.inr j)⟩
theorem rH(d:jS u){c m1 m2:Nat}{x y:MemOp}(b:u[m1]?=some x)(a:u[m2]?=some y)(e:x.act=.go y.g)(f:y.act=.start)(h:Deaf t x.g=0)(i:Deaf t y.g=0)(j:Knows t x.g n):Knows (t++u) y.g n:=by
 have k:=jT j b rfl;have l:HappensBefore (t++u) (t.size+m1) (t.size+m2):=.single (.inr ⟨.spawn (child:=y.g) (by rw[act?_of (cC b),e]) (by rw[act?_of (cC a),f]) (by simp[Trace.g?,cC a]),heard_new d b h,heard_new d a i⟩);exact⟨t.size+m2,y,cC a,rfl,k.trans (.inr l)⟩
end
theorem ol{t u:Trace}(f:jS u){a:Addr}{m p n:Nat}{y:MemOp}(c:u[m]?=some y)(h:y.act=.mark (.acquire a))(i:Deaf t y.g=0)(e:t.act? p=some (.mark (.releaseMerge a)))(j:t.heard p)(d:∀k,p<k->(t++u).act? k≠some (.mark (.release a)))(hb:Before t n p):Knows (t++u) y.g n:=by
 have b:=lt_of_act? e;have l:HappensBefore (t++u) p (t.size+m):=.single (.inr ⟨.marked (a:=a) (by omega) (.inr (by rw[act?_old b];exact e)) (by rw[act?_of (cC c),h]) (λk o _=>d k o),(heard_old b).2 j,heard_new f c i⟩);exact⟨t.size+m,y,cC c,rfl,(hb.app u).trans (.inr l)⟩
theorem tR{k:ag}{O:ah}{B:Nat}{es:Array Event}(h:∀e∈es.toList,gO k O B e)(g:Nat)(fn:FuncId)(pos:String):jS (MemOp.ofEvents g fn pos es):=λop a=>by
 obtain⟨e,b,rfl⟩:=Go.Conc.mem_ofEvents a;have:=h e (by simpa using b);obtain⟨loc,wr,c⟩:=e;cases loc with
 |cell d=>simp[MemAct.ofEvent]
 |obj r=>cases wr<;>cases c<;>simp[MemAct.ofEvent]
 |mark m=>simp only[gO]at this;cases m<;>simp_all [iI,kK,MemAct.ofEvent]
 |_=>simp[gO]at this
end Go.bG
namespace Go.bG.Mu
structure Wd where
 L:Bool
 K:Bool
 S:Bool
 N:Nat
 deriving DecidableEq
def Wd.zero:Wd:=⟨false,false,false,0⟩
structure Lo where
 aw:Bool
 sv:Bool
 it:Nat
 deriving DecidableEq
inductive Pc where
 |out
 |fF
 |rd (l:Lo)
 |sq (old:Wd) (l:Lo)
 |sw (old:Wd) (l:Lo)
 |jh (old:Wd) (l:Lo)
 |eY (sv:Bool)
 |tq
 |up (sv:Bool)
 |add (old:Wd) (sv:Bool)
 |held
 |gJ (old:Wd)
 |sB
 |give
 |bad
 deriving DecidableEq
def hd(old:Wd)(l:Lo):List Pc:=(if old.L && !old.S && decide (l.it<4)then[if !l.aw && !old.K && decide (old.N≠0)then .sw old l else .rd {l with it:=l.it+1}]else[])++[.jh old l]
def nx(old:Wd)(l:Lo):Pc:=if old.L && !old.S then .sq old l else .jh old l
def m7(old:Wd)(l:Lo):Wd:=⟨old.L||!old.S,if l.aw then false else old.K,old.S||(l.sv && old.L),if old.L||old.S then old.N+1 else old.N⟩
structure Sh where
 w:Wd
 ms:Nat
 deriving DecidableEq
def mv(p:Pc)(s:Sh):List (Pc × Sh):=
 match p with
 |.out=>[]
 |.fF=>if s.w=.zero then[(.held,{s with w:={Wd.zero with L:=true}})]else[(.rd ⟨false,false,0⟩,s)]
 |.rd l=>[(nx s.w l,s)]
 |.sq old l=>(hd old l).map (·,s)
 |.sw old l=>if s.w=old then[(.rd {l with aw:=true,it:=l.it+1},{s with w:={old with K:=true}})]else[(.rd {l with it:=l.it+1},s)]
 | .jh old l=>
   if l.aw && !old.K then[(.bad,s)]else
   if s.w=old then[(if old.L||old.S then .eY l.sv else .held,{s with w:=m7 old l})]else[(.rd l,s)]
 |.eY sv=>if s.ms=0 then[]else[(if sv then .up true else .tq,{s with ms:=s.ms-1})]
 |.tq=>[(.up false,s),(.up true,s)]
 |.up sv=>if s.w.S then(if s.w.L||s.w.K||decide (s.w.N=0)then[(.bad,s)]else[(.add s.w sv,s)])else[(nx s.w ⟨true,sv,0⟩,s)]
 |.add old sv=>[(.held,{s with w:={s.w with L:=true,S:=s.w.S && !(!sv||decide (old.N=1)),N:=s.w.N-1}})]
 | .held=>
   let w:={s.w with L:=false}
   if s.w.L=false then[(.bad,s)]else
   [(if w=.zero then .out else if w.S then .give else if decide (w.N=0)||w.K then .out else .gJ w,{s with w})]
 |.gJ old=>if s.w=old then[(.give,{s with w:={old with K:=true,N:=old.N-1}})]else[(.sB,s)]
 |.sB=>[(if decide (s.w.N=0)||s.w.L||s.w.K||s.w.S then .out else .gJ s.w,s)]
 |.give=>[(.out,{s with ms:=s.ms+1})]
 |.bad=>[]
def tot(n:Nat)(f:Nat->Nat):Nat:=match n with
 |0=>0
 |n+1=>tot n f+f n
def set(pcs:Nat->Pc)(i:Nat)(p:Pc):Nat->Pc:=λj=>if j=i then p else pcs j
theorem an(pcs:Nat->Pc)(i:Nat)(p:Pc):set pcs i p i=p:=by simp[set]
theorem aj(pcs:Nat->Pc){i j:Nat}(p:Pc)(h:j≠i):set pcs i p j=pcs j:=by simp[set,h]
theorem qH{f g:Nat->Nat}:∀{n:Nat},(∀i,i<n->f i=g i)->tot n f=tot n g
 |0,_=>rfl
 |n+1,h=>by rw[tot,tot,qH (n:=n) λi a=>h i (by omega),h n (by omega)]
theorem eQ(f:Pc->Nat)(pcs:Nat->Pc)(i:Nat)(p:Pc):∀{n:Nat},i<n->tot n (λj=>f (set pcs i p j))+f (pcs i)=tot n (λj=>f (pcs j))+f p
 |0,h=>by omega
 | n + 1,h=>by
   by_cases e:i=n
   . subst e
     rw[tot,tot,an,qH (g:=λj=>f (pcs j)) λj a=>by rw[aj pcs p (show j≠i by omega)]];omega
   . have:=eQ f pcs i p (n:=n) (by omega)
     rw[tot,tot,aj pcs p (show n≠i by omega)];omega
theorem gf(f:Nat->Nat){i:Nat}:∀{n:Nat},i<n->f i<=tot n f
 |0,h=>by omega
 | n+1,h=>by
   rw[tot];by_cases e:i=n
   . subst e;omega
   . have:=gf f (n:=n) (i:=i) (by omega);omega
theorem yY{f:Nat->Nat}:∀{n:Nat},tot n f=0->∀i,i<n->f i=0
 |0,_,i,a=>by omega
 | n+1,h,i,a=>by
   rw[tot]at h;by_cases e:i=n
   . subst e;omega
   . exact yY (n:=n) (by omega) i (by omega)
def bC:Pc->Nat|.held=>1|_=>0
def ed:Pc->Nat|.rd l=>l.aw.toNat|.sq _ l=>l.aw.toNat|.sw _ l=>l.aw.toNat|.jh _ l=>l.aw.toNat|_=>0
def bP:Pc->Nat|.eY _=>1|_=>0
def bQ:Pc->Nat|.give=>1|_=>0
def kP:Pc->Nat|.tq=>1|.up _=>1|_=>0
def cj:Pc->Nat|.add _ _=>1|_=>0
def fG:Pc->Nat|.gJ _=>1|.sB=>1|_=>0
def loc:Pc->Prop
 |.rd l=>(l.sv=true->l.aw=true)/\l.it<=4
 |.sq old l=>(l.aw=true->old.K=true)/\(l.sv=true->l.aw=true)/\l.it<=4/\old.L=true/\old.S=false
 |.sw old l=>l.aw=false/\l.sv=false/\old.L=true/\old.S=false/\old.K=false/\l.it<4
 |.jh old l=>(l.aw=true->old.K=true)/\(l.sv=true->l.aw=true)/\l.it<=4
 |.gJ old=>old.L=false/\old.K=false/\old.S=false/\old.N≠0
 |.bad=>False
 |_=>True
structure Inv0(n:Nat)(pcs:Nat->Pc)(s:Sh):Prop where
 j0:∀i,i<n->loc (pcs i)
 j1:tot n (λi=>bC (pcs i))=s.w.L.toNat
 j2:s.w.S=false->tot n (λi=>ed (pcs i))+tot n (λi=>bQ (pcs i))+s.ms+tot n (λi=>kP (pcs i))=s.w.K.toNat/\tot n (λi=>cj (pcs i))=0/\tot n (λi=>bP (pcs i))=s.w.N+tot n (λi=>bQ (pcs i))+s.ms
 j3:s.w.S=true->s.w.K=false/\tot n (λi=>ed (pcs i))=0/\tot n (λi=>bQ (pcs i))+s.ms+tot n (λi=>kP (pcs i))+tot n (λi=>cj (pcs i))=(!s.w.L).toNat/\tot n (λi=>bP (pcs i))+tot n (λi=>kP (pcs i))+tot n (λi=>cj (pcs i))=s.w.N
 j4:s.w.L=false->s.w.K=false->s.w.S=false->s.w.N≠0->0<tot n (λi=>fG (pcs i))
theorem LE{old:Wd}{l:Lo}(a:l.sv=true->l.aw=true)(c:l.it<=4)(d:l.aw=true->old.K=true){p:Pc}(h:p∈hd old l):loc p/\ed p=l.aw.toNat/\bC p=0/\bP p=0/\bQ p=0/\kP p=0/\cj p=0/\fG p=0:=by
 obtain⟨aw,sv,it⟩:=l;obtain⟨i,j,k,m⟩:=old;simp only at a c d;unfold hd at h;simp only[List.mem_append,List.mem_singleton]at h;rcases h with h|rfl
 . split at h
   . rename_i b
     simp at b;simp only[List.mem_singleton]at h;subst h;split
     . rename_i e
       simp at e;obtain⟨⟨f,g⟩,n⟩:=e;subst f;have:sv=false:=by cases sv with|false=>rfl|true=>simp at a
       simp[loc,ed,bC,bP,bQ,kP,cj,fG,b,this,g]
     . exact⟨⟨a,by have:=b.2;simp;omega⟩,rfl,rfl,rfl,rfl,rfl,rfl,rfl⟩
   . simp at h
 . exact⟨⟨d,a,c⟩,rfl,rfl,rfl,rfl,rfl,rfl,rfl⟩
theorem Gc{old:Wd}{l:Lo}(a:l.sv=true->l.aw=true)(b:l.it<=4)(c:l.aw=true->old.K=true):loc (nx old l)/\ed (nx old l)=l.aw.toNat/\bC (nx old l)=0/\bP (nx old l)=0/\bQ (nx old l)=0/\kP (nx old l)=0/\cj (nx old l)=0/\fG (nx old l)=0:=by
 unfold nx;split
 . rename_i h
   simp at h;exact⟨⟨c,a,b,h.1,h.2⟩,rfl,rfl,rfl,rfl,rfl,rfl,rfl⟩
 . exact⟨⟨c,a,b⟩,rfl,rfl,rfl,rfl,rfl,rfl,rfl⟩
set_option maxHeartbeats 2000000 in
theorem Inv0.step{n:Nat}{pcs:Nat->Pc}{s s':Sh}{i:Nat}{q:Pc}(h:Inv0 n pcs s)(m:i<n)(a:(q,s')∈mv (pcs i) s):Inv0 n (set pcs i q) s':=by
 have H:=eQ bC pcs i q m;have A:=eQ ed pcs i q m;have P:=eQ bP pcs i q m;have G:=eQ bQ pcs i q m;have U:=eQ kP pcs i q m;have D:=eQ cj pcs i q m;have R:=eQ fG pcs i q m;have M:=gf (λj=>bC (pcs j)) m
 have O:=gf (λj=>ed (pcs j)) m
 have W:=gf (λj=>bP (pcs j)) m
 have Q:=gf (λj=>bQ (pcs j)) m
 have E:=gf (λj=>kP (pcs j)) m
 have T:=gf (λj=>cj (pcs j)) m
 have F:=gf (λj=>fG (pcs j)) m
 have z:=h.j0 i m;obtain⟨⟨d,f,g,X⟩,ms⟩:=s;have j1:=h.j1;have j2:=h.j2;have j3:=h.j3;have j4:=h.j4;simp only at j1 j2 j3 j4
 have key:∀(o:Wd) (u:Nat),s'=⟨o,u⟩->loc q->(tot n (λj=>bC (set pcs i q j))=o.L.toNat) ->
  (o.S=false->tot n (λj=>ed (set pcs i q j))+tot n (λj=>bQ (set pcs i q j))+u+tot n (λj=>kP (set pcs i q j))=o.K.toNat/\tot n (λj=>cj (set pcs i q j))=0/\tot n (λj=>bP (set pcs i q j))=o.N+tot n (λj=>bQ (set pcs i q j))+u) ->
  (o.S=true->o.K=false/\tot n (λj=>ed (set pcs i q j))=0/\tot n (λj=>bQ (set pcs i q j))+u+tot n (λj=>kP (set pcs i q j))+tot n (λj=>cj (set pcs i q j))=(!o.L).toNat/\tot n (λj=>bP (set pcs i q j))+tot n (λj=>kP (set pcs i q j))+tot n (λj=>cj (set pcs i q j))=o.N) ->
  (o.L=false->o.K=false->o.S=false->o.N≠0->0<tot n (λj=>fG (set pcs i q j)))->Inv0 n (set pcs i q) s':=by
  rintro o u rfl I r w t B
  refine⟨λj hj=>?_,r,w,t,B⟩
  by_cases e:j=i
  . subst e;rw[an];exact I
  . rw[aj pcs q e];exact h.j0 j hj
 generalize hp:pcs i=p at *;generalize tot n (λj=>bC (set pcs i q j))=H' at *
 generalize tot n (λj=>ed (set pcs i q j))=A' at *
 generalize tot n (λj=>bP (set pcs i q j))=P' at *
 generalize tot n (λj=>bQ (set pcs i q j))=G' at *
 generalize tot n (λj=>kP (set pcs i q j))=U' at *
 generalize tot n (λj=>cj (set pcs i q j))=D' at *
 generalize tot n (λj=>fG (set pcs i q j))=R' at *
 generalize tot n (λj=>bC (pcs j))=H0 at *
 generalize tot n (λj=>ed (pcs j))=A0 at *
 generalize tot n (λj=>bP (pcs j))=P0 at *
 generalize tot n (λj=>bQ (pcs j))=G0 at *
 generalize tot n (λj=>kP (pcs j))=U0 at *
 generalize tot n (λj=>cj (pcs j))=D0 at *
 generalize tot n (λj=>fG (pcs j))=R0 at *
 cases p with
 |out=>simp[mv]at a
 |bad=>simp[mv]at a
 | fF=>
   simp only[mv]at a;split at a
   . rename_i c
     simp only[Wd.zero,Wd.mk.injEq]at c;obtain⟨rfl,rfl,rfl,rfl⟩:=c;simp only[List.mem_singleton,Prod.mk.injEq]at a;obtain⟨rfl,rfl⟩:=a;refine key _ _ rfl trivial ?_ ?_ ?_ ?_<;>simp[bC,ed,bP,bQ,kP,cj,fG,Wd.zero]at *<;>omega
   . simp only[List.mem_singleton,Prod.mk.injEq]at a
     obtain⟨rfl,rfl⟩:=a;refine key _ _ rfl (by simp[loc]) ?_ ?_ ?_ ?_<;>simp[bC,ed,bP,bQ,kP,cj,fG,Wd.zero]at *<;>cases d<;>cases f<;>cases g<;>simp at *<;>omega
 | rd l=>
   simp only[mv,List.mem_singleton,Prod.mk.injEq]at a;obtain⟨rfl,rfl⟩:=a
   have Y:l.aw=true->f=true:=λha=>by
    simp[ed,ha]at O;cases g
    . have:=(j2 rfl).1
      cases f
      . simp at this;omega
      . rfl
    . have:=(j3 rfl).2.1;omega
   obtain⟨I,r,w,t,B,Z,k6,k7⟩:=Gc (old:=⟨d,f,g,X⟩) z.1 z.2 Y;rw[r]at A;rw[w]at H;rw[t]at P;rw[B]at G;rw[Z]at U;rw[k6]at D;rw[k7]at R;refine key _ _ rfl I ?_ ?_ ?_ ?_<;>simp[bC,ed,bP,bQ,kP,cj,fG]at H A P G U D R ⊢<;>cases d<;>cases f<;>cases g<;>simp at j1 j2 j3 j4 ⊢<;>omega
 |sq old l=>simp only[mv,List.mem_map,Prod.mk.injEq]at a;obtain⟨q',k,rfl,rfl⟩:=a;obtain⟨I,r,w,t,B,Z,k6,k7⟩:=LE z.2.1 z.2.2.1 z.1 k;rw[r]at A;rw[w]at H;rw[t]at P;rw[B]at G;rw[Z]at U;rw[k6]at D;rw[k7]at R;refine key _ _ rfl I ?_ ?_ ?_ ?_<;>simp[bC,ed,bP,bQ,kP,cj,fG]at H A P G U D R ⊢<;>cases d<;>cases f<;>cases g<;>simp at j1 j2 j3 j4 ⊢<;>omega
 | sw old l=>
   obtain⟨oL,oK,oS,oN⟩:=old;obtain⟨x,y,C,V,h5,h6⟩:=z;obtain⟨aw,sv,it⟩:=l;simp only at x y C V h5 h6;subst x;subst y;subst C;subst V;subst h5;simp only[mv]at a;split at a
   . rename_i c
     simp only[Wd.mk.injEq]at c;obtain⟨rfl,rfl,rfl,rfl⟩:=c;simp only[List.mem_singleton,Prod.mk.injEq]at a;obtain⟨rfl,rfl⟩:=a;refine key _ _ rfl (by simp[loc];omega) ?_ ?_ ?_ ?_<;>simp[bC,ed,bP,bQ,kP,cj,fG]at *<;>omega
   . simp only[List.mem_singleton,Prod.mk.injEq]at a
     obtain⟨rfl,rfl⟩:=a;refine key _ _ rfl (by simp[loc];omega) ?_ ?_ ?_ ?_<;>simp[bC,ed,bP,bQ,kP,cj,fG]at H A P G U D R ⊢<;>cases d<;>cases f<;>cases g<;>simp at j1 j2 j3 j4 ⊢<;>omega
 | jh old l=>
   obtain⟨oL,oK,oS,oN⟩:=old;obtain⟨x,y,C⟩:=z;obtain⟨aw,sv,it⟩:=l;simp only at x y C;simp only[mv]at a;split at a
   . rename_i c
     simp at c;have:=x c.1;rw[this]at c;simp at c
   split at a
   . rename_i c
     simp only[Wd.mk.injEq]at c;obtain⟨rfl,rfl,rfl,rfl⟩:=c;simp only[List.mem_singleton,Prod.mk.injEq]at a;obtain⟨k,rfl⟩:=a;cases aw<;>cases sv<;>simp only[Bool.false_eq_true,false_implies,true_implies,imp_false,not_true]at y
     all_goals cases d<;>cases g<;>simp at k<;>subst k
     all_goals refine key _ _ rfl (by simp[loc]) ?_ ?_ ?_ ?_<;>simp[bC,ed,bP,bQ,kP,cj,fG,m7]at H A P G U D R M O W Q E T F ⊢<;>cases f<;>simp at j1 j2 j3 j4 x ⊢<;>omega
   . simp only[List.mem_singleton,Prod.mk.injEq]at a
     obtain⟨rfl,rfl⟩:=a;refine key _ _ rfl ⟨y,C⟩ ?_ ?_ ?_ ?_<;>simp[bC,ed,bP,bQ,kP,cj,fG]at H A P G U D R ⊢<;>cases d<;>cases f<;>cases g<;>simp at j1 j2 j3 j4 ⊢<;>omega
 | eY sv=>
   simp only[mv]at a;split at a
   . simp at a
   . rename_i c
     simp only[List.mem_singleton,Prod.mk.injEq]at a;obtain⟨rfl,rfl⟩:=a;cases sv
     all_goals refine key _ _ rfl trivial ?_ ?_ ?_ ?_<;>simp[bC,ed,bP,bQ,kP,cj,fG]at H A P G U D R M O W Q E T F ⊢<;>cases d<;>cases f<;>cases g<;>simp at j1 j2 j3 j4 ⊢<;>omega
 | tq=>
   simp only[mv,List.mem_cons,Prod.mk.injEq,List.not_mem_nil,or_false]at a
   rcases a with⟨rfl,rfl⟩|⟨rfl,rfl⟩
   all_goals refine key _ _ rfl trivial ?_ ?_ ?_ ?_<;>simp[bC,ed,bP,bQ,kP,cj,fG]at H A P G U D R M O W Q E T F ⊢<;>cases d<;>cases f<;>cases g<;>simp at j1 j2 j3 j4 ⊢<;>omega
 | up sv=>
   simp only[mv]at a;split at a
   . rename_i c
     subst c;obtain⟨r,w,t,B⟩:=j3 rfl;simp[kP]at E;have J:d=false:=by cases d<;>simp at t ⊢;omega
     subst J;subst r;have hN:X≠0:=by omega
     simp only[Bool.false_or,hN,decide_false,Bool.false_eq_true,if_false,List.mem_singleton,Prod.mk.injEq]at a;obtain⟨rfl,rfl⟩:=a;refine key _ _ rfl trivial ?_ ?_ ?_ ?_<;>simp[bC,ed,bP,bQ,kP,cj,fG]at H A P G U D R t j1 ⊢<;>omega
   . rename_i c
     simp at c;subst c;simp only[List.mem_singleton,Prod.mk.injEq]at a;obtain⟨rfl,rfl⟩:=a;obtain⟨r,w,t⟩:=j2 rfl;simp[kP]at E;have Y:f=true:=by cases f<;>simp at r ⊢;omega
     subst Y;obtain⟨l0,l1,l2,l3,l4,l5,l6,l7⟩:=Gc (l:=⟨true,sv,0⟩) (old:=⟨d,true,false,X⟩) (λ_=>rfl) (by simp) (λ_=>rfl)
     rw[l1]at A;rw[l2]at H;rw[l3]at P;rw[l4]at G;rw[l5]at U;rw[l6]at D;rw[l7]at R;refine key _ _ rfl l0 ?_ ?_ ?_ ?_<;>simp[bC,ed,bP,bQ,kP,cj,fG]at H A P G U D R r ⊢<;>cases d<;>simp at j1 j4 ⊢<;>omega
 | add old sv=>
   simp only[mv,List.mem_singleton,Prod.mk.injEq]at a;obtain⟨rfl,rfl⟩:=a;simp[cj]at T
   have hS:g=true:=by
    cases g with
    |true=>rfl
    |false=>have:=(j2 rfl).2.1;omega
   subst hS;obtain⟨r,w,t,B⟩:=j3 rfl;have J:d=false:=by cases d<;>simp at t ⊢;omega
   subst J;subst r;generalize hb:(true && !(!sv||decide (old.N=1)))=b at key ⊢
   refine key _ _ rfl trivial ?_ ?_ ?_ ?_<;>simp[bC,ed,bP,bQ,kP,cj,fG]at H A P G U D R t j1 ⊢<;>cases b<;>(try simp)<;>omega
 | held=>
   simp[bC]at M;have J:d=true:=by cases d<;>simp at j1 ⊢;omega
   subst J;simp only[mv,Bool.true_eq_false,if_false,List.mem_singleton,Prod.mk.injEq]at a;obtain⟨k,rfl⟩:=a;split at k
   . rename_i c
     simp only[Wd.zero,Wd.mk.injEq,true_and]at c;obtain⟨rfl,rfl,rfl⟩:=c;subst k;refine key _ _ rfl trivial ?_ ?_ ?_ ?_<;>simp[bC,ed,bP,bQ,kP,cj,fG]at *<;>omega
   split at k
   . rename_i c
     have c:g=true:=c;subst c;subst k;obtain⟨r,w,t,B⟩:=j3 rfl;subst r;refine key _ _ rfl trivial ?_ ?_ ?_ ?_<;>simp[bC,ed,bP,bQ,kP,cj,fG]at H A P G U D R j1 t ⊢<;>omega
   split at k
   . rename_i a7 v c
     simp at v;subst v;subst k;refine key _ _ rfl trivial ?_ ?_ ?_ ?_<;>simp[bC,ed,bP,bQ,kP,cj,fG]at *<;>cases f<;>simp at *<;>omega
   . rename_i a7 v c
     simp at v c;subst v;subst k;refine key _ _ rfl (by simp[loc,c]) ?_ ?_ ?_ ?_<;>simp[bC,ed,bP,bQ,kP,cj,fG]at *<;>simp[c]at *<;>omega
 | gJ old=>
   obtain⟨oL,oK,oS,oN⟩:=old;obtain⟨x,y,C,V⟩:=z;simp only at x y C V;subst x;subst y;subst C;simp only[mv]at a;split at a
   . rename_i c
     simp only[Wd.mk.injEq]at c;obtain⟨rfl,rfl,rfl,rfl⟩:=c;simp only[List.mem_singleton,Prod.mk.injEq]at a;obtain⟨rfl,rfl⟩:=a;refine key _ _ rfl trivial ?_ ?_ ?_ ?_<;>simp[bC,ed,bP,bQ,kP,cj,fG]at *<;>omega
   . simp only[List.mem_singleton,Prod.mk.injEq]at a
     obtain⟨rfl,rfl⟩:=a;refine key _ _ rfl trivial ?_ ?_ ?_ ?_<;>simp[bC,ed,bP,bQ,kP,cj,fG]at H A P G U D R F ⊢<;>cases d<;>cases f<;>cases g<;>simp at j1 j2 j3 j4 ⊢<;>omega
 | sB=>
   simp only[mv,List.mem_singleton,Prod.mk.injEq]at a;obtain⟨k,rfl⟩:=a;split at k
   . rename_i c
     subst k;refine key _ _ rfl trivial ?_ ?_ ?_ ?_<;>simp[bC,ed,bP,bQ,kP,cj,fG]at H A P G U D R F c ⊢<;>cases d<;>cases f<;>cases g<;>simp at j1 j2 j3 j4 c ⊢<;>omega
   . rename_i c
     simp at c;subst k;obtain⟨⟨⟨z1,z2⟩,z3⟩,z4⟩:=c;subst z2;subst z3;subst z4;refine key _ _ rfl (by simp[loc,z1]) ?_ ?_ ?_ ?_<;>simp[bC,ed,bP,bQ,kP,cj,fG]at *<;>omega
 |give=>simp only[mv,List.mem_singleton,Prod.mk.injEq]at a;obtain⟨rfl,rfl⟩:=a;refine key _ _ rfl trivial ?_ ?_ ?_ ?_<;>simp[bC,ed,bP,bQ,kP,cj,fG]at H A P G U D R Q ⊢<;>cases d<;>cases f<;>cases g<;>simp at j1 j2 j3 j4 ⊢<;>omega
structure Inv(n:Nat)(pcs:Nat->Pc)(s:Sh):Prop extends Inv0 n pcs s where
 j5:s.w.S=true->s.w.N≠0
 j6:∀i,i<n->∀old sv,pcs i=.add old sv->old.N<=s.w.N/\old.N≠0
theorem Inv0.KX{n:Nat}{pcs:Nat->Pc}{s:Sh}(h:Inv0 n pcs s){i:Nat}(a:i<n){old:Wd}{sv:Bool}(b:pcs i=.add old sv):s.w.S=true/\tot n (λi=>cj (pcs i))<=1:=by
 have d:cj (pcs i)=1:=by rw[b];rfl
 have f:cj (pcs i)<=tot n (λi=>cj (pcs i)):=gf (λi=>cj (pcs i)) a
 cases e:s.w.S with
 |true=>refine⟨rfl,?_⟩;have:=(h.j3 e).2.2.1;cases c:s.w.L<;>rw[c]at this<;>simp at this<;>omega
 |false=>have:=(h.j2 e).2.1;omega
theorem Inv0.add_one{n:Nat}{pcs:Nat->Pc}{s:Sh}(h:Inv0 n pcs s){i l:Nat}(d:i<n)(g:l<n){old a:Wd}{sv b:Bool}(f:pcs i=.add old sv)(c:pcs l=.add a b):i=l:=by
 by_cases e:i=l
 . exact e
 . have m:=(h.KX d f).2
   have o:=eQ cj pcs i .out d;have k:cj (set pcs i .out l)<=tot n (λj=>cj (set pcs i .out j)):=gf (λj=>cj (set pcs i .out j)) g
   rw[aj pcs Pc.out (Ne.symm e)]at k;have p:cj (pcs i)=1:=by rw[f];rfl
   have q:cj (pcs l)=1:=by rw[c];rfl
   have r:cj .out=0:=rfl;omega
theorem Inv.step{n:Nat}{pcs:Nat->Pc}{s s':Sh}{i:Nat}{q:Pc}(h:Inv n pcs s)(m:i<n)(b:(q,s')∈mv (pcs i) s):Inv n (set pcs i q) s':=by
 have p:=h.j0 i m
 have key : (s'.w.S=true->s'.w.N≠0)/\(s.w.N<=s'.w.N\/(∃old sv,pcs i=.add old sv)\/s.w.S=false)/\(∀old sv,q=.add old sv->old.N<=s'.w.N/\old.N≠0):=by
  have c:=h.j5;have r:=h.j6 i m;revert b p r;cases pcs i with
  |out=>intro b;simp[mv]at b
  |bad=>intro b;simp[mv]at b
  | fF=>
    intro b _ _;simp only[mv]at b;split at b
    . rename_i f
      simp at b;obtain⟨rfl,rfl⟩:=b;exact⟨λh=>(by cases h),.inr (.inr (by rw[f];rfl)),λold sv h=>(by cases h)⟩
    . simp at b;obtain⟨rfl,rfl⟩:=b
      exact⟨c,.inl (Nat.le_refl _),λold sv h=>by cases h⟩
  |rd l=>intro b _ _;simp[mv]at b;obtain⟨rfl,rfl⟩:=b;exact⟨c,.inl (Nat.le_refl _),λold sv h=>by unfold nx at h;split at h<;>cases h⟩
  | sq o l=>
    intro b _ _;simp only[mv,List.mem_map,Prod.mk.injEq]at b;obtain⟨a,d,rfl,rfl⟩:=b;refine⟨c,.inl (Nat.le_refl _),λold sv h=>?_⟩;subst h;unfold hd at d;simp only[List.mem_append,List.mem_singleton]at d;rcases d with d|d
    . split at d
      . simp only[List.mem_singleton]at d
        split at d<;>cases d
      . cases d
    . cases d
  | sw o l=>
    intro b _ _;simp only[mv]at b;split at b
    . rename_i f
      simp at b;obtain⟨rfl,rfl⟩:=b;rw[f]at c;exact⟨c,.inl (by rw[f];exact Nat.le_refl _),λold sv h=>by cases h⟩
    . simp at b;obtain⟨rfl,rfl⟩:=b
      exact⟨c,.inl (Nat.le_refl _),λold sv h=>by cases h⟩
  | jh o l =>
    intro b _ _;simp only[mv]at b;split at b
    . simp at b;obtain⟨rfl,rfl⟩:=b
      exact⟨c,.inl (Nat.le_refl _),λold sv h=>by cases h⟩
    . split at b
      . rename_i f
        simp at b;obtain⟨rfl,rfl⟩:=b;rw[f]at c ⊢;refine⟨λh=>?_,.inl ?_,λold sv h=>by split at h<;>cases h⟩
        . unfold m7 at h ⊢
          simp only at h ⊢;split
          . omega
          . rename_i v
            cases B:o.L<;>cases t:o.S<;>simp_all
        . unfold m7
          simp only;split<;>omega
      . simp at b;obtain⟨rfl,rfl⟩:=b
        exact⟨c,.inl (Nat.le_refl _),λold sv h=>by cases h⟩
  | eY sv=>
    intro b _ _;simp only[mv]at b;split at b
    . cases b
    . simp at b;obtain⟨rfl,rfl⟩:=b
      exact⟨c,.inl (Nat.le_refl _),λold sv h=>by split at h<;>cases h⟩
  | tq=>
    intro b _ _;simp[mv]at b;rcases b with⟨rfl,rfl⟩|⟨rfl,rfl⟩<;>exact⟨c,.inl (Nat.le_refl _),λold sv h=>by cases h⟩
  | up sv=>
    intro b _ _;simp only[mv]at b;split at b
    . split at b
      . simp at b;obtain⟨rfl,rfl⟩:=b
        exact⟨c,.inl (Nat.le_refl _),λold sv h=>by cases h⟩
      . rename_i hb
        simp at b;obtain⟨rfl,rfl⟩:=b;refine⟨c,.inl (Nat.le_refl _),λold sv h=>?_⟩;cases h;simp at hb;exact⟨Nat.le_refl _,hb.2⟩
    . simp at b;obtain⟨rfl,rfl⟩:=b
      exact⟨c,.inl (Nat.le_refl _),λold sv h=>by unfold nx at h;split at h<;>cases h⟩
  | add o sv=>
    intro b _ r;simp[mv]at b;obtain⟨rfl,rfl⟩:=b;obtain⟨x,u⟩:=r o sv rfl;refine⟨λh=>?_,.inr (.inl ⟨o,sv,rfl⟩),λold sv h=>by cases h⟩;simp at h ⊢;omega
  | held=>
    intro b _ _;simp only[mv]at b;split at b
    . simp at b;obtain⟨rfl,rfl⟩:=b
      exact⟨c,.inl (Nat.le_refl _),λold sv h=>by cases h⟩
    . simp only[List.mem_singleton,Prod.mk.injEq]at b;obtain⟨rfl,rfl⟩:=b
      refine⟨c,.inl (Nat.le_refl _),λold sv h=>?_⟩;split at h
      . cases h
      . split at h
        . cases h
        . split at h<;>cases h
  | gJ o=>
    intro b p _;simp only[mv]at b;split at b
    . rename_i f
      simp at b;obtain⟨rfl,rfl⟩:=b;have t:o.S=false:=p.2.2.1;exact⟨λh=>by simp[t]at h,.inr (.inr (by rw[f];exact t)),λold sv h=>by cases h⟩
    . simp at b;obtain⟨rfl,rfl⟩:=b
      exact⟨c,.inl (Nat.le_refl _),λold sv h=>by cases h⟩
  |sB=>intro b _ _;simp only[mv,List.mem_singleton,Prod.mk.injEq]at b;obtain⟨rfl,rfl⟩:=b;exact⟨c,.inl (Nat.le_refl _),λold sv h=>by split at h<;>cases h⟩
  |give=>intro b _ _;simp[mv]at b;obtain⟨rfl,rfl⟩:=b;exact⟨c,.inl (Nat.le_refl _),λold sv h=>by cases h⟩
 obtain⟨y,g,z⟩:=key;refine⟨h.toInv0.step m b,y,λl j old sv k=>?_⟩;by_cases e:l=i
 . subst e
   rw[an]at k;exact z old sv k
 . rw[aj pcs q e]at k
   obtain⟨x,u⟩:=h.j6 l j old sv k;refine⟨?_,u⟩;rcases g with g|⟨o,A,g⟩|g
   . omega
   . exact absurd (h.toInv0.add_one m j g k) (Ne.symm e)
   . rw[(h.toInv0.KX j k).1]at g;cases g
theorem xQ:∀n:Nat,tot n (λ_=>0)=0
 |0=>rfl
 |n+1=>by rw[tot,xQ n]
theorem Inv.rest{n:Nat}{pcs:Nat->Pc}{s:Sh}(h:Inv n pcs s)(j:∀i,i<n->pcs i=.out):s.w=.zero/\s.ms=0:=by
 have f:∀(F:Pc->Nat),F .out=0->tot n (λi=>F (pcs i))=0:=λF k=>by
  have:tot n (λi=>F (pcs i))=tot n (λ_=>0):=qH λi l=>by rw[j i l,k]
  rw[this];exact xQ n
 have L:s.w.L=false:=by
  have:=h.j1;rw[f bC rfl]at this;cases e:s.w.L with
  |false=>rfl
  |true=>rw[e]at this;cases this
 have S:s.w.S=false:=by
  cases e:s.w.S with
  |false=>rfl
  |true=>have:=(h.j3 e).2.2.2;rw[f bP rfl,f kP rfl,f cj rfl]at this;exact absurd this.symm (h.j5 e)
 obtain⟨g,p,m⟩:=h.j2 S;rw[f ed rfl,f bQ rfl,f kP rfl]at g;rw[f bP rfl,f bQ rfl]at m
 have K:s.w.K=false:=by
  cases e:s.w.K with
  |false=>rfl
  |true=>rw[e]at g;simp at g;omega
 refine⟨?_,by omega⟩;have N:s.w.N=0:=by omega
 cases o:s.w with
 |mk a b c d=>rw[o]at L S K N;simp only at L S K N;subst L;subst S;subst K;subst N;rfl
def eZ:Pc->Nat
 |.out=>0
 |.fF=>6
 |.rd l=>if l.aw then 5 else 6
 |.sq _ l=>if l.aw then 5 else 6
 |.sw _ _=>6
 |.jh _ l=>if l.aw then 5 else 6
 |.eY _=>4
 |.tq=>5
 |.up _=>5
 |.add _ _=>5
 |.held=>3
 |.gJ _=>2
 |.sB=>2
 |.give=>1
 |.bad=>0
def io(w:Wd):Pc->Nat
 |.out=>0
 |.fF=>16
 |.rd l=>3+3*(4-l.it)
 |.sq old l=>if w=old then 2+3*(4-l.it)else 5+3*(4-l.it)
 |.sw old l=>if w=old then 1 else 4+3*(3-l.it)
 |.jh old l=>if w=old then 1 else 4+3*(4-l.it)
 |.eY _=>18
 |.tq=>17
 |.up _=>16
 |.add _ _=>1
 |.held=>1
 |.gJ old=>if w=old then 1 else 4
 |.sB=>3
 |.give=>1
 |.bad=>0
theorem Jr(w:Wd)(p:Pc):io w p<=18:=by cases p<;>simp[io]<;>(try split)<;>omega
theorem Bj{f:Nat->Nat}{c:Nat}(h:∀i,f i<=c):∀n,tot n f<=n*c
 |0=>by simp[tot]
 |n+1=>by have:=Bj h n;have:=h n;rw[tot,Nat.succ_mul];omega
def phi(n:Nat)(pcs:Nat->Pc)(s:Sh):Nat:=tot n (λi=>eZ (pcs i))+s.ms
def meas(n:Nat)(pcs:Nat->Pc)(s:Sh):Nat:=phi n pcs s*(18*n+1)+tot n (λi=>io s.w (pcs i))
theorem Js{p q:Pc}{s s':Sh}(f:loc p)(h:(q,s')∈mv p s):eZ q+s'.ms<eZ p+s.ms\/(s'.w=s.w/\eZ q+s'.ms<=eZ p+s.ms/\io s.w q<io s.w p):=by
 have g:∀(old:Wd) (l:Lo) (q:Pc),q∈hd old l->eZ q=eZ (.rd l)/\io s.w q<(if s.w=old then 2+3*(4-l.it)else 5+3*(4-l.it)):=λold l q b=>by
  unfold hd at b;simp only[List.mem_append,List.mem_singleton]at b
  rcases b with b|rfl
  . split at b
    . rename_i a
      simp at a;simp only[List.mem_singleton]at b;subst b;split
      . rename_i i
        simp at i;simp[eZ,io,i.1.1];split<;>omega
      . refine⟨rfl,?_⟩
        have:=a.2;simp[io];split<;>omega
    . simp at b
  . simp[eZ,io]
    split<;>omega
 have c:∀(l:Lo),eZ (nx s.w l)=eZ (.rd l)/\io s.w (nx s.w l)<3+3*(4-l.it):=λl=>by unfold nx;split<;>simp[eZ,io]<;>omega
 cases p with
 |out=>simp[mv]at h
 |bad=>simp[mv]at h
 |fF=>simp only[mv]at h;split at h<;>simp only[List.mem_singleton,Prod.mk.injEq]at h<;>obtain⟨rfl,rfl⟩:=h<;>simp[eZ,io]
 |rd l=>simp only[mv,List.mem_singleton,Prod.mk.injEq]at h;obtain⟨rfl,rfl⟩:=h;obtain⟨d,e⟩:=c l;exact .inr ⟨rfl,by rw[d];exact Nat.le_refl _,e⟩
 |sq old l=>simp only[mv,List.mem_map,Prod.mk.injEq]at h;obtain⟨m,b,rfl,rfl⟩:=h;obtain⟨d,e⟩:=g old l _ b;exact .inr ⟨rfl,by rw[d];exact Nat.le_refl _,e⟩
 | sw old l=>
   have j:=f.1;have n:=f.2.2.2.2.2;simp only[mv]at h;split at h<;>rename_i a<;>simp only[List.mem_singleton,Prod.mk.injEq]at h<;>obtain⟨rfl,rfl⟩:=h
   . simp[eZ,io]
   . refine .inr ⟨rfl,by simp[eZ,j],?_⟩
     simp[io,a]
 | jh old l=>
   simp only[mv]at h;split at h
   . rename_i a
     simp at a;have:=f.1 a.1;rw[this]at a;simp at a
   split at h<;>rename_i a<;>simp only[List.mem_singleton,Prod.mk.injEq]at h
   . obtain⟨rfl,rfl⟩:=h
     left;split<;>simp only[eZ]<;>split<;>omega
   . obtain⟨rfl,rfl⟩:=h
     exact .inr ⟨rfl,by simp[eZ,io,a]⟩
 | eY sv=>
   simp only[mv]at h;split at h
   . simp at h
   . simp only[List.mem_singleton,Prod.mk.injEq]at h
     obtain⟨rfl,rfl⟩:=h;cases sv<;>exact .inr ⟨rfl,by simp[eZ];omega,by simp[io]⟩
 | tq=>
   simp only[mv,List.mem_cons,Prod.mk.injEq,List.not_mem_nil,or_false]at h
   rcases h with⟨rfl,rfl⟩|⟨rfl,rfl⟩<;>exact .inr ⟨rfl,by simp[eZ,io]⟩
 | up sv=>
   simp only[mv]at h;split at h
   . split at h<;>simp only[List.mem_singleton,Prod.mk.injEq]at h<;>obtain⟨rfl,rfl⟩:=h<;>exact .inr ⟨rfl,by simp[eZ,io]⟩
   . simp only[List.mem_singleton,Prod.mk.injEq]at h
     obtain⟨rfl,rfl⟩:=h;obtain⟨d,e⟩:=c ⟨true,sv,0⟩;refine .inr ⟨rfl,by rw[d];simp[eZ],?_⟩
     have k:∀w,io w (.up sv)=16:=λ_=>rfl
     rw[k];simp only at e;omega
 |add old sv=>simp only[mv,List.mem_singleton,Prod.mk.injEq]at h;obtain⟨rfl,rfl⟩:=h;exact .inl (by simp[eZ])
 | held=>
   simp only[mv]at h;left;split at h
   . simp only[List.mem_singleton,Prod.mk.injEq]at h;obtain⟨rfl,rfl⟩:=h;simp[eZ]
   . simp only[List.mem_singleton,Prod.mk.injEq]at h
     obtain⟨rfl,rfl⟩:=h;split
     . simp[eZ]
     split
     . simp[eZ]
     split<;>simp[eZ]
 | gJ old=>
   simp only[mv]at h;split at h<;>rename_i a<;>simp only[List.mem_singleton,Prod.mk.injEq]at h<;>obtain⟨rfl,rfl⟩:=h
   . simp[eZ]
   . exact .inr ⟨rfl,by simp[eZ,io,a]⟩
 | sB=>
   simp only[mv,List.mem_singleton,Prod.mk.injEq]at h;obtain⟨rfl,rfl⟩:=h;split
   . left;simp[eZ]
   . exact .inr ⟨rfl,by simp[eZ,io]⟩
 |give=>simp only[mv,List.mem_singleton,Prod.mk.injEq]at h;obtain⟨rfl,rfl⟩:=h;exact .inr ⟨rfl,by simp[eZ];omega,by simp[io]⟩
theorem DF{n:Nat}{pcs:Nat->Pc}{s s':Sh}{i:Nat}{q:Pc}(a:i<n)(d:loc (pcs i))(e:(q,s')∈mv (pcs i) s):meas n (set pcs i q) s'<meas n pcs s/\phi n (set pcs i q) s'<=phi n pcs s:=by
 have C:=eQ eZ pcs i q a;have k:=gf (λj=>eZ (pcs j)) a;rcases Js d e with h|⟨g,l,m⟩
 . have b:phi n (set pcs i q) s'+1<=phi n pcs s:=by unfold phi;omega
   refine⟨?_,by omega⟩;have o:=Bj (f:=λj=>io s'.w (set pcs i q j)) (c:=18) (λj=>Jr _ _) n;have:=Nat.mul_le_mul_right (18*n+1) b;rw[Nat.add_mul]at this;unfold meas;omega
 . have b:phi n (set pcs i q) s'<=phi n pcs s:=by unfold phi;omega
   refine⟨?_,b⟩;have R:=eQ (io s.w) pcs i q a;have p:=gf (λj=>io s.w (pcs j)) a;have:=Nat.mul_le_mul_right (18*n+1) b;unfold meas;rw[g];omega
theorem Inv.alive{n:Nat}{pcs:Nat->Pc}{s:Sh}(h:Inv n pcs s)(b:∀i,i<n->pcs i=.out\/∃sv,pcs i=.eY sv)(a:s.ms=0):∀i,i<n->pcs i=.out:=by
 have z:∀(f:Pc->Nat),f .out=0->(∀sv,f (.eY sv)=0)->tot n (λi=>f (pcs i))=0:=λf d g=>by
  have:∀m,m<=n->tot m (λi=>f (pcs i))=0:=λm=>by
   induction m with
   |zero=>intro _;rfl
   | succ m j=>
     intro a;rw[tot,j (by omega)]
     rcases b m (by omega)with e|⟨sv,e⟩<;>rw[e]<;>simp[d,g]
  exact this n (Nat.le_refl _)
 have k:=z bC rfl λ_=>rfl
 have l:=z ed rfl λ_=>rfl
 have o:=z bQ rfl λ_=>rfl
 have p:=z kP rfl λ_=>rfl
 have q:=z cj rfl λ_=>rfl
 have r:=z fG rfl λ_=>rfl
 have j1:=h.j1;have j2:=h.j2;have j3:=h.j3;have j4:=h.j4
 have t:tot n (λi=>bP (pcs i))=0:=by obtain⟨⟨u,v,w,x⟩,ms⟩:=s;simp only at j1 j2 j3 j4 a;subst a;cases u<;>cases v<;>cases w<;>simp[k,l,o,p,q,r]at j1 j2 j3 j4 ⊢<;>omega
 intro i c
 rcases b i c with e|⟨sv,e⟩
 . exact e
 . have:=yY t i c
   rw[e]at this;simp[bP]at this
end Go.bG.Mu
namespace Go.bG
open Go.Conc
def kQ{α:Type}(P:Program):Sem α->Option α
 |.pure a=>some a
 |.program f=>kQ P (f P)
 |_=>none
theorem Gd{α:Type}{P:Program}(s:Sem α):∀{a:α},kQ P s=some a->∀w es,s.runT P w es=(.ok a w,es):=by
 induction s with
 |pure b=>intro a h w es;simp only[kQ,Option.some.injEq]at h;subst h;rfl
 |program f c=>intro a h w es;simp only[kQ]at h;simp only[Sem.runT];exact c P h w es
 |_=>intro a h;simp[kQ]at h
theorem jU{α β:Type}{P:Program}{f:α->Sem β}(s:Sem α):∀{a:α},kQ P s=some a->kQ P (s.bind f)=kQ P (f a):=by
 induction s with
 |pure b=>intro a h;simp only[kQ,Option.some.injEq]at h;subst h;rfl
 |program g c=>intro a h;simp only[kQ]at h;exact c P h
 |_=>intro a h;simp[kQ]at h
def enc(L K S:Bool)(N:Int):Int:=8*N+(L.toNat+2*K.toNat+4*S.toNat:Nat)
theorem xR{L K S:Bool}{N:Int}(h:0<=N):enc L K S N=((8*N.toNat+(L.toNat+2*K.toNat+4*S.toNat):Nat):Int):=by
 unfold enc;have:(N.toNat:Int)=N:=Int.toNat_of_nonneg h
 push_cast
 omega
theorem Pr{N:Nat}{b m:Nat}(hb:b<8)(a:m<8):(8*N+b) &&& m=b &&& m:=by
 have d:m=m % 2 ^ 3:=by omega
 apply Nat.eq_of_testBit_eq;intro i;simp only[Nat.testBit_and];by_cases c:i<3
 . congr 1
   have:=Nat.testBit_two_pow_mul_add (i:=3) N (b:=b) (by omega) i;simp only[c,if_true]at this;exact this
 . have:m.testBit i=false:=Nat.testBit_lt_two_pow (Nat.lt_of_lt_of_le a (by
    have:2 ^ 3<=2 ^ i:=Nat.pow_le_pow_right (by omega) (by omega);omega))
   rw[this];simp
theorem Jt{N:Nat}{b m:Nat}(hb:b<8)(g:m<8):(8*N+b)|||m=8*N+(b|||m):=by
 have e:=Nat.two_pow_add_eq_or_of_lt (i:=3) (b:=b) (by omega) N;have a:b|||m<2 ^ 3:=Nat.or_lt_two_pow (by omega) (by omega);have d:=Nat.two_pow_add_eq_or_of_lt (i:=3) (b:=b|||m) a N;have f:8*N+b=2 ^ 3*N|||b:=e;have c:8*N+(b|||m)=2 ^ 3*N|||(b|||m):=d;rw[f,c,Nat.or_assoc]
def Ps(N:Int):Prop:=0<=N/\N<=1000000
theorem Ju{L K S:Bool}{N:Int}(h:Ps N){m:Nat}(a:m<8):bits .and .i32 (enc L K S N) (m:Int)=(((L.toNat+2*K.toNat+4*S.toNat) &&& m:Nat):Int):=by
 have hb:L.toNat+2*K.toNat+4*S.toNat<8:=by cases L<;>cases K<;>cases S<;>decide
 rw[xR h.1,(bits_nat .i32 31 (by decide) wraps_i32 _ m (by have:=h.2;omega) (by omega)).1,Pr hb a]
theorem LF{L K S:Bool}{N:Int}(h:Ps N){m:Nat}(a:m<8):bits .or .i32 (enc L K S N) (m:Int)=((8*N.toNat+((L.toNat+2*K.toNat+4*S.toNat)|||m):Nat):Int):=by
 have hb:L.toNat+2*K.toNat+4*S.toNat<8:=by cases L<;>cases K<;>cases S<;>decide
 rw[xR h.1,(bits_nat .i32 31 (by decide) wraps_i32 _ m (by have:=h.2;omega) (by omega)).2,Jt hb a]
theorem Pt{a b c d:Nat}(hb:b<8)(hd:d<8):(8*a+b) &&& (8*c+d)=8*(a &&& c)+(b &&& d):=by
 apply Nat.eq_of_testBit_eq;intro i;have f:=Nat.testBit_two_pow_mul_add (i:=3) a (b:=b) (by omega) i;have g:=Nat.testBit_two_pow_mul_add (i:=3) c (b:=d) (by omega) i;have h:=Nat.testBit_two_pow_mul_add (i:=3) (a &&& c) (b:=b &&& d) (by have:=Nat.and_le_left (n:=b) (m:=d);omega) i;have e:(2:Nat) ^ 3=8:=rfl;rw[e]at f g h;rw[Nat.testBit_and,f,g,h];split<;>simp
theorem yZ{L K S:Bool}{N:Int}(h:Ps N):bits .andNot .i32 (enc L K S N) 2=enc L false S N:=by
 have hb:L.toNat+2*K.toNat+4*S.toNat<8:=by cases L<;>cases K<;>cases S<;>decide
 have e:((N.toNat:Nat):Int)=N:=Int.toNat_of_nonneg h.1;have f:=h.2
 have a:(BitVec.ofInt 32 (enc L K S N)).toNat=8*N.toNat+(L.toNat+2*K.toNat+4*S.toNat):=by rw[xR h.1,BitVec.ofInt_natCast,BitVec.toNat_ofNat];exact Nat.mod_eq_of_lt (by omega)
 have b:(~~~(BitVec.ofInt 32 2)).toNat=8*536870911+5:=by decide
 have c:N.toNat &&& 536870911=N.toNat:=by
  have:=Nat.and_two_pow_sub_one_eq_mod N.toNat 29;rw[show 2 ^ 29-1=536870911 from rfl]at this
  rw[this];exact Nat.mod_eq_of_lt (by omega)
 have d:(L.toNat+2*K.toNat+4*S.toNat) &&& 5=L.toNat+4*S.toNat:=by cases L<;>cases K<;>cases S<;>decide
 show IntKind.i32.wrap ((BitVec.ofInt 32 (enc L K S N) &&& ~~~(BitVec.ofInt 32 2)).toNat:Int)=_;rw[BitVec.toNat_and,a,b,Pt hb (by omega),c,d,wraps_i32 _ (Int.natCast_nonneg _) (by cases L<;>cases S<;>simp[Bool.toNat]<;>omega)]
 unfold enc;cases L<;>cases S<;>simp[Bool.toNat]<;>omega
def dm(c:Int)(w:Nat):Int:=c*4294967296+w
inductive SV where
 |bz
 |lit (v:Value)
 |word (L K S:Bool) (δ:Int)
 |cnt
 |dm (w:Nat)
 |CE
 |DG
 |DH
 |now
 |NI
structure Fl where
 n0:Bool
 n1:Bool
 c0:Bool
 c1:Bool
 wz:Bool
 tb:Bool
structure Sy where
 N:Int
 c:Int
 ws:Int
 tn:Int
structure Fl.At(f:Fl)(y:Sy):Prop where
 hN:0<=y.N/\y.N<=1000
 hc:0<=y.c/\y.c<=1000
 n0:f.n0=decide (y.N=0)
 n1:f.n1=decide (y.N=1)
 c0:f.c0=decide (y.c=0)
 c1:f.c1=decide (y.c=1)
 wz:f.wz=decide (y.ws=0)
 tb:f.tb=decide (IntKind.i64.wrap (y.tn-y.ws)>1000000)
def SR(y:Sy):SV->Value->Prop
 |.bz,_=>True
 |.lit v,x=>x=v
 |.word L K S a,x=>x=.int .i32 (enc L K S (y.N+a))/\0<=y.N+a/\a<=2
 |.cnt,x=>x=.int .i32 y.N
 |.dm w,x=>x=.int .u64 (dm y.c w)
 |.CE,x=>x=.int .u64 y.c
 |.DG,x=>x=.int .i32 y.c
 |.DH,x=>x=.int .i64 y.ws
 |.now,x=>x=.int .i64 y.tn
 |.NI,x=>x=.int .i64 (IntKind.i64.wrap (y.tn-y.ws))
def Ge(f:Fl)(op:BinOp)(a b:SV):Option SV:=
 match op,a,b with
 |.and,.word L K S c,.lit (.int .i32 m)=>if 0<=m/\m<8 then some (.lit (.int .i32 (((L.toNat+2*K.toNat+4*S.toNat) &&& m.toNat:Nat):Int)))else none
 |.or,.word L K S c,.lit (.int .i32 m)=>if m=1 then some (.word true K S c)else if m=2 then some (.word L true S c)else if m=4 then some (.word L K true c)else none
 |.andNot,.word L K S c,.lit (.int .i32 m)=>if m=2 then some (.word L false S c)else none
 |.add,.word L K S c,.lit (.int .i32 m)=>if m=8 then(if c<=1 then some (.word L K S (c+1))else none)else if m=1 then(if L=false then some (.word true K S c)else none)else none
 |.sub,.word L K S c,.lit (.int .i32 m)=>if m=8/\c=0/\f.n0=false then some (.word L K S (-1))else none
 |.shr,.word _ _ _ c,.lit (.int .u64 m)=>if m=3/\c=0 then some .cnt else none
 |.eql,.word L K S c,.lit (.int .i32 m)=>if m=0/\c=0 then some (.lit (.bool (!L && !K && !S && f.n0)))else none
 |.neq,.word L K S c,.lit (.int .i32 m)=>if m=0/\c=0 then some (.lit (.bool !(!L && !K && !S && f.n0)))else none
 |.eql,.cnt,.lit (.int .i32 m)=>if m=0 then some (.lit (.bool f.n0))else if m=1 then some (.lit (.bool f.n1))else none
 |.neq,.cnt,.lit (.int .i32 m)=>if m=0 then some (.lit (.bool !f.n0))else if m=1 then some (.lit (.bool !f.n1))else none
 |.and,.dm w,.lit (.int .u64 m)=>if m=2147483648/\w<=1000 then some (.lit (.int .u64 0))else if m=2147483647/\w<=1000 then some (.lit (.int .u64 w))else none
 |.shr,.dm w,.lit (.int .u64 m)=>if m=32/\w<=1000 then some .CE else none
 |.eql,.DG,.lit (.int .i32 m)=>if m=0 then some (.lit (.bool f.c0))else if m=1 then some (.lit (.bool f.c1))else if m=-1 then some (.lit (.bool false))else none
 |.lss,.DG,.lit (.int .i32 m)=>if m=0 then some (.lit (.bool false))else none
 |.gtr,.DG,.lit (.int .i32 m)=>if m=0 then some (.lit (.bool !f.c0))else none
 |.neq,.dm w,.dm d=>if w=d then some (.lit (.bool false))else none
 |.neq,.dm w,.lit (.int .u64 m)=>if m=0 then some (.lit (.bool !(f.c0 && decide (w=0))))else none
 |.add,.dm w,.lit (.int .u64 m)=>if m=1/\w<=1000 then some (.dm (w+1))else none
 |.eql,.DH,.lit (.int .i64 m)=>if m=0 then some (.lit (.bool f.wz))else none
 |.neq,.DH,.lit (.int .i64 m)=>if m=0 then some (.lit (.bool !f.wz))else none
 |.sub,.now,.DH=>some .NI
 |.gtr,.NI,.lit (.int .i64 m)=>if m=1000000 then some (.lit (.bool f.tb))else none
 |_,_,_=>none
theorem gq{n:Int}(a:-2147483648<=n)(b:n<2147483648):IntKind.i32.wrap n=n:=by rw[IntKind.wrap_i32];omega
theorem iU{n:Int}(a:0<=n)(b:n<18446744073709551616):IntKind.u64.wrap n=n:=by simp[IntKind.wrap,IntKind.bits,IntKind.signed];omega
theorem jV{L K S:Bool}{N:Int}:8*N<=enc L K S N/\enc L K S N<=8*N+7:=by unfold enc;cases L<;>cases K<;>cases S<;>simp[Bool.toNat]<;>omega
theorem tT{L K S:Bool}{N:Int}(h:0<=N):enc L K S N=0↔(L=false/\K=false/\S=false/\N=0):=by unfold enc;cases L<;>cases K<;>cases S<;>simp[Bool.toNat]<;>omega
theorem sC(a b:Int):(a==b)=decide (a=b):=by by_cases h:a=b<;>simp[h]
theorem lz{a b c:Bool}{p q:Prop}[Decidable p][Decidable q](h:q↔(a=false/\b=false/\c=false/\p)):decide q=(!a && !b && !c && decide p):=by by_cases d:p<;>cases a<;>cases b<;>cases c<;>simp_all
set_option maxHeartbeats 1000000 in
theorem Jv{P:Program}{f:Fl}{y:Sy}(o:f.At y){op:BinOp}{t:TypeId}{a b r:SV}{x z:Value}(h:Ge f op a b=some r)(g:SR y a x)(hb:SR y b z):∃v,kQ P (binOp op t x z)=some v/\SR y r v:=by
 have hN:=o.hN;have hc:=o.hc;unfold Ge at h;split at h
 ·
  rename_i L K S j m;obtain⟨rfl,l,p⟩:=g;have hb:z=.int .i32 m:=hb;subst hb;split at h
  . rename_i d
    simp only[Option.some.injEq]at h;subst h;refine⟨.int .i32 (bits .and .i32 (enc L K S (y.N+j)) m),rfl,?_⟩;have e:m=(m.toNat:Int):=by omega
    show Value.int .i32 _=.int .i32 _;congr 1;rw[e];exact Ju ⟨l,by omega⟩ (by omega)
  . cases h
 ·
  rename_i L K S j m;obtain⟨rfl,l,p⟩:=g;have hb:z=.int .i32 m:=hb;subst hb;have q:∀k:Nat,k<8->bits .or .i32 (enc L K S (y.N+j)) (k:Int)=((8*(y.N+j).toNat+((L.toNat+2*K.toNat+4*S.toNat)|||k):Nat):Int):=λk D=>LF ⟨l,by omega⟩ D
  have I:(((y.N+j).toNat:Nat):Int)=y.N+j:=Int.toNat_of_nonneg l;split at h
  . rename_i d;subst d
    simp only[Option.some.injEq]at h;subst h;refine⟨.int .i32 (bits .or .i32 (enc L K S (y.N+j)) 1),rfl,?_,l,p⟩;congr 1;have:=q 1 (by omega)
    rw[show((1:Nat):Int)=1 from rfl]at this
    rw[this];unfold enc;cases L<;>cases K<;>cases S<;>simp[Bool.toNat]<;>omega
  split at h
  . rename_i d;subst d
    simp only[Option.some.injEq]at h;subst h;refine⟨.int .i32 (bits .or .i32 (enc L K S (y.N+j)) 2),rfl,?_,l,p⟩;congr 1;have:=q 2 (by omega)
    rw[show((2:Nat):Int)=2 from rfl]at this
    rw[this];unfold enc;cases L<;>cases K<;>cases S<;>simp[Bool.toNat]<;>omega
  split at h
  . rename_i d;subst d
    simp only[Option.some.injEq]at h;subst h;refine⟨.int .i32 (bits .or .i32 (enc L K S (y.N+j)) 4),rfl,?_,l,p⟩;congr 1;have:=q 4 (by omega)
    rw[show((4:Nat):Int)=4 from rfl]at this
    rw[this];unfold enc;cases L<;>cases K<;>cases S<;>simp[Bool.toNat]<;>omega
  . cases h
 ·
  rename_i L K S j m;obtain⟨rfl,l,p⟩:=g;have hb:z=.int .i32 m:=hb;subst hb;split at h
  . rename_i d;subst d
    simp only[Option.some.injEq]at h;subst h;refine⟨.int .i32 (bits .andNot .i32 (enc L K S (y.N+j)) 2),rfl,?_,l,p⟩;rw[yZ ⟨l,by omega⟩]
  . cases h
 ·
  rename_i L K S j m;obtain⟨rfl,l,p⟩:=g;have hb:z=.int .i32 m:=hb;subst hb;have s:=jV (L:=L) (K:=K) (S:=S) (N:=y.N+j);split at h
  . rename_i d;subst d
    split at h
    . simp only[Option.some.injEq]at h;subst h
      refine⟨.int .i32 (IntKind.i32.wrap (enc L K S (y.N+j)+8)),rfl,?_,by omega,by omega⟩
      rw[gq (by omega) (by omega)]
      congr 1;unfold enc;omega
    . cases h
  split at h
  . rename_i d;subst d
    split at h
    . rename_i E;subst E
      simp only[Option.some.injEq]at h;subst h;refine⟨.int .i32 (IntKind.i32.wrap (enc false K S (y.N+j)+1)),rfl,?_,l,p⟩;rw[gq (by omega) (by omega)]
      congr 1;unfold enc;simp[Bool.toNat];omega
    . cases h
  . cases h
 ·
  rename_i L K S j m;obtain⟨rfl,l,p⟩:=g;have hb:z=.int .i32 m:=hb;subst hb;have s:=jV (L:=L) (K:=K) (S:=S) (N:=y.N+j);split at h
  . rename_i d
    obtain⟨rfl,rfl,A⟩:=d;rw[o.n0]at A;simp at A;simp only[Option.some.injEq]at h;subst h;refine⟨.int .i32 (IntKind.i32.wrap (enc L K S (y.N+0)-8)),rfl,?_,by omega,by omega⟩
    rw[gq (by omega) (by omega)]
    congr 1;unfold enc;omega
  . cases h
 ·
  rename_i L K S j m;obtain⟨rfl,l,p⟩:=g;have hb:z=.int .u64 m:=hb;subst hb;have s:=jV (L:=L) (K:=K) (S:=S) (N:=y.N+j);split at h
  . rename_i d
    obtain⟨rfl,rfl⟩:=d;simp only[Option.some.injEq]at h;subst h;refine⟨.int .i32 ((enc L K S (y.N+0)).fdiv (2 ^ 3)),rfl,?_⟩;show Value.int .i32 _=.int .i32 _;congr 1;rw[Int.fdiv_eq_ediv_of_nonneg _ (by decide)]
    omega
  . cases h
 ·
  rename_i L K S j m;obtain⟨rfl,l,p⟩:=g;have hb:z=.int .i32 m:=hb;subst hb;split at h
  . rename_i d
    obtain⟨rfl,rfl⟩:=d;simp only[Option.some.injEq]at h;subst h;refine⟨.bool (enc L K S (y.N+0)==0),rfl,?_⟩;show Value.bool _=.bool _;congr 1;rw[o.n0,sC];have:=tT (L:=L) (K:=K) (S:=S) l;rw[Int.add_zero]at this ⊢;exact lz this
  . cases h
 ·
  rename_i L K S j m;obtain⟨rfl,l,p⟩:=g;have hb:z=.int .i32 m:=hb;subst hb;split at h
  . rename_i d
    obtain⟨rfl,rfl⟩:=d;simp only[Option.some.injEq]at h;subst h;refine⟨.bool (enc L K S (y.N+0)!=0),rfl,?_⟩;show Value.bool _=.bool _;congr 1;rw[o.n0];have:=tT (L:=L) (K:=K) (S:=S) l;rw[Int.add_zero]at this ⊢;rw[bne,sC,lz this]
  . cases h
 ·
  rename_i m;have g:x=.int .i32 y.N:=g;have hb:z=.int .i32 m:=hb;subst g;subst hb;split at h
  . rename_i d;subst d
    simp only[Option.some.injEq]at h;subst h;exact⟨.bool (y.N==0),rfl,by show Value.bool _=.bool _;rw[o.n0,sC]⟩
  split at h
  . rename_i d;subst d
    simp only[Option.some.injEq]at h;subst h;exact⟨.bool (y.N==1),rfl,by show Value.bool _=.bool _;rw[o.n1,sC]⟩
  . cases h
 . rename_i m
   have g:x=.int .i32 y.N:=g;have hb:z=.int .i32 m:=hb;subst g;subst hb;split at h
   . rename_i d;subst d
     simp only[Option.some.injEq]at h;subst h;exact⟨.bool (y.N !=0),rfl,by show Value.bool _=.bool _;rw[o.n0,bne,sC]⟩
   split at h
   . rename_i d;subst d
     simp only[Option.some.injEq]at h;subst h;exact⟨.bool (y.N !=1),rfl,by show Value.bool _=.bool _;rw[o.n1,bne,sC]⟩
   . cases h
 ·
  rename_i w m;have g:x=.int .u64 (dm y.c w):=g;have hb:z=.int .u64 m:=hb;subst g;subst hb
  have F:dm y.c w=((y.c.toNat*4294967296+w:Nat):Int):=by have:((y.c.toNat:Nat):Int)=y.c:=Int.toNat_of_nonneg hc.1;rw[Int.natCast_add,Int.natCast_mul,this];rfl
  split at h
  . rename_i d
    obtain⟨rfl,u⟩:=d;simp only[Option.some.injEq]at h;subst h;refine⟨.int .u64 (bits .and .u64 (dm y.c w) 2147483648),rfl,?_⟩;show Value.int .u64 _=.int .u64 _;congr 1
    have G:bits .and .u64 (dm y.c w) 4294967295=(w:Int):=by
     have:=bits_mask .u64 64 (by decide) (λn a b=>iU a b) 32 (by omega) (dm y.c w) (by unfold dm;omega) (by unfold dm;omega)
     rw[show((2:Int) ^ 32-1)=4294967295 from rfl]at this
     rw[this];unfold dm;omega
    rw[F,show(2147483648:Int)=((2147483648:Nat):Int)from rfl,(bits_nat .u64 64 (by decide) (λn a b=>iU a b) _ _ (by omega) (by omega)).1]
    have e:(y.c.toNat*4294967296+w) &&& 2147483648=0:=by
     apply Nat.eq_of_testBit_eq;intro i;rw[Nat.testBit_and,Nat.zero_testBit]
     have hb:(2147483648:Nat).testBit i=decide (31=i):=by have:=Nat.testBit_two_pow (n:=31) (m:=i);simpa using this
     rw[hb]
     by_cases B:31=i
     . subst B
       have l:=Nat.testBit_two_pow_mul_add (i:=32) y.c.toNat (b:=w) (by omega) 31
       simp only[show 31<32 by omega,if_true]at l
       rw[show y.c.toNat*4294967296+w=2 ^ 32*y.c.toNat+w by omega,l]
       rw[Nat.testBit_lt_two_pow (by omega:w<2 ^ 31)];rfl
     . simp[B]
    rw[e];rfl
  split at h
  . rename_i d
    obtain⟨rfl,u⟩:=d;simp only[Option.some.injEq]at h;subst h;refine⟨.int .u64 (bits .and .u64 (dm y.c w) 2147483647),rfl,?_⟩;show Value.int .u64 _=.int .u64 _;congr 1;have:=bits_mask .u64 64 (by decide) (λn a b=>iU a b) 31 (by omega) (dm y.c w) (by unfold dm;omega) (by unfold dm;omega)
    rw[show((2:Int) ^ 31-1)=2147483647 from rfl]at this
    rw[this];unfold dm;omega
  . cases h
 ·
  rename_i w m;have g:x=.int .u64 (dm y.c w):=g;have hb:z=.int .u64 m:=hb;subst g;subst hb;split at h
  . rename_i d
    obtain⟨rfl,u⟩:=d;simp only[Option.some.injEq]at h;subst h;refine⟨.int .u64 ((dm y.c w).fdiv (2 ^ 32)),rfl,?_⟩;show Value.int .u64 _=.int .u64 _;congr 1;rw[Int.fdiv_eq_ediv_of_nonneg _ (by decide)]
    unfold dm;omega
  . cases h
 . rename_i m
   have g:x=.int .i32 y.c:=g;have hb:z=.int .i32 m:=hb;subst g;subst hb;split at h
   . rename_i d;subst d
     simp only[Option.some.injEq]at h;subst h;exact⟨.bool (y.c==0),rfl,by show Value.bool _=.bool _;rw[o.c0,sC]⟩
   split at h
   . rename_i d;subst d
     simp only[Option.some.injEq]at h;subst h;exact⟨.bool (y.c==1),rfl,by show Value.bool _=.bool _;rw[o.c1,sC]⟩
   split at h
   . rename_i d;subst d
     simp only[Option.some.injEq]at h;subst h;refine⟨.bool (y.c==-1),rfl,?_⟩;show Value.bool _=.bool _;have:¬y.c=-1:=by omega
     rw[sC];simp[this]
   . cases h
 . rename_i m
   have g:x=.int .i32 y.c:=g;have hb:z=.int .i32 m:=hb;subst g;subst hb;split at h
   . rename_i d;subst d
     simp only[Option.some.injEq]at h;subst h;refine⟨.bool (decide (y.c<0)),rfl,?_⟩;show Value.bool _=.bool _;have:¬y.c<0:=by omega
     simp[this]
   . cases h
 . rename_i m
   have g:x=.int .i32 y.c:=g;have hb:z=.int .i32 m:=hb;subst g;subst hb;split at h
   . rename_i d;subst d
     simp only[Option.some.injEq]at h;subst h;refine⟨.bool (decide (y.c>0)),rfl,?_⟩;show Value.bool _=.bool _;rw[o.c0];congr 1
     by_cases C:y.c=0
     . simp[C]
     . have:y.c>0:=by omega
       simp[C,this]
   . cases h
 . rename_i w H
   have g:x=.int .u64 (dm y.c w):=g;have hb:z=.int .u64 (dm y.c H):=hb;subst g;subst hb;split at h
   . rename_i d;subst d
     simp only[Option.some.injEq]at h;subst h;exact⟨.bool (dm y.c w !=dm y.c w),rfl,by show Value.bool _=.bool _;simp⟩
   . cases h
 . rename_i w m
   have g:x=.int .u64 (dm y.c w):=g;have hb:z=.int .u64 m:=hb;subst g;subst hb;split at h
   . rename_i d;subst d
     simp only[Option.some.injEq]at h;subst h;refine⟨.bool (dm y.c w !=0),rfl,?_⟩;show Value.bool _=.bool _;rw[o.c0];congr 1;have:dm y.c w=0↔(y.c=0/\w=0):=by unfold dm;omega
     rw[bne,sC]
     have e:decide (dm y.c w=0)=(decide (y.c=0) && decide (w=0)):=by rw[Bool.eq_iff_iff,Bool.and_eq_true,decide_eq_true_iff,decide_eq_true_iff,decide_eq_true_iff];exact this
     rw[e]
   . cases h
 . rename_i w m
   have g:x=.int .u64 (dm y.c w):=g;have hb:z=.int .u64 m:=hb;subst g;subst hb;split at h
   . rename_i d
     obtain⟨rfl,u⟩:=d;simp only[Option.some.injEq]at h;subst h;refine⟨.int .u64 (IntKind.u64.wrap (dm y.c w+1)),rfl,?_⟩;show Value.int .u64 _=.int .u64 _;rw[iU (by unfold dm;omega) (by unfold dm;omega)]
     congr 1;unfold dm;push_cast;omega
   . cases h
 . rename_i m
   have g:x=.int .i64 y.ws:=g;have hb:z=.int .i64 m:=hb;subst g;subst hb;split at h
   . rename_i d;subst d
     simp only[Option.some.injEq]at h;subst h;exact⟨.bool (y.ws==0),rfl,by show Value.bool _=.bool _;rw[o.wz,sC]⟩
   . cases h
 . rename_i m
   have g:x=.int .i64 y.ws:=g;have hb:z=.int .i64 m:=hb;subst g;subst hb;split at h
   . rename_i d;subst d
     simp only[Option.some.injEq]at h;subst h;exact⟨.bool (y.ws !=0),rfl,by show Value.bool _=.bool _;rw[o.wz,bne,sC]⟩
   . cases h
 . have g:x=.int .i64 y.tn:=g
   have hb:z=.int .i64 y.ws:=hb;subst g;subst hb;simp only[Option.some.injEq]at h;subst h;exact⟨_,rfl,rfl⟩
 . rename_i m
   have g:x=.int .i64 (IntKind.i64.wrap (y.tn-y.ws)):=g;have hb:z=.int .i64 m:=hb;subst g;subst hb;split at h
   . rename_i d;subst d
     simp only[Option.some.injEq]at h;subst h;exact⟨.bool (decide (IntKind.i64.wrap (y.tn-y.ws)>1000000)),rfl,by show Value.bool _=.bool _;rw[o.tb]⟩
   . cases h
 . cases h
inductive y7 where
 |run
 |ret
def y7.of:y7->FrameMode
 |.run=>.run
 |.ret=>.returning
structure iq where
 fn:FuncId
 todo:List Item
 env:List SV
 defers:List Deferred
 mode:y7
 kind:CallKind
def sv(env:List SV):Operand->SV
 |.tmp t=>env.getD t .bz
 |.const v=>.lit v
 |.global g=>.lit (.pointer (some ⟨g,0,none⟩))
 |.func f=>.lit (.func (.func f) #[] #[])
def Pu(P:Program)(f:Fl)(ρ:Operand->SV)(o:Op):Option SV:=
 match o with
 |.move x=>some (ρ x)
 |.assign x=>some (ρ x)
 |.pick c a b=>match ρ c with|.lit (.bool x)=>some (if x then ρ a else ρ b)|_=>none
 | .binOp op t x y _=>
   match Ge f op (ρ x) (ρ y)with
   |some r=>some r
   | none=>match ρ x,ρ y with
     |.lit (.int k a),.lit (.int d b)=>(kQ P (binOp op t (.int k a) (.int d b))).map .lit
     |_,_=>none
 |.unOp .not _ x=>match ρ x with|.lit (.bool b)=>some (.lit (.bool !b))|_=>none
 |.nilCheck x=>match ρ x with|.lit (.pointer (some a))=>some (.lit (.pointer (some a)))|_=>none
 |.fieldAddr s x e=>match ρ x with|.lit (.pointer (some a))=>(kQ P (Instr.fieldAt s (.pointer (some a)) e)).map .lit|_=>none
 | .convert src dst x=>
   match ρ x with
   |.lit v=>(kQ P (convert src dst v)).map .lit
   |.CE=>match P.underlying src,P.underlying dst with|some _,some (.int .i32)=>some .DG|_,_=>none
   |_=>none
 |_=>none
theorem y9{P:Program}{op:BinOp}{t:TypeId}{x y:Operand}{k k':IntKind}{a b:Int}:kQ P (eqGuard op t x y (.int k a) (.int k' b))=some ():=by unfold eqGuard;split<;>rfl
theorem SR.int{y:Sy}{a:SV}{x:Value}(h:SR y a x)(b:∀v,a≠.lit v)(c:a≠.bz):∃k n,x=.int k n:=by
 cases a with
 |bz=>exact absurd rfl c
 |lit v=>exact absurd rfl (b v)
 |word _ _ _ _=>exact⟨_,_,h.1⟩
 |_=>exact⟨_,_,h⟩
theorem Gf{f:Fl}{op:BinOp}{a b r:SV}{y:Sy}{x z:Value}(h:Ge f op a b=some r)(g:SR y a x)(hb:SR y b z):∃k n k' c,x=.int k n/\z=.int k' c:=by
 unfold Ge at h
 split at h<;>first
  |(cases h;done)
  | (obtain⟨k,n,d⟩:=g.int (by intro v e;cases e) (by intro e;cases e)
     first
     |exact⟨k,n,_,_,d,hb⟩
     |(obtain⟨k',c,i⟩:=hb.int (by intro v e;cases e) (by intro e;cases e);exact⟨k,n,k',c,d,i⟩))
theorem xS{α:Type}{P:Program}{s:Sem α}{g:α->SV}{r:SV}(h:(kQ P s).map g=some r):∃a,kQ P s=some a/\r=g a:=by
 cases q:kQ P s with
 |none=>rw[q]at h;simp at h
 |some a=>rw[q]at h;simp at h;exact⟨a,rfl,h.symm⟩
theorem nK{P:Program}{s:Sem Value}{v:Value}(h:kQ P s=some v):kQ P (do pure (.value (<-s)):Sem Next)=some (.value v):=by
 show kQ P (Sem.bind s λa=>(pure (Next.value a):Sem Next))=_;rw[jU s h];rfl
theorem LG{P:Program}{f:Fl}{y:Sy}(A:f.At y){ρ:Operand->SV}{ρ':Operand->Value}{o:Oper}{r:SV}(h:Pu P f ρ o.op=some r)(g:∀x,SR y (ρ x) (ρ' x)):∃v,kQ P (execOp ρ' o)=some (.value v)/\SR y r v:=by
 unfold Pu at h;split at h
 . rename_i x e
   simp only[Option.some.injEq]at h;subst h;exact⟨ρ' x,by simp[execOp,e];rfl,g x⟩
 . rename_i x e
   simp only[Option.some.injEq]at h;subst h;exact⟨ρ' x,by simp[execOp,e];rfl,g x⟩
 . rename_i c a b e
   split at h
   . rename_i x j
     simp only[Option.some.injEq]at h;subst h;have hc:=g c;rw[j]at hc;have hc:ρ' c=.bool x:=hc;refine⟨if x then ρ' a else ρ' b,?_,?_⟩
     . simp only[execOp,e,hc]
       cases x<;>rfl
     . cases x
       . exact g b
       . exact g a
   . cases h
 . rename_i op t x z nl e
   have key:∀{k n m q},ρ' x=.int k n->ρ' z=.int m q->∀{v},kQ P (binOp op t (.int k n) (.int m q))=some v->kQ P (execOp ρ' o)=some (.value v):=by
    intro k n m q i p v l;have:execOp ρ' o=(do pure (.value (<-(do eqGuard op t x z (ρ' x) (ρ' z);binOp op t (ρ' x) (ρ' z)))):Sem Next):=by simp only[execOp,e]
    rw[this,i,p];refine nK ?_;show kQ P ((eqGuard op t x z (.int k n) (.int m q)).bind λ_=>binOp op t (.int k n) (.int m q))=_
    rw[jU _ y9];exact l
   split at h
   . rename_i G w
     simp only[Option.some.injEq]at h;subst h;obtain⟨k,n,m,q,i,p⟩:=Gf w (g x) (g z);obtain⟨v,l,B⟩:=Jv (P:=P) A (t:=t) w (g x) (g z);rw[i,p]at l;exact⟨v,key i p l,B⟩
   . split at h
     . rename_i k a m b j C
       obtain⟨v,l,rfl⟩:=xS h;have i:=g x;have p:=g z;rw[j]at i;rw[C]at p;exact⟨v,key i p l,rfl⟩
     . cases h
 . rename_i t x e
   split at h
   . rename_i b j
     simp only[Option.some.injEq]at h;subst h;have i:=g x;rw[j]at i;have i:ρ' x=.bool b:=i;exact⟨.bool !b,by simp only[execOp,e,i];rfl,rfl⟩
   . cases h
 . rename_i x e
   split at h
   . rename_i a j
     simp only[Option.some.injEq]at h;subst h;have i:=g x;rw[j]at i;have i:ρ' x=.pointer (some a):=i;exact⟨_,by simp only[execOp,e,i];rfl,rfl⟩
   . cases h
 . rename_i s x H e
   split at h
   . rename_i a j
     obtain⟨v,l,rfl⟩:=xS h;have i:=g x;rw[j]at i;have i:ρ' x=.pointer (some a):=i;refine⟨v,?_,rfl⟩;simp only[execOp,e,i];exact nK l
   . cases h
 . rename_i src dst x e
   split at h
   . rename_i u j
     obtain⟨v,l,rfl⟩:=xS h;have i:=g x;rw[j]at i;have i:ρ' x=u:=i;refine⟨v,?_,rfl⟩;simp only[execOp,e,i];exact nK l
   . rename_i j
     split at h
     . rename_i d w hd
       simp only[Option.some.injEq]at h;subst h;have i:=g x;rw[j]at i;have i:ρ' x=.int .u64 y.c:=i;refine⟨.int .i32 y.c,?_,rfl⟩;simp only[execOp,e,i];refine nK ?_
       have D:kQ P (underlying src)=some d:=by unfold underlying;show kQ P (Sem.bind program _)=_;rw[jU program (a:=P) rfl,w];rfl
       have E:kQ P (underlying dst)=some (.int .i32):=by unfold underlying;show kQ P (Sem.bind program _)=_;rw[jU program (a:=P) rfl,hd];rfl
       unfold convert;show kQ P (Sem.bind (underlying src) _)=_;rw[jU _ D];show kQ P (Sem.bind (underlying dst) _)=_;rw[jU _ E];have F:IntKind.i32.wrap y.c=y.c:=gq (by have:=A.hc;omega) (by have:=A.hc;omega)
       show some (Value.int .i32 (IntKind.i32.wrap y.c))=_;rw[F]
     . cases h
   . cases h
 . cases h
def v9(ops:Array Oper)(env:List SV)(o:Oper):Option Bool:=
 match o.guard with
 |none=>some true
 | some (j,b)=>match (ops[j]?).bind (·.dst)with
   | some d=>match env.getD d .bz with
     |.lit (.bool x)=>some (x==b)
     |_=>none
   |none=>none
def tV(fr:iq)(v:SV):Option iq:=
 match fr.todo with
 |.inRegion ops (i::rest)::k=>some {fr with env:=(match (ops[i]?).bind (·.dst)with|some d=>fr.env.set d v|none=>fr.env),todo:=.inRegion ops rest::k}
 |_=>none
def NJ(fn:Func)(env:List SV):Option SV:=
 match fn.results.toList with
 |[]=>some (.lit (.tuple #[]))
 |[.tmp t]=>some (env.getD t .bz)
 |_=>none
def KY(P:Program)(env:List SV)(c:Call):Option iq:=
 match c.callee with
 | .value (.func g)=>match P.funcs[g]? with
   | some fn=>match fn.body with
     |some body=>if fn.name= "runtime.NumGoroutine" then none else some {fn:=g,todo:=[.code body],env:=c.args.toList.map (sv env)++List.replicate (fn.ntmps-c.args.size) .bz,defers:=[],mode:=.run,kind:=.normal}
     |none=>none
   |none=>none
 |_=>none
def Gg(c:Call):Option Deferred:=
 match c.callee with
 |.value (.func g)=>if c.args=#[]then some {target:=.fn (.func g) #[],args:=#[]}else none
 |_=>none
def ss(P : Program)(f:Fl)(fr:iq)(st:List iq):Option (iq × List iq):=
 match fr.mode with
 | .ret=>match st with
   |[]=>none
   | c ::e=>match fr.defers,fr.kind,P.funcs[fr.fn]? with
     | [],.normal,some fn=>match NJ fn fr.env with
       |some v=>(tV c v).map (·,e)
       |none=>none
     |_,_,_=>none
 | .run => match fr.todo with
   |[]=>some ({fr with mode:=.ret},st)
   |.code .ret::_=>some ({fr with mode:=.ret},st)
   |.code .skip::k=>some ({fr with todo:=k},st)
   |.inBlock _::k=>some ({fr with todo:=k},st)
   |.inScope _::k=>some ({fr with todo:=k},st)
   |.inRegion _ []::k=>some ({fr with todo:=k},st)
   |.code (.seq a b)::k=>some ({fr with todo:=.code a::.code b::k},st)
   |.code (.block id c)::k=>some ({fr with todo:=.code c::.inBlock id::k},st)
   |.code (.scope c)::k=>some ({fr with todo:=.code c::.inScope c::k},st)
   |.code (.loop c)::k=>some ({fr with todo:=.code c::.inLoop c::k},st)
   |.inLoop c::k=>some ({fr with todo:=.code c::.inLoop c::k},st)
   |.code (.exit id)::k=>(exitTo id k).map λg=>({fr with todo:=g},st)
   | .code (.cond c a b)::k=>match sv fr.env c with
     |.lit (.bool x)=>some ({fr with todo:=.code (if x then a else b)::k},st)
     |_=>none
   |.code (.region id ops false)::k=>some ({fr with todo:=.inRegion ops (List.range ops.size)::k},st)
   | .inRegion ops (i::rest)::k=>match ops[i]? with
     |none=>none
     | some o=>match v9 ops fr.env o with
       |none=>none
       |some false=>(tV fr .bz).map (·,st)
       | some true=>match o.op with
         |.call c=>(KY P fr.env c).map (·,fr::st)
         | .defer c=>match Gg c with
           |some d=>(tV fr .bz).map λs=>({s with defers:=d::s.defers},st)
           |none=>none
         | op=>match Pu P f (sv fr.env) op with
           |some v=>(tV fr v).map (·,st)
           |none=>none
   |_=>none
def sgo(P:Program)(f:Fl):Nat->iq->List iq->iq × List iq
 |0,fr,st=>(fr,st)
 | n+1,fr,st=>match ss P f fr st with
   |some (a,b)=>sgo P f n a b
   |none=>(fr,st)
structure FR(y:Sy)(s:iq)(fr:Frame):Prop where
 fn:fr.fn=s.fn
 todo:fr.todo=s.todo
 defers:fr.defers=s.defers
 mode:fr.mode=s.mode.of
 kind:fr.kind=s.kind
 ro:fr.roundOf=none
 size:fr.tmps.size=s.env.length
 env:∀t,SR y (s.env.getD t .bz) (fr.tmps.getD t undef)
def kg(y:Sy):List iq->List Frame->Prop
 |[],[]=>True
 |s::ss,f::fs=>FR y s f/\kg y ss fs
 |_,_=>False
def oP(P:Program)(Wd:World->Prop)(g g':Goroutine):Prop:=g.status=.running/\∀main w,Wd w->stepG P main g w=.go g' w #[]
def iV(P:Program)(Wd:World->Prop):Nat->Goroutine->Goroutine->Prop
 |0,g,a=>g=a
 |n+1,g,a=>∃b,oP P Wd g b/\iV P Wd n b a
def pG(P:Program)(Wd:World->Prop)(g g':Goroutine):Prop:=∃n,iV P Wd n g g'
theorem iV.trans{P:Program}{Wd:World->Prop}:∀{n m:Nat}{a b c:Goroutine},iV P Wd n a b->iV P Wd m b c->iV P Wd (n+m) a c
 |0,m,a,b,c,h,d=>by obtain rfl:=h;rw[Nat.zero_add];exact d
 | n+1,m,a,b,c,h,d=>by
   obtain⟨e,f,g⟩:=h;rw[show n+1+m=(n+m)+1 by omega];exact⟨e,f,g.trans d⟩
theorem pG.trans{P:Program}{Wd:World->Prop}{a b c:Goroutine}(h:pG P Wd a b)(d:pG P Wd b c):pG P Wd a c:=let ⟨n,h⟩:=h;let ⟨m,d⟩:=d;⟨n+m,h.trans d⟩
theorem oP.wg{P:Program}{Wd:World->Prop}{a b:Goroutine}(h:oP P Wd a b):pG P Wd a b:=⟨1,b,h,rfl⟩
theorem FR.sv{y:Sy}{s:iq}{fr:Frame}(h:FR y s fr)(x:Operand):SR y (sv s.env x) (fr.eval x):=by
 cases x with
 |tmp t=>exact h.env t
 |const v=>rfl
 |global g=>rfl
 |func f=>rfl
theorem FR.fin{y:Sy}{s s':iq}{fr:Frame}{v:SV}{x:Value}(h:FR y s fr)(b:tV s v=some s')(w:SR y v x):FR y s' (fr.finish x):=by
 obtain⟨fn,tmps,todo,defs,mode,kind,ro⟩:=fr;obtain⟨m,n,o,p,r,u,c,g⟩:=h;simp only at m n o p r u c g;subst n;unfold tV at b;split at b
 . rename_i ops i rest k e
   simp only[Option.some.injEq]at b;subst b;simp only[Frame.finish,e];refine⟨m,rfl,o,p,r,u,?_,λt=>?_⟩
   . cases q:(ops[i]?).bind (·.dst)with
     |none=>simpa[q]using c
     |some d=>simpa[q]using c
   . cases q:(ops[i]?).bind (·.dst)with
     |none=>simpa[q]using g t
     | some d=>
       simp only
       by_cases j:d=t
       . subst j
         by_cases hd:d<tmps.size
         . have l:(tmps.setIfInBounds d x).getD d undef=x:=by simp[Array.getD,hd]
           have f:(s.env.set d v).getD d .bz=v:=by have a:d<s.env.length:=c ▸ hd;rw[List.getD_eq_getElem?_getD,List.getElem?_set_self a];rfl
           rw[l,f];exact w
         . have f:(s.env.set d v).getD d .bz=.bz:=by
            have a:s.env.length<=d:=by rw[<-c];exact Nat.le_of_not_lt hd
            rw[List.getD_eq_getElem?_getD,List.getElem?_eq_none (by rw[List.length_set];exact a)];rfl
           rw[f];trivial
       . have l:(tmps.setIfInBounds d x).getD t undef=tmps.getD t undef:=by
          simp only[Array.getD_eq_getD_getElem?];rw[Array.getElem?_setIfInBounds_ne j]
         have f:(s.env.set d v).getD t .bz=s.env.getD t .bz:=by rw[List.getD_eq_getElem?_getD,List.getD_eq_getElem?_getD,List.getElem?_set_ne j]
         rw[l,f];exact g t
 . cases b
theorem m8{y:Sy}{s:iq}{fr:Frame}{ops:Array Oper}{o:Oper}{b:Bool}(h:FR y s fr)(a:v9 ops s.env o=some b):Region.wanted o (yielded ops fr.tmps)=b:=by
 unfold v9 at a;unfold Region.wanted;cases i:o.guard with
 |none=>rw[i]at a;simpa using a
 | some p=>
   obtain⟨j,c⟩:=p;rw[i]at a;simp only at a ⊢;cases g:ops[j]? with
   |none=>rw[g]at a;simp at a
   | some k =>
     rw[g]at a;cases hd:k.dst with
     |none=>simp[hd]at a
     | some d=>
       simp only[Option.bind_some,hd]at a;have f:=h.env d;split at a
       . rename_i x l
         rw[l]at f;have f:fr.tmps.getD d undef=.bool x:=f
         have e:fr.tmps[d]?=some (.bool x):=by
          by_cases e:d<fr.tmps.size
          . simp[Array.getD,e]at f
            simp[e,f]
          . simp[Array.getD,e,undef]at f
         simp only[Option.some.injEq]at a;simp[yielded,g,hd,e,a]
       . cases a
theorem kg.jw{y:Sy}{fs:List Frame}(h:kg y [] fs):fs=[]:=by cases fs with|nil=>rfl|cons _ _=>exact h.elim
theorem kg.cons_inv{y:Sy}{s:iq}{l:List iq}{fs:List Frame}(h:kg y (s::l) fs):∃f a,fs=f::a/\FR y s f/\kg y l a:=by
 cases fs with
 |nil=>exact h.elim
 |cons f a=>exact⟨f,a,rfl,h.1,h.2⟩
theorem fe{P:Program}{fn:FuncId}:seen P fn #[]=#[]:=rfl
theorem apply_pure{P:Program}{fr:Frame}{cs:List Frame}{s:Sem Next}{n:Next}(h:kQ P s=some n)(w:World):stepG.apply P true fr cs none s w=stepG.apply P true fr cs none (pure n) w:=by have a:=Gd s h w #[];have b:(pure n:Sem Next).runT P w #[]=(.ok n w,#[]):=rfl;simp only[stepG.apply,if_true,a,b]
theorem lC{P:Program}{main:Bool}{fid:FuncId}{k:List Item}{ops:Array Oper}{i:Nat}{rest:List Nat}{o:Oper}{tmps:Array Value}{defs:List Deferred}{kind:CallKind}{cs:List Frame}(a:ops[i]?=some o)(b:Region.wanted o (yielded ops tmps)=true)(w:World):
 stepG P main (G ⟨fid,tmps,.inRegion ops (i::rest)::k,defs,.run,kind,none⟩ cs) w=
  stepG.apply P true ⟨fid,tmps,.inRegion ops (i::rest)::k,defs,.run,kind,none⟩ cs none (execOp (Frame.eval ⟨fid,tmps,.inRegion ops (i::rest)::k,defs,.run,kind,none⟩) o) w:=by
 simp only[G,stepG,stepG.exec,stepG.oper,Frame.oper?,a,b,Option.map_some,Option.getD_some,if_true]
theorem Gh{P:Program}{main:Bool}{fid:FuncId}{k:List Item}{ops:Array Oper}{i:Nat}{rest:List Nat}{o:Oper}{tmps:Array Value}{defs:List Deferred}{kind:CallKind}{cs:List Frame}(a:ops[i]?=some o)(b:Region.wanted o (yielded ops tmps)=false)(w:World):
 stepG P main (G ⟨fid,tmps,.inRegion ops (i::rest)::k,defs,.run,kind,none⟩ cs) w=.go (G (Frame.finish ⟨fid,tmps,.inRegion ops (i::rest)::k,defs,.run,kind,none⟩ undef) cs) w #[]:=by
 have h:((ops[i]?).map (Region.wanted · (yielded ops tmps))).getD false=false:=by simp[a,b]
 simp only[G,stepG,stepG.exec,h];rfl
theorem vD{P:Program}{ρ:Operand->Value}{o:Oper}{c:Call}{g:FuncId}{fn:Func}{body:Code}(e:o.op=.call c)(f:c.callee=.value (.func g))(h:P.funcs[g]?=some fn)(hb:fn.body=some body)(b:fn.name≠ "runtime.NumGoroutine")(d:ρ (.func g)=.func (.func g) #[] #[]):
 kQ P (execOp ρ o)=some (.enter g (c.args.map ρ)):=by
 simp only[execOp,e,resolve,f,d,Deferred.ofValue];show kQ P (callFunc g ((#[]++c.args.map ρ)++#[]))=_;unfold callFunc;show kQ P (Sem.bind program _)=_;rw[jU program (a:=P) rfl];simp[h,hb,b];rfl
theorem KZ{P:Program}{Wd:World->Prop}{f:Fl}{y:Sy}(hf:f.At y){s s':iq}{st D:List iq}{fr:Frame}{frs:List Frame}(h:ss P f s st=some (s',D))(hr:FR y s fr)(A:kg y st frs):
 ∃r m,FR y s' r/\kg y D m/\∀cs,oP P Wd (G fr (frs++cs)) (G r (m++cs)):=by
 have q:=hr;obtain⟨fn,tmps,todo,defs,mode,kind,ro⟩:=fr;obtain⟨T,n,M,I,N,h6,Y,U⟩:=hr;simp only at T n M I N h6 Y U;subst h6;unfold ss at h;split at h
 ·
  rename_i V;rw[V]at I;have I:mode=.returning:=I;subst I;split at h
  . cases h
  rename_i c ad;split at h
  . rename_i E hd hk F
    obtain⟨fc,m,rfl,hc,Z⟩:=A.cons_inv;split at h
    . rename_i v C
      obtain⟨W,j,e⟩:=Option.map_eq_some_iff.1 h;simp only[Prod.mk.injEq]at e;obtain⟨rfl,rfl⟩:=e
      have O:∃x,SR y v x/\∀w,(results E tmps).runT P w #[]=(.ok x w,#[]):=by
       unfold NJ at C;split at C
       . rename_i J
         simp only[Option.some.injEq]at C;subst C;have J:E.results=#[]:=by apply Array.ext';simpa using J
         exact⟨.tuple #[],rfl,λw=>by simp[results,J]⟩
       . rename_i t J
         simp only[Option.some.injEq]at C;subst C;have J:E.results=#[.tmp t]:=by apply Array.ext';simpa using J
         exact⟨tmps.getD t undef,U t,λw=>by simp[results,J]⟩
       . cases C
      obtain⟨x,a7,Q⟩:=O;refine⟨fc.finish x,m,hc.fin j a7,Z,λcs=>⟨rfl,λmain w _=>?_⟩⟩;rw[hd]at M;rw[hk]at N;subst M;subst N;subst T;have e1:(results E tmps).run P w=.ok x w:=by have:=congrArg Prod.fst (Q w);simpa using this
      have e2:(results E tmps).events P w #[]=#[]:=by have:=congrArg Prod.snd (Q w);simpa using this
      simp[G,stepG,unwind,F,e1,e2,doReturn,GStep.after,fe]
    . cases h
  . cases h
 . rename_i V
   rw[V]at I;have I:mode=.run:=I;subst I
   have ctl:∀B:List Item,(∀main cs w,stepG P main (G ⟨fn,tmps,todo,defs,.run,kind,none⟩ (frs++cs)) w=.go (G ⟨fn,tmps,B,defs,.run,kind,none⟩ (frs++cs)) w #[])->some ({s with todo:=B},st)=some (s',D) ->
    ∃r m,FR y s' r/\kg y D m/\∀cs,oP P Wd (G ⟨fn,tmps,todo,defs,.run,kind,none⟩ (frs++cs)) (G r (m++cs)):=λB hs e=>by
    simp only[Option.some.injEq,Prod.mk.injEq]at e;obtain⟨rfl,rfl⟩:=e;exact⟨_,frs,⟨T,rfl,M,by rw[V];rfl,N,rfl,Y,U⟩,A,λcs=>⟨rfl,λmain w _=>hs main cs w⟩⟩
   have ret:(∀main cs w,stepG P main (G ⟨fn,tmps,todo,defs,.run,kind,none⟩ (frs++cs)) w=.go (G ⟨fn,tmps,todo,defs,.returning,kind,none⟩ (frs++cs)) w #[])->some ({s with mode:=.ret},st)=some (s',D) ->
    ∃r m,FR y s' r/\kg y D m/\∀cs,oP P Wd (G ⟨fn,tmps,todo,defs,.run,kind,none⟩ (frs++cs)) (G r (m++cs)):=λhs e=>by
    simp only[Option.some.injEq,Prod.mk.injEq]at e;obtain⟨rfl,rfl⟩:=e;exact⟨_,frs,⟨T,n,M,rfl,N,rfl,Y,U⟩,A,λcs=>⟨rfl,λmain w _=>hs main cs w⟩⟩
   split at h
   . rename_i l;rw[l]at n;subst n
     exact ret (λ_ _ _=>by simp[G,stepG,stepG.exec]) h
   . rename_i l;rw[l]at n;subst n
     exact ret (λ_ _ _=>by simp[G,stepG,stepG.exec]) h
   . rename_i l;rw[l]at n;subst n
     exact ctl _ (λ_ _ _=>by simp[G,stepG,stepG.exec]) h
   . rename_i l;rw[l]at n;subst n
     exact ctl _ (λ_ _ _=>by simp[G,stepG,stepG.exec]) h
   . rename_i l;rw[l]at n;subst n
     exact ctl _ (λ_ _ _=>by simp[G,stepG,stepG.exec]) h
   . rename_i l;rw[l]at n;subst n
     exact ctl _ (λ_ _ _=>by simp[G,stepG,stepG.exec]) h
   . rename_i l;rw[l]at n;subst n
     exact ctl _ (λ_ _ _=>by simp[G,stepG,stepG.exec]) h
   . rename_i l;rw[l]at n;subst n
     exact ctl _ (λ_ _ _=>by simp[G,stepG,stepG.exec]) h
   . rename_i l;rw[l]at n;subst n
     exact ctl _ (λ_ _ _=>by simp[G,stepG,stepG.exec]) h
   . rename_i l;rw[l]at n;subst n
     exact ctl _ (λ_ _ _=>by simp[G,stepG,stepG.exec]) h
   . rename_i l;rw[l]at n;subst n
     exact ctl _ (λ_ _ _=>by simp[G,stepG,stepG.exec]) h
   . rename_i id k l;rw[l]at n;subst n
     obtain⟨k',he,e⟩:=Option.map_eq_some_iff.1 h;exact ctl k' (λ_ _ _=>by simp[G,stepG,stepG.exec,he]) (by rw[e])
   . rename_i c a b k l;rw[l]at n;subst n
     split at h
     . rename_i x R
       have C:=q.sv c;rw[R]at C;have C:Frame.eval ⟨fn,tmps,.code (.cond c a b)::k,defs,.run,kind,none⟩ c=.bool x:=C;exact ctl _ (λ_ _ _=>by simp[G,stepG,stepG.exec,C]) h
     . cases h
   . rename_i l;rw[l]at n;subst n
     exact ctl _ (λ_ _ _=>by simp[G,stepG,stepG.exec]) h
   . rename_i ops i rest k l;rw[l]at n;subst n
     split at h
     . cases h
     . rename_i o X
       split at h
       . cases h
       . rename_i hw
         obtain⟨W,j,e⟩:=Option.map_eq_some_iff.1 h;simp only[Prod.mk.injEq]at e;obtain⟨rfl,rfl⟩:=e;exact⟨_,frs,q.fin j trivial,A,λcs=>⟨rfl,λmain w _=>Gh X (m8 q hw) w⟩⟩
       . rename_i hw
         have K:=m8 q hw;split at h
         . rename_i c L
           obtain⟨W,j,e⟩:=Option.map_eq_some_iff.1 h;simp only[Prod.mk.injEq]at e;obtain⟨rfl,rfl⟩:=e;unfold KY at j;split at j
           . rename_i g S
             split at j
             . rename_i E F
               split at j
               . rename_i body H
                 split at j
                 . cases j
                 rename_i a8;simp only[Option.some.injEq]at j;subst j;refine⟨Frame.enter P g (c.args.map (Frame.eval ⟨fn,tmps,.inRegion ops (i::rest)::k,defs,.run,kind,none⟩)) .normal,⟨fn,tmps,.inRegion ops (i::rest)::k,defs,.run,kind,none⟩::frs,?_,⟨q,A⟩,λcs=>⟨rfl,λmain w _=>?_⟩⟩
                 . refine⟨rfl,by simp[Frame.enter,F,H],rfl,rfl,rfl,rfl,by simp[Frame.enter,F],λt=>?_⟩
                   simp only[Frame.enter,F,Option.map_some,Option.getD_some];rw[Array.getD_eq_getD_getElem?,List.getD_eq_getElem?_getD];by_cases l:t<c.args.size
                   . rw[Array.getElem?_append_left (by simpa using l),List.getElem?_append_left (by simpa using l)]
                     simp only[Array.getElem?_map,List.getElem?_map,Array.getElem?_toList];rw[Array.getElem?_eq_getElem l];exact q.sv _
                   . rw[Array.getElem?_append_right (by simp;omega),List.getElem?_append_right (by simp;omega)]
                     simp only[List.length_map,Array.length_toList,List.getElem?_replicate];split<;>trivial
                 . rw[lC X K,apply_pure (vD L S F H a8 rfl)]
                   simp only[stepG.apply,if_true,GStep.after];have u:(pure (.enter g (c.args.map (Frame.eval ⟨fn,tmps,.inRegion ops (i::rest)::k,defs,.run,kind,none⟩))):Sem Next).runT P w #[]=(.ok (.enter g (c.args.map (Frame.eval ⟨fn,tmps,.inRegion ops (i::rest)::k,defs,.run,kind,none⟩))) w,#[]):=rfl;simp only[u,ite_self,fe,G,List.cons_append];rfl
               . cases j
             . cases j
           . cases j
         . rename_i c L
           split at h
           . rename_i d hd
             obtain⟨W,j,e⟩:=Option.map_eq_some_iff.1 h;simp only[Prod.mk.injEq]at e;obtain⟨rfl,rfl⟩:=e
             have R:kQ P (execOp (Frame.eval ⟨fn,tmps,.inRegion ops (i::rest)::k,defs,.run,kind,none⟩) o)=some (.defer d):=by
              unfold Gg at hd;split at hd
              . rename_i g hg
                split at hd
                . rename_i ha
                  simp only[Option.some.injEq]at hd;subst hd;have em:(#[]:Array Operand).map (Frame.eval ⟨fn,tmps,.inRegion ops (i::rest)::k,defs,.run,kind,none⟩)=#[]:=by simp
                  simp only[execOp,L,resolve,hg,ha,em];rfl
                . cases hd
              . cases hd
             have p:=q.fin (x:=undef) j trivial;have e1:Frame.finish ⟨fn,tmps,.inRegion ops (i::rest)::k,d::defs,.run,kind,none⟩ undef={Frame.finish ⟨fn,tmps,.inRegion ops (i::rest)::k,defs,.run,kind,none⟩ undef with defers:=d::(Frame.finish ⟨fn,tmps,.inRegion ops (i::rest)::k,defs,.run,kind,none⟩ undef).defers}:=rfl;refine⟨{Frame.finish ⟨fn,tmps,.inRegion ops (i::rest)::k,defs,.run,kind,none⟩ undef with defers:=d::(Frame.finish ⟨fn,tmps,.inRegion ops (i::rest)::k,defs,.run,kind,none⟩ undef).defers},frs,⟨p.fn,p.todo,congrArg (List.cons d) p.defers,p.mode,p.kind,p.ro,p.size,p.env⟩,A,λcs=>⟨rfl,λmain w _=>?_⟩⟩;rw[lC X K,apply_pure R];have u:(pure (.defer d):Sem Next).runT P w #[]=(.ok (.defer d) w,#[]):=rfl;simp only[stepG.apply,if_true,u,ite_self,fe,GStep.after,G];rw[e1];rfl
           . cases h
         . rename_i al av
           split at h
           . rename_i v C
             obtain⟨W,j,e⟩:=Option.map_eq_some_iff.1 h;simp only[Prod.mk.injEq]at e;obtain⟨rfl,rfl⟩:=e;obtain⟨x,R,a9⟩:=LG hf (ρ':=Frame.eval ⟨fn,tmps,.inRegion ops (i::rest)::k,defs,.run,kind,none⟩) C (λz=>q.sv z);refine⟨_,frs,q.fin j a9,A,λcs=>⟨rfl,λmain w _=>?_⟩⟩;rw[lC X K,apply_pure R];have u:(pure (.value x):Sem Next).runT P w #[]=(.ok (.value x) w,#[]):=rfl;simp only[stepG.apply,if_true,u,ite_self,fe,GStep.after,G];rfl
           . cases h
   . cases h
theorem jW{P:Program}{Wd:World->Prop}{f:Fl}{y:Sy}(i:f.At y):∀(n:Nat){s:iq}{st:List iq}{fr:Frame}{frs:List Frame},FR y s fr->kg y st frs ->
 ∃m c a,FR y (sgo P f n s st).1 c/\kg y (sgo P f n s st).2 a/\∀cs,iV P Wd m (G fr (frs++cs)) (G c (a++cs))
 |0,s,st,fr,frs,g,b=>⟨0,fr,frs,g,b,λ_=>rfl⟩
 | n+1,s,st,fr,frs,g,b=>by
   unfold sgo;cases e:ss P f s st with
   |none=>exact⟨0,fr,frs,g,b,λ_=>rfl⟩
   |some p=>obtain⟨u,j⟩:=p;obtain⟨c,a,k,l,o⟩:=KZ i e g b;obtain⟨m,h,d,q,r,t⟩:=jW i n k l;exact⟨m+1,h,d,q,r,λcs=>⟨_,o cs,t cs⟩⟩
end Go.bG
