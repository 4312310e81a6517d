/- Part 12 of the proof. -/
import Derived.Conc.CrowdTrace
import Derived.Test.YtalogdafegmilaaGreatDoorC11
set_option linter.all false
namespace Go.aN
open Go.Conc
def ChanAt(w:World)(b:Nat):Prop:=∃cap buf cl s r tm,w.heap[b]?=some (.chan cap buf cl s r tm)
def Kept(kk:Nat->ag)(OO:Nat->ah)(w w':World)(b:Nat):Prop:=
 w'.heap[b]?=w.heap[b]?\/(ChanAt w b/\ChanAt w' b/\∀i,OO i b=none)\/
 ∃c c' e,w.heap[b]?=some (.cells c e (0,0))/\w'.heap[b]?=some (.cells c' e (0,0))/\c'.size=c.size/\(∀i x,OO i b=some x->∃f,x=.part f/\∀n,f n≠none->c'[n]?=c[n]?)/\∀n,c'[n]?=c[n]?\/∀i,(kk i).cell b n=none
def Calm(Z:Base)(w w':World):Prop:=(ll w.os w'.os/\w'.output=w.output)/\∀b,b<Z.W0.heap.size->w'.heap[b]?=w.heap[b]?
def GO(kk:Nat->ag)(OO:Nat->ah)(B:Nat):Loc->Prop
 |.cell ad=>ad.block<B/\∀i,¬aP (OO i) ad.block ad.off/\(kk i).cell ad.block ad.off=none
 |.obj r=>r<B/\∀i o,OO i r≠some (.obj o)
 |_=>True
def Told(Z:Base)(J M:Nat->Prop)(t:Trace)(n:Nat)(a:Touch):Prop:=Knows t 0 n\/(∃j,J j/\Knows t j n)\/(∃p,M p/\Before t n p)\/(Z.Shun a.loc/\a.kind=.atomic/\(t.counts n->n<Z.N0))
theorem xg{t:Trace}{B:Nat}(h:∀op∈t,op.act.low B){n:Nat}{a:Touch}(ha:touchAt t n=some a):match a.loc with|.cell ad=>ad.block<B|.obj r=>r<B|_=>True:=by
 obtain⟨x,hx,hxa⟩:=touch_of ha;have:=h x (Array.mem_of_getElem? hx);obtain⟨g',fn,pos,act⟩:=x;cases act with
 |access e=>simp only[MemAct.touch?,Option.some.injEq]at hxa;subst hxa;simp only[MemAct.low,Loc.low]at this;cases hl:e.loc<;>simp_all
 |mark m=>cases m<;>simp_all [MemAct.touch?,MemAct.low]<;>(subst hxa;simpa using this)
 |_=>simp[MemAct.touch?]at hxa
section
variable{Z:Base}{kk:Nat->ag}{OO:Nat->ah}{J M:Nat->Prop}{w:World}{t:Trace}
theorem bV.rY(h:bV Z kk OO J M w t)(Fl:Nat->Nat->Prop){u:Trace}{w':World}{kk':Nat->ag}{OO':Nat->ah}{J' M':Nat->Prop}
 (hw:w'.heap.size=w.heap.size) (hq:Calm Z w w') (hb:∀b,Kept kk OO w w' b) (hl:∀op∈u,op.act.low w.heap.size)
 (hfl:∀i j,Fl i j->∀n a,touchAt t n=some a->a.loc.isMemory=true -> ¬Z.Shun a.loc->ED Z t i n->ED Z (t++u) j n)
 (hc:∀j b n v,(kk' j).cell b n=some v->∃i,Fl i j/\(kk i).cell b n=some v)
 (hs:∀j b s,(kk' j).sh b=some s->∃i,Fl i j/\(kk i).sh b=some s)
 (ho:∀j b x,OO' j b=some x->∃i,Fl i j/\OO i b=some x/\∀s,(kk i).sh b=some s->(kk' j).sh b=some s)
 (hd:∀i j b x,i≠j->OO' i b=some x->OO' j b=none)
 (hr:∀said,¬Race said (t++u))
 (hu:∀op∈u,∀a,op.act.touch?=some a->a.loc.isMemory=true->GO kk OO w.heap.size a.loc)
 (hun:∀m op a,u[m]?=some op->op.act.touch?=some a->a.loc.isMemory=true->Told Z J' M' (t++u) (t.size+m) a)
 (ha:∀n a,touchAt t n=some a->a.loc.isMemory=true->((∃j,J j/\Knows t j n)\/(∃p,M p/\Before t n p))->Told Z J' M' (t++u) n a):bV Z kk' OO' J' M' w' (t++u):=by
 have hcov:∀j b n,aP (OO' j) b n->∃i,Fl i j/\aP (OO i) b n:=λj b n hcv=>by
  rcases hcv with⟨o,q⟩|⟨m,q,hm⟩|⟨f,q,hm⟩
  . obtain⟨i,h1,h2,_⟩:=ho j b _ q;exact⟨i,h1,.inl ⟨o,h2⟩⟩
  . obtain⟨i,h1,h2,_⟩:=ho j b _ q;exact⟨i,h1,.inr (.inl ⟨m,h2,hm⟩)⟩
  . obtain⟨i,h1,h2,_⟩:=ho j b _ q;exact⟨i,h1,.inr (.inr ⟨f,h2,hm⟩)⟩
 have hap:∀i j b n v,(kk i).cell b n=some v -> ¬aP (OO j) b n:=λi j b n v hv=>by
  by_cases e:i=j
  . subst e;exact(h.sat i).apart b n v hv
  . exact h.my j i b n v (Ne.symm e) hv
 have hkeep:∀i b x,OO i b=some x->(∀f,x≠.part f)->w'.heap[b]?=w.heap[b]?:=λi b x hx hnp=>by
  rcases hb b with h1|⟨_,_,h1⟩|⟨_,_,_,_,_,_,h1,_⟩
  . exact h1
  . rw[h1 i]at hx;cases hx
  . obtain⟨f,rfl,_⟩:=h1 i x hx
    exact absurd rfl (hnp f)
 have hold:∀{n:Nat}{a:Touch},touchAt (t++u) n=some a->(touchAt t n=some a/\n<t.size)\/∃m op,u[m]?=some op/\op.act.touch?=some a/\n=t.size+m:=λ{n a} ha=>by
  obtain⟨x,hx,hxa⟩:=touch_of ha;by_cases hn:n<t.size
  . rw[Array.getElem?_append_left hn]at hx
    exact .inl ⟨by rw[touchAt_of hx];exact hxa,hn⟩
  . rw[Array.getElem?_append_right (by omega)]at hx
    exact .inr ⟨n-t.size,x,hx,hxa,by omega⟩
 refine⟨λj=>⟨λb n v hv hcv=>?_,λb n v hv=>?_,λb s hsh=>?_,λb o hbo=>?_,λb n hbn=>?_,λb f hbf=>?_⟩,hd,λi j b n v hij hv hcv=>?_,λj n a hta hm=>?_,hr,λop hop=>?_,λn a hta hm=>?_,by simp;exact Nat.le_trans h.n0 (Nat.le_add_right _ _),h.An _,λa hz=>?_,λr hz=>?_,h.wo.step hq.1.1 hq.1.2 (by rw[hw];exact Nat.le_refl _) hq.2,λj b x hx=>by obtain⟨i,_,h1,_⟩:=ho j b x hx;exact h.mine i b x h1⟩
 . obtain⟨i,_,h1⟩:=hc j b n v hv
   obtain⟨l,_,h2⟩:=hcov j b n hcv;exact hap i l b n v h1 h2
 . obtain⟨i,_,h1⟩:=hc j b n v hv
   have h2:=(h.sat i).cell b n v h1;rcases hb b with h3|⟨⟨_,_,_,_,_,_,h3⟩,_⟩|⟨c,c',e,h3,h4,h5,_,h6⟩
   . simpa only[World.cell?,h3]using h2
   . simp[World.cell?,h3]at h2
   . rcases h6 n with h6|h6
     . simp only[World.cell?,h3,h4]at h2 ⊢
       rw[h6];exact h2
     . rw[h6 i]at h1;cases h1
 . obtain⟨i,_,h1⟩:=hs j b s hsh
   have h2:=(h.sat i).sh b s h1;rcases hb b with h3|⟨⟨_,_,_,_,_,_,h3⟩,_⟩|⟨c,c',e,h3,h4,h5,_,h6⟩
   . simpa only[World.shape?,h3]using h2
   . simp[World.shape?,h3]at h2
   . simp only[World.shape?,h3,h4]at h2 ⊢
     rw[h5];exact h2
 . obtain⟨i,_,h1,_⟩:=ho j b _ hbo
   rw[hkeep i b _ h1 (λ_ e=>by cases e)];exact(h.sat i).obj b o h1
 . obtain⟨i,_,h1,h2⟩:=ho j b _ hbn
   rw[hkeep i b _ h1 (λ_ e=>by cases e)];obtain⟨c,e,h3,h4⟩:=(h.sat i).tail b n h1;exact⟨c,e,h3,h2 _ h4⟩
 . obtain⟨i,_,h1,h2⟩:=ho j b _ hbf
   obtain⟨c,e,h3,h4,h5⟩:=(h.sat i).part b f h1;rcases hb b with q|⟨_,_,q⟩|⟨c0,c1,e0,q1,q2,q3,q4,_⟩
   . exact⟨c,e,by rw[q];exact h3,h2 _ h4,h5⟩
   . rw[q i]at h1;cases h1
   . obtain⟨f',ef,hf'⟩:=q4 i _ h1
     cases ef;rw[q1]at h3;cases h3;exact⟨c1,_,q2,by rw[q3];exact h2 _ h4,λn v hv=>by rw[hf' n (by rw[hv];simp)];exact h5 n v hv⟩
 . obtain⟨l,_,h1⟩:=hc j b n v hv
   obtain⟨l',_,h2⟩:=hcov i b n hcv;exact hap l l' b n v h1 h2
 . rcases hold hta with⟨hta',hlt⟩|⟨m,op,h1,h2,rfl⟩
   . by_cases hK:∃i,Fl i j/\ED Z t i n/\¬Z.Shun a.loc
     . obtain⟨i,h1,h2,h3⟩:=hK
       exact .inl (hfl i j h1 n a hta' hm h3 h2)
     . refine .inr ?_
       have hlow:=xg h.seen hta'
       have hAw:∀i,Fl i j->nE (kk i) (OO i) w.heap.size a:=λi hi=>by
        by_cases hz:Z.Shun a.loc
        . unfold nE
          split
          . next ad hl=>rw[hl]at hz;have:=h.jE ad hz;exact⟨this.1,(this.2 i).1,.inl (this.2 i).2⟩
          . next r hl=>rw[hl]at hz;have:=h.mz r hz;exact⟨this.1,this.2 i⟩
          . trivial
        . rcases h.yB i n a hta' hm with h1|h1
          . exact absurd ⟨i,hi,h1,hz⟩ hK
          . exact h1
       unfold nE;split
       . next ad hl=>
         rw[hl]at hlow;refine⟨by rw[hw];exact hlow,λhcv=>?_,?_⟩
         . obtain⟨i,h1,h2⟩:=hcov j _ _ hcv
           have:=hAw i h1;unfold nE at this;rw[hl]at this;exact this.2.1 h2
         . cases q:(kk' j).cell ad.block ad.off with
           |none=>exact .inl rfl
           | some v=>
             obtain⟨i,h1,h2⟩:=hc j _ _ v q;have:=hAw i h1;unfold nE at this;rw[hl]at this;rcases this.2.2 with h3|h3
             . rw[h3]at h2;cases h2
             . exact .inr h3
       . next r hl=>
         rw[hl]at hlow;refine⟨by rw[hw];exact hlow,λo hbo=>?_⟩;obtain⟨i,h1,h2,_⟩:=ho j r _ hbo;have:=hAw i h1;unfold nE at this;rw[hl]at this;exact this.2 o h2
       . trivial
   . refine .inr ?_
     have:=hu op (Array.mem_of_getElem? h1) a h2 hm;unfold nE;split
     . next ad hl=>
       rw[hl]at this;refine⟨by rw[hw];exact this.1,λhcv=>?_,.inl ?_⟩
       . obtain⟨i,_,h3⟩:=hcov j _ _ hcv
         exact(this.2 i).1 h3
       . cases q:(kk' j).cell ad.block ad.off with
         |none=>rfl
         |some v=>obtain⟨i,_,h3⟩:=hc j _ _ v q;rw[(this.2 i).2]at h3;cases h3
     . next r hl=>
       rw[hl]at this;refine⟨by rw[hw];exact this.1,λo hbo=>?_⟩;obtain⟨i,_,h3,_⟩:=ho j r _ hbo;exact this.2 i o h3
     . trivial
 . rw[hw]
   rcases Array.mem_append.1 hop with hop|hop
   . exact h.seen op hop
   . exact hl op hop
 . rcases hold hta with⟨hta',hlt⟩|⟨m,op,h1,h2,rfl⟩
   . rcases h.acc n a hta' hm with h1|h1|h1|h1
     . exact .inl (h1.app _)
     . exact ha n a hta' hm (.inl h1)
     . exact ha n a hta' hm (.inr h1)
     . exact .inr (.inr (.inr ⟨h1.1,h1.2.1,λhc=>h1.2.2 ((qa hlt).1 hc)⟩))
   . exact hun m op a h1 h2 hm
 . obtain⟨h1,h2⟩:=h.jE a hz
   refine⟨by rw[hw];exact h1,λj=>⟨λhcv=>?_,?_⟩⟩
   . obtain⟨i,_,h3⟩:=hcov j _ _ hcv
     exact(h2 i).1 h3
   . cases q:(kk' j).cell a.block a.off with
     |none=>rfl
     |some v=>obtain⟨i,_,h3⟩:=hc j _ _ v q;rw[(h2 i).2]at h3;cases h3
 . obtain⟨h1,h2⟩:=h.mz r hz
   refine⟨by rw[hw];exact h1,λj o hbo=>?_⟩;obtain⟨i,_,h3,_⟩:=ho j r _ hbo;exact h2 i o h3
theorem bV.Pm(h:bV Z kk OO J M w t)(h0:0≠Z.lk){b:Nat}{f:Nat->Option Value}(hb:∀i,OO i b=none)(hf:∀n v,f n=some v->∀i,(kk i).cell b n=none)
 (hz:∀ad:Addr,ad.block=b->f ad.off≠none -> ¬Z.Shun (.cell ad)) (hw:∃c e,w.heap[b]?=some (.cells c e (0,0))/\(kk 0).sh b=some (e,c.size)/\∀n v,f n=some v->c[n]?=some v)
 (hk:∀m a ad,touchAt t m=some a->a.loc=.cell ad->ad.block=b->f ad.off≠none->Knows t 0 m) (hlow:Z.W0.heap.size<=b):bV Z kk (bv OO 0 ((OO 0).set b (.part f))) J M w t:=by
 have hf':∀n,f n≠none->∀i,(kk i).cell b n=none:=λn hn i=>by
  cases q:f n with
  |none=>exact absurd q hn
  |some v=>exact hf n v q i
 have hcov:∀c n,aP ((OO 0).set b (.part f)) c n->aP (OO 0) c n\/(c=b/\f n≠none):=λc n hc=>by
  by_cases hcb:c=b
  . subst hcb
    rcases hc with⟨o,q⟩|⟨m,q,_⟩|⟨g,q,hg⟩
    . simp[ah.set]at q
    . simp[ah.set]at q
    . simp only[ah.set,if_true,Option.some.injEq,Own.part.injEq]at q
      subst q;exact .inr ⟨rfl,hg⟩
  . exact .inl (by simpa[aP,ah.set,hcb]using hc)
 have hS:Sat (kk 0) ((OO 0).set b (.part f)) w:=by
  refine⟨λc n v hv hc=>?_,(h.sat 0).cell,(h.sat 0).sh,λc o hc=>?_,λc n hc=>?_,λc g hc=>?_⟩
  . rcases hcov c n hc with hc|⟨rfl,hg⟩
    . exact(h.sat 0).apart c n v hv hc
    . rw[hf' n hg 0]at hv;cases hv
  . by_cases hcb:c=b
    . subst hcb;simp[ah.set]at hc
    . exact(h.sat 0).obj c o (by simpa[ah.set,hcb]using hc)
  . by_cases hcb:c=b
    . subst hcb;simp[ah.set]at hc
    . exact(h.sat 0).tail c n (by simpa[ah.set,hcb]using hc)
  . by_cases hcb:c=b
    . subst hcb
      simp only[ah.set,if_true,Option.some.injEq,Own.part.injEq]at hc;subst hc;exact hw
    . exact(h.sat 0).part c g (by simpa[ah.set,hcb]using hc)
 have hblt:b<w.heap.size:=by obtain⟨c,e,h1,_⟩:=hw;exact(Array.getElem?_eq_some_iff.1 h1).1
 refine⟨λi=>?_,λi j c x hij hx=>?_,λi j c n v hij hv hc=>?_,λi n a ha hm=>?_,h.clean,h.seen,h.acc,h.n0,h.u0,λa ha=>⟨(h.jE a ha).1,λi=>⟨λhc=>?_,((h.jE a ha).2 i).2⟩⟩,λr hr=>⟨(h.mz r hr).1,λi o hc=>?_⟩,h.wo,λi c x hc=>?_⟩
 . by_cases hi:i=0
   . subst hi;rw[an];exact hS
   . rw[ar _ _ hi];exact h.sat i
 . by_cases hcb:c=b
   . subst hcb
     by_cases hj:j=0
     . subst hj
       rw[ar _ _ hij,hb i]at hx;cases hx
     . rw[ar _ _ hj];exact hb j
   . have e:∀l,bv OO 0 ((OO 0).set b (.part f)) l c=OO l c:=λl=>by
      by_cases hl:l=0
      . subst hl;rw[an];simp[ah.set,hcb]
      . rw[ar _ _ hl]
     rw[e]at hx ⊢;exact h.iV i j c x hij hx
 . by_cases hi:i=0
   . subst hi
     rw[an]at hc
     rcases hcov c n hc with hc|⟨rfl,hg⟩
     . exact h.my 0 j c n v hij hv hc
     . rw[hf' n hg j]at hv;cases hv
   . rw[ar _ _ hi]at hc;exact h.my i j c n v hij hv hc
 . by_cases hi:i=0
   . subst hi
     rw[an]
     rcases h.yB 0 n a ha hm with h1|h1
     . exact .inl h1
     . unfold nE at h1 ⊢
       split
       . next ad hl=>
         rw[hl]at h1
         by_cases hg:ad.block=b/\f ad.off≠none
         . exact .inl ((mR h0).2 (hk n a ad ha hl hg.1 hg.2))
         . refine .inr ⟨h1.1,λhc=>?_,h1.2.2⟩
           rcases hcov _ _ hc with hc|hc
           . exact h1.2.1 hc
           . exact hg hc
       . next r hl=>
         rw[hl]at h1;refine .inr ⟨h1.1,λo hc=>?_⟩
         by_cases hcb:r=b
         . subst hcb;simp[ah.set]at hc
         . exact h1.2 o (by simpa[ah.set,hcb]using hc)
       . exact .inr trivial
   . rw[ar _ _ hi];exact h.yB i n a ha hm
 . by_cases hi:i=0
   . subst hi
     rw[an]at hc
     rcases hcov _ _ hc with hc|⟨e,hg⟩
     . exact((h.jE a ha).2 0).1 hc
     . exact hz a e hg ha
   . rw[ar _ _ hi]at hc;exact((h.jE a ha).2 i).1 hc
 . by_cases hi:i=0
   . subst hi
     rw[an]at hc
     by_cases hcb:r=b
     . subst hcb;simp[ah.set]at hc
     . exact(h.mz r hr).2 0 o (by simpa[ah.set,hcb]using hc)
   . rw[ar _ _ hi]at hc;exact(h.mz r hr).2 i o hc
 . by_cases hi:i=0
   . subst hi
     rw[an]at hc
     by_cases hcb:c=b
     . subst hcb;exact hlow
     . exact h.mine 0 c x (by simpa[ah.set,hcb]using hc)
   . rw[ar _ _ hi]at hc;exact h.mine i c x hc
theorem qT(b:Nat):ah.bot b=none:=rfl
theorem bV.start{P:Program}{k:ag}{O:ah}{g:Goroutine}{gs:Array Goroutine}{w W0:World}{t:Trace}(h:ed P W0 k O g gs w t)(lk:Nat)(la:Addr)(hlk:0≠lk):
 ∃Z:Base,Z.N0=t.size/\Z.lk=lk/\Z.la=la/\Z.W0=W0/\gs[0]?=some g/\(∃q,Leavers P t gs q)/\Deaf t 0=0/\bV Z (bv (λ_=>ag.bot) 0 k) (bv (λ_=>ah.bot) 0 O) (λ_=>False) (λ_=>False) w t/\∀n a,touchAt t n=some a->a.loc.isMemory=true->Knows t 0 n\/(Z.Shun a.loc/\a.kind=.atomic):=by
 obtain⟨Shun,q,h0,hL,hP,hc,ho,hs,hfr,hmn⟩:=h;refine⟨⟨Shun,t.size,lk,la,W0⟩,rfl,rfl,rfl,rfl,h0,⟨q,hL⟩,hP.hears,?_,hP.known⟩
 have hz:∀i,i=0\/(bv (λ_=>ag.bot) 0 k i=ag.bot/\bv (λ_=>ah.bot) 0 O i=ah.bot):=λi=>by
  by_cases hi:i=0
  . exact .inl hi
  . exact .inr ⟨ar _ _ hi,ar _ _ hi⟩
 refine⟨λi=>?_,λi j b x hij hx=>?_,λi j b n v hij hv=>?_,λi n a ha hm=>?_,hP.clean,hP.seen,λn a ha hm=>?_,Nat.le_refl _,λn g hn hg hg0 hcn=>hP.over n g hg hg0 hcn,λa ha=>?_,λr hr=>?_,hfr,λi b x hx=>?_⟩
 . rcases hz i with rfl|⟨e1,e2⟩
   . rw[an,an];exact hs
   . rw[e1,e2]
     exact⟨λ_ _ _ h=>(by cases h),λ_ _ _ h=>(by cases h),λ_ _ h=>(by cases h),λ_ _ h=>(by cases h),λ_ _ h=>(by cases h),λ_ _ h=>(by cases h)⟩
 . rcases hz i with rfl|⟨_,e⟩
   . rw[ar _ _ (Ne.symm hij)];rfl
   . rw[e]at hx;cases hx
 . rcases hz j with rfl|⟨e,_⟩
   . rw[ar _ _ hij];exact dH (qT b)
   . rw[e]at hv;cases hv
 . have hlow:=xg hP.seen ha
   have hbot:nE ag.bot ah.bot w.heap.size a:=by
    unfold nE;split
    . next ad hl=>rw[hl]at hlow;exact⟨hlow,dH (qT _),.inl rfl⟩
    . next r hl=>rw[hl]at hlow;exact⟨hlow,λo hc=>by cases hc⟩
    . trivial
   rcases hz i with rfl|⟨e1,e2⟩
   . rw[an,an]
     rcases hP.known n a ha hm with h1|⟨h1,h2⟩
     . exact .inl ((mR hlk).2 h1)
     . refine .inr ?_
       unfold nE;split
       . next ad hl=>rw[hl]at h1;obtain⟨p1,p2,p3⟩:=hc ad h1;exact⟨p1,p2,.inl p3⟩
       . next r hl=>rw[hl]at h1;exact ho r h1
       . trivial
   . rw[e1,e2];exact .inr hbot
 . rcases hP.known n a ha hm with h1|⟨h1,h2⟩
   . exact .inl h1
   . refine .inr (.inr (.inr ⟨h1,h2,λ_=>?_⟩))
     obtain⟨x,hx,_⟩:=touch_of ha;exact lt_size_of_getElem? hx
 . obtain⟨p1,p2,p3⟩:=hc a ha
   refine⟨p1,λi=>?_⟩;rcases hz i with rfl|⟨e1,e2⟩
   . rw[an,an];exact⟨p2,p3⟩
   . rw[e1,e2];exact⟨dH (qT _),rfl⟩
 . obtain⟨p1,p2⟩:=ho r hr
   refine⟨p1,λi o hi=>?_⟩;rcases hz i with rfl|⟨e1,e2⟩
   . rw[an]at hi;exact p2 o hi
   . rw[e2]at hi;cases hi
 . rcases hz i with rfl|⟨_,e2⟩
   . rw[an]at hx;exact hmn b x hx
   . rw[e2]at hx;cases hx
theorem bV.finish{P:Program}{g:Goroutine}{gs:Array Goroutine}{q:Nat->Nat}(h:bV Z kk OO (λ_=>False) (λ_=>False) w t)(h0:gs[0]?=some g)(hL:Leavers P t gs q)(hd:Deaf t 0=0):ed P Z.W0 (kk 0) (OO 0) g gs w t:=by
 refine⟨Z.Shun,q,h0,hL,⟨h.clean,λn a ha hm=>?_,λn g' hg hg0 hc=>?_,hd,h.seen⟩,λa ha=>?_,λr hr=>?_,h.sat 0,h.wo,h.mine 0⟩
 . rcases h.acc n a ha hm with h1|⟨_,h1,_⟩|⟨_,h1,_⟩|⟨h1,h2,_⟩
   . exact .inl h1
   . exact h1.elim
   . exact h1.elim
   . exact .inr ⟨h1,h2⟩
 . by_cases hn:n<Z.N0
   . exact h.u0 n g' hn hg hg0 hc
   . have hc0:=hc
     obtain⟨a,ha,hm,_⟩:=hc;rcases h.acc n a ha hm with h1|⟨_,h1,_⟩|⟨_,h1,_⟩|⟨_,_,h1⟩
     . obtain⟨p,z,hz,hzg,hb⟩:=h1
       rcases hb with rfl|hb
       . rw[Trace.g?,hz]at hg
         simp only[Option.map_some,Option.some.injEq]at hg;exact absurd (hg.symm.trans hzg) hg0
       . exact⟨p,by simp[Trace.g?,hz,hzg],hb⟩
     . exact h1.elim
     . exact h1.elim
     . exact absurd (h1 hc0) hn
 . exact⟨(h.jE a ha).1,((h.jE a ha).2 0).1,((h.jE a ha).2 0).2⟩
 . exact⟨(h.mz r hr).1,(h.mz r hr).2 0⟩
theorem bV.qc(h:bV Z kk OO J M w t)(S:Loc->Prop)(hC:∀a,S (.cell a)->a.block<w.heap.size/\∀i,¬aP (OO i) a.block a.off/\(kk i).cell a.block a.off=none)(hO:∀r,¬S (.obj r)):
 bV ⟨λl=>Z.Shun l\/S l,Z.N0,Z.lk,Z.la,Z.W0⟩ kk OO J M w t:=
 ⟨h.sat,h.iV,h.my,h.yB,h.clean,h.seen,λn a ha hm=>(h.acc n a ha hm).imp id (·.imp id (·.imp id λx=>⟨.inl x.1,x.2⟩)),h.n0,h.u0,
   λa ha=>ha.elim (h.jE a) (hC a),λr hr=>hr.elim (h.mz r) (λx=>absurd x (hO r)),h.wo,h.mine⟩
end
def kP(u:Trace):Prop:=∀op∈u,op.act≠.mark .disable/\op.act≠.mark .enable
theorem rZ{t u:Trace}(hu:kP u)(g:Nat):∀m,m<=u.size->(t++u).deaf g (t.size+m)=Deaf t g
 |0,_=>deaf_old (Nat.le_refl _)
 | m+1,h=>by
   have hm:m<u.size:=by omega
   have hx:(t++u)[t.size+m]?=some u[m]:=by rw[Array.getElem?_append_right (by omega)];simp[hm]
   rw[<-Nat.add_assoc,deaf_succ hx,rZ hu g m (by omega)]
   have:=hu u[m] (Array.getElem_mem hm);unfold deafStep;split
   . next e=>exact absurd e this.1
   . next e=>exact absurd e this.2
   . rfl
theorem bK{t u:Trace}(hu:kP u)(g:Nat):Deaf (t++u) g=Deaf t g:=by have:=rZ (t:=t) hu g u.size (Nat.le_refl _);unfold Deaf at *;rw[Array.size_append];exact this
theorem cY{t u:Trace}{m:Nat}{op:MemOp}(h:u[m]?=some op):(t++u)[t.size+m]?=some op:=by rw[Array.getElem?_append_right (by omega)];simpa using h
theorem heard_new{t u:Trace}(hu:kP u){m:Nat}{op:MemOp}(h:u[m]?=some op)(hd:Deaf t op.g=0):(t++u).heard (t.size+m):=by have hm:=(Array.getElem?_eq_some_iff.1 h).1;exact⟨op.g,by simp[Trace.g?,cY h],by rw[rZ hu _ _ (by omega)];exact hd⟩
section
variable{t u:Trace}{i j n:Nat}
theorem kQ(hk:Knows t i n){m:Nat}{op:MemOp}(h:u[m]?=some op)(hg:op.g=i):Before (t++u) n (t.size+m):=.inr (hk.hb_new (by omega) (cY h) hg)
theorem u6(hu:kP u){c k m1 m2:Nat}{x y:MemOp}(hx:u[m1]?=some x)(hy:u[m2]?=some y)(ax:x.act=.send c k)(ay:y.act=.recvDone c k)(dx:Deaf t x.g=0)(dy:Deaf t y.g=0)(hk:Knows t x.g n):Knows (t++u) y.g n:=by
 have h1:=kQ hk hx rfl;have h2:HappensBefore (t++u) (t.size+m1) (t.size+m2):=.single (.inr ⟨.handOver (c:=c) (k:=k) (by rw[act?_of (cY hx),ax]) (by rw[act?_of (cY hy),ay]),heard_new hu hx dx,heard_new hu hy dy⟩);exact⟨t.size+m2,y,cY hy,rfl,h1.trans (.inr h2)⟩
theorem yC(hu:kP u){c m p:Nat}{y:MemOp}(hy:u[m]?=some y)(hp:t.act? p=some (.close c))(hh:t.heard p)(ay:y.act=.recvClosed c)(dy:Deaf t y.g=0)(hb:Before t n p):Knows (t++u) y.g n:=by
 have hpl:=lt_of_act? hp;have h2:HappensBefore (t++u) p (t.size+m):=.single (.inr ⟨.closed (c:=c) (by rw[act?_old hpl];exact hp) (by rw[act?_of (cY hy),ay]),(heard_old hpl).2 hh,heard_new hu hy dy⟩);exact⟨t.size+m,y,cY hy,rfl,(hb.app u).trans (.inr h2)⟩
theorem te(hu:kP u){c m1 m2:Nat}{x y:MemOp}(hx:u[m1]?=some x)(hy:u[m2]?=some y)(ax:x.act=.go y.g)(ay:y.act=.start)(dx:Deaf t x.g=0)(dy:Deaf t y.g=0)(hk:Knows t x.g n):Knows (t++u) y.g n:=by
 have h1:=kQ hk hx rfl;have h2:HappensBefore (t++u) (t.size+m1) (t.size+m2):=.single (.inr ⟨.spawn (child:=y.g) (by rw[act?_of (cY hx),ax]) (by rw[act?_of (cY hy),ay]) (by simp[Trace.g?,cY hy]),heard_new hu hx dx,heard_new hu hy dy⟩);exact⟨t.size+m2,y,cY hy,rfl,h1.trans (.inr h2)⟩
end
theorem pr{t u:Trace}(hu:kP u){a:Addr}{m p n:Nat}{y:MemOp}(hy:u[m]?=some y)(ay:y.act=.mark (.acquire a))(dy:Deaf t y.g=0)(hp:t.act? p=some (.mark (.releaseMerge a)))(hh:t.heard p)(hno:∀k,p<k->(t++u).act? k≠some (.mark (.release a)))(hb:Before t n p):Knows (t++u) y.g n:=by
 have hpl:=lt_of_act? hp;have h2:HappensBefore (t++u) p (t.size+m):=.single (.inr ⟨.marked (a:=a) (by omega) (.inr (by rw[act?_old hpl];exact hp)) (by rw[act?_of (cY hy),ay]) (λk hk _=>hno k hk),(heard_old hpl).2 hh,heard_new hu hy dy⟩);exact⟨t.size+m,y,cY hy,rfl,(hb.app u).trans (.inr h2)⟩
theorem u'{k:ag}{O:ah}{B:Nat}{es:Array Event}(h:∀e∈es.toList,iJ k O B e)(g:Nat)(fn:FuncId)(pos:String):kP (MemOp.ofEvents g fn pos es):=λop hop=>by
 obtain⟨e,he,rfl⟩:=Go.Conc.mem_ofEvents hop;have:=h e (by simpa using he);obtain⟨loc,wr,sy⟩:=e;cases loc with
 |cell ad=>simp[MemAct.ofEvent]
 |obj r=>cases wr<;>cases sy<;>simp[MemAct.ofEvent]
 |mark m=>simp only[iJ]at this;cases m<;>simp_all [js,lM,MemAct.ofEvent]
 |_=>simp[iJ]at this
end Go.aN
namespace Go.aN.Mu
structure Wd where
 L:Bool
 K:Bool
 S:Bool
 N:Nat
 deriving DecidableEq
def Wd.zero:Wd:=⟨false,false,false,0⟩
structure Lo where
 aw:Bool
 sv:Bool
 it:Nat
 deriving DecidableEq
inductive Pc where
 |out
 |gx
 |rd (l:Lo)
 |sq (old:Wd) (l:Lo)
 |sw (old:Wd) (l:Lo)
 |jS (old:Wd) (l:Lo)
 |fN (sv:Bool)
 |tq
 |up (sv:Bool)
 |add (old:Wd) (sv:Bool)
 |held
 |iC (old:Wd)
 |tF
 |give
 |bad
 deriving DecidableEq
def hd(old:Wd)(l:Lo):List Pc:=(if old.L && !old.S && decide (l.it<4)then[if !l.aw && !old.K && decide (old.N≠0)then .sw old l else .rd {l with it:=l.it+1}]else[])++[.jS old l]
def nx(old:Wd)(l:Lo):Pc:=if old.L && !old.S then .sq old l else .jS old l
def n7(old:Wd)(l:Lo):Wd:=⟨old.L||!old.S,if l.aw then false else old.K,old.S||(l.sv && old.L),if old.L||old.S then old.N+1 else old.N⟩
structure Sh where
 w:Wd
 ms:Nat
 deriving DecidableEq
def mv(p:Pc)(s:Sh):List (Pc × Sh):=
 match p with
 |.out=>[]
 |.gx=>if s.w=.zero then[(.held,{s with w:={Wd.zero with L:=true}})]else[(.rd ⟨false,false,0⟩,s)]
 |.rd l=>[(nx s.w l,s)]
 |.sq old l=>(hd old l).map (·,s)
 |.sw old l=>if s.w=old then[(.rd {l with aw:=true,it:=l.it+1},{s with w:={old with K:=true}})]else[(.rd {l with it:=l.it+1},s)]
 | .jS old l=>
   if l.aw && !old.K then[(.bad,s)]else
   if s.w=old then[(if old.L||old.S then .fN l.sv else .held,{s with w:=n7 old l})]else[(.rd l,s)]
 |.fN sv=>if s.ms=0 then[]else[(if sv then .up true else .tq,{s with ms:=s.ms-1})]
 |.tq=>[(.up false,s),(.up true,s)]
 |.up sv=>if s.w.S then(if s.w.L||s.w.K||decide (s.w.N=0)then[(.bad,s)]else[(.add s.w sv,s)])else[(nx s.w ⟨true,sv,0⟩,s)]
 |.add old sv=>[(.held,{s with w:={s.w with L:=true,S:=s.w.S && !(!sv||decide (old.N=1)),N:=s.w.N-1}})]
 | .held=>
   let w:={s.w with L:=false}
   if s.w.L=false then[(.bad,s)]else
   [(if w=.zero then .out else if w.S then .give else if decide (w.N=0)||w.K then .out else .iC w,{s with w})]
 |.iC old=>if s.w=old then[(.give,{s with w:={old with K:=true,N:=old.N-1}})]else[(.tF,s)]
 |.tF=>[(if decide (s.w.N=0)||s.w.L||s.w.K||s.w.S then .out else .iC s.w,s)]
 |.give=>[(.out,{s with ms:=s.ms+1})]
 |.bad=>[]
def eN(n:Nat)(f:Nat->Nat):Nat:=match n with
 |0=>0
 |n+1=>eN n f+f n
def set(pcs:Nat->Pc)(i:Nat)(p:Pc):Nat->Pc:=λj=>if j=i then p else pcs j
theorem ao(pcs:Nat->Pc)(i:Nat)(p:Pc):set pcs i p i=p:=by simp[set]
theorem ai(pcs:Nat->Pc){i j:Nat}(p:Pc)(h:j≠i):set pcs i p j=pcs j:=by simp[set,h]
theorem r6{f g:Nat->Nat}:∀{n:Nat},(∀i,i<n->f i=g i)->eN n f=eN n g
 |0,_=>rfl
 |n+1,h=>by rw[eN,eN,r6 (n:=n) λi hi=>h i (by omega),h n (by omega)]
theorem fL(f:Pc->Nat)(pcs:Nat->Pc)(i:Nat)(p:Pc):∀{n:Nat},i<n->eN n (λj=>f (set pcs i p j))+f (pcs i)=eN n (λj=>f (pcs j))+f p
 |0,h=>by omega
 | n + 1,h=>by
   by_cases e:i=n
   . subst e
     rw[eN,eN,ao,r6 (g:=λj=>f (pcs j)) λj hj=>by rw[ai pcs p (show j≠i by omega)]];omega
   . have:=fL f pcs i p (n:=n) (by omega)
     rw[eN,eN,ai pcs p (show n≠i by omega)];omega
theorem ij(f:Nat->Nat){i:Nat}:∀{n:Nat},i<n->f i<=eN n f
 |0,h=>by omega
 | n+1,h=>by
   rw[eN];by_cases e:i=n
   . subst e;omega
   . have:=ij f (n:=n) (i:=i) (by omega);omega
theorem Ao{f:Nat->Nat}:∀{n:Nat},eN n f=0->∀i,i<n->f i=0
 |0,_,i,hi=>by omega
 | n+1,h,i,hi=>by
   rw[eN]at h;by_cases e:i=n
   . subst e;omega
   . exact Ao (n:=n) (by omega) i (by omega)
def bI:Pc->Nat|.held=>1|_=>0
def fj:Pc->Nat|.rd l=>l.aw.toNat|.sq _ l=>l.aw.toNat|.sw _ l=>l.aw.toNat|.jS _ l=>l.aw.toNat|_=>0
def ci:Pc->Nat|.fN _=>1|_=>0
def cj:Pc->Nat|.give=>1|_=>0
def lS:Pc->Nat|.tq=>1|.up _=>1|_=>0
def cQ:Pc->Nat|.add _ _=>1|_=>0
def gy:Pc->Nat|.iC _=>1|.tF=>1|_=>0
def loc:Pc->Prop
 |.rd l=>(l.sv=true->l.aw=true)/\l.it<=4
 |.sq old l=>(l.aw=true->old.K=true)/\(l.sv=true->l.aw=true)/\l.it<=4/\old.L=true/\old.S=false
 |.sw old l=>l.aw=false/\l.sv=false/\old.L=true/\old.S=false/\old.K=false/\l.it<4
 |.jS old l=>(l.aw=true->old.K=true)/\(l.sv=true->l.aw=true)/\l.it<=4
 |.iC old=>old.L=false/\old.K=false/\old.S=false/\old.N≠0
 |.bad=>False
 |_=>True
structure Inv0(n:Nat)(pcs:Nat->Pc)(s:Sh):Prop where
 j0:∀i,i<n->loc (pcs i)
 j1:eN n (λi=>bI (pcs i))=s.w.L.toNat
 j2:s.w.S=false->eN n (λi=>fj (pcs i))+eN n (λi=>cj (pcs i))+s.ms+eN n (λi=>lS (pcs i))=s.w.K.toNat/\eN n (λi=>cQ (pcs i))=0/\eN n (λi=>ci (pcs i))=s.w.N+eN n (λi=>cj (pcs i))+s.ms
 j3:s.w.S=true->s.w.K=false/\eN n (λi=>fj (pcs i))=0/\eN n (λi=>cj (pcs i))+s.ms+eN n (λi=>lS (pcs i))+eN n (λi=>cQ (pcs i))=(!s.w.L).toNat/\eN n (λi=>ci (pcs i))+eN n (λi=>lS (pcs i))+eN n (λi=>cQ (pcs i))=s.w.N
 j4:s.w.L=false->s.w.K=false->s.w.S=false->s.w.N≠0->0<eN n (λi=>gy (pcs i))
theorem LU{old:Wd}{l:Lo}(h1:l.sv=true->l.aw=true)(h2:l.it<=4)(h3:l.aw=true->old.K=true){p:Pc}(h:p∈hd old l):loc p/\fj p=l.aw.toNat/\bI p=0/\ci p=0/\cj p=0/\lS p=0/\cQ p=0/\gy p=0:=by
 obtain⟨aw,sv,it⟩:=l;obtain⟨oL,oK,oS,oN⟩:=old;simp only at h1 h2 h3;unfold hd at h;simp only[List.mem_append,List.mem_singleton]at h;rcases h with h|rfl
 . split at h
   . rename_i hc
     simp at hc;simp only[List.mem_singleton]at h;subst h;split
     . rename_i hk
       simp at hk;obtain⟨⟨ha,hK⟩,hN⟩:=hk;subst ha;have:sv=false:=by cases sv with|false=>rfl|true=>simp at h1
       simp[loc,fj,bI,ci,cj,lS,cQ,gy,hc,this,hK]
     . exact⟨⟨h1,by have:=hc.2;simp;omega⟩,rfl,rfl,rfl,rfl,rfl,rfl,rfl⟩
   . simp at h
 . exact⟨⟨h3,h1,h2⟩,rfl,rfl,rfl,rfl,rfl,rfl,rfl⟩
theorem GP{old:Wd}{l:Lo}(h1:l.sv=true->l.aw=true)(h2:l.it<=4)(h3:l.aw=true->old.K=true):loc (nx old l)/\fj (nx old l)=l.aw.toNat/\bI (nx old l)=0/\ci (nx old l)=0/\cj (nx old l)=0/\lS (nx old l)=0/\cQ (nx old l)=0/\gy (nx old l)=0:=by
 unfold nx;split
 . rename_i h
   simp at h;exact⟨⟨h3,h1,h2,h.1,h.2⟩,rfl,rfl,rfl,rfl,rfl,rfl,rfl⟩
 . exact⟨⟨h3,h1,h2⟩,rfl,rfl,rfl,rfl,rfl,rfl,rfl⟩
set_option maxHeartbeats 2000000 in
theorem Inv0.step{n:Nat}{pcs:Nat->Pc}{s s':Sh}{i:Nat}{q:Pc}(h:Inv0 n pcs s)(hi:i<n)(hm:(q,s')∈mv (pcs i) s):Inv0 n (set pcs i q) s':=by
 have H:=fL bI pcs i q hi;have A:=fL fj pcs i q hi;have P:=fL ci pcs i q hi;have G:=fL cj pcs i q hi;have U:=fL lS pcs i q hi;have D:=fL cQ pcs i q hi;have R:=fL gy pcs i q hi;have gH:=ij (λj=>bI (pcs j)) hi
 have gA:=ij (λj=>fj (pcs j)) hi
 have gP:=ij (λj=>ci (pcs j)) hi
 have gG:=ij (λj=>cj (pcs j)) hi
 have gU:=ij (λj=>lS (pcs j)) hi
 have gD:=ij (λj=>cQ (pcs j)) hi
 have gR:=ij (λj=>gy (pcs j)) hi
 have hl:=h.j0 i hi;obtain⟨⟨wL,wK,wS,wN⟩,ms⟩:=s;have j1:=h.j1;have j2:=h.j2;have j3:=h.j3;have j4:=h.j4;simp only at j1 j2 j3 j4
 have key:∀(w':Wd) (ms':Nat),s'=⟨w',ms'⟩->loc q->(eN n (λj=>bI (set pcs i q j))=w'.L.toNat) ->
  (w'.S=false->eN n (λj=>fj (set pcs i q j))+eN n (λj=>cj (set pcs i q j))+ms'+eN n (λj=>lS (set pcs i q j))=w'.K.toNat/\eN n (λj=>cQ (set pcs i q j))=0/\eN n (λj=>ci (set pcs i q j))=w'.N+eN n (λj=>cj (set pcs i q j))+ms') ->
  (w'.S=true->w'.K=false/\eN n (λj=>fj (set pcs i q j))=0/\eN n (λj=>cj (set pcs i q j))+ms'+eN n (λj=>lS (set pcs i q j))+eN n (λj=>cQ (set pcs i q j))=(!w'.L).toNat/\eN n (λj=>ci (set pcs i q j))+eN n (λj=>lS (set pcs i q j))+eN n (λj=>cQ (set pcs i q j))=w'.N) ->
  (w'.L=false->w'.K=false->w'.S=false->w'.N≠0->0<eN n (λj=>gy (set pcs i q j)))->Inv0 n (set pcs i q) s':=by
  rintro w' ms' rfl k0 k1 k2 k3 k4
  refine⟨λj hj=>?_,k1,k2,k3,k4⟩
  by_cases e:j=i
  . subst e;rw[ao];exact k0
  . rw[ai pcs q e];exact h.j0 j hj
 generalize hp:pcs i=p at *;generalize eN n (λj=>bI (set pcs i q j))=H' at *
 generalize eN n (λj=>fj (set pcs i q j))=A' at *
 generalize eN n (λj=>ci (set pcs i q j))=P' at *
 generalize eN n (λj=>cj (set pcs i q j))=G' at *
 generalize eN n (λj=>lS (set pcs i q j))=U' at *
 generalize eN n (λj=>cQ (set pcs i q j))=D' at *
 generalize eN n (λj=>gy (set pcs i q j))=R' at *
 generalize eN n (λj=>bI (pcs j))=H0 at *
 generalize eN n (λj=>fj (pcs j))=A0 at *
 generalize eN n (λj=>ci (pcs j))=P0 at *
 generalize eN n (λj=>cj (pcs j))=G0 at *
 generalize eN n (λj=>lS (pcs j))=U0 at *
 generalize eN n (λj=>cQ (pcs j))=D0 at *
 generalize eN n (λj=>gy (pcs j))=R0 at *
 cases p with
 |out=>simp[mv]at hm
 |bad=>simp[mv]at hm
 | gx=>
   simp only[mv]at hm;split at hm
   . rename_i hz
     simp only[Wd.zero,Wd.mk.injEq]at hz;obtain⟨rfl,rfl,rfl,rfl⟩:=hz;simp only[List.mem_singleton,Prod.mk.injEq]at hm;obtain⟨rfl,rfl⟩:=hm;refine key _ _ rfl trivial ?_ ?_ ?_ ?_<;>simp[bI,fj,ci,cj,lS,cQ,gy,Wd.zero]at *<;>omega
   . simp only[List.mem_singleton,Prod.mk.injEq]at hm
     obtain⟨rfl,rfl⟩:=hm;refine key _ _ rfl (by simp[loc]) ?_ ?_ ?_ ?_<;>simp[bI,fj,ci,cj,lS,cQ,gy,Wd.zero]at *<;>cases wL<;>cases wK<;>cases wS<;>simp at *<;>omega
 | rd l=>
   simp only[mv,List.mem_singleton,Prod.mk.injEq]at hm;obtain⟨rfl,rfl⟩:=hm
   have hK:l.aw=true->wK=true:=λha=>by
    simp[fj,ha]at gA;cases wS
    . have:=(j2 rfl).1
      cases wK
      . simp at this;omega
      . rfl
    . have:=(j3 rfl).2.1;omega
   obtain⟨k0,k1,k2,k3,k4,k5,k6,k7⟩:=GP (old:=⟨wL,wK,wS,wN⟩) hl.1 hl.2 hK;rw[k1]at A;rw[k2]at H;rw[k3]at P;rw[k4]at G;rw[k5]at U;rw[k6]at D;rw[k7]at R;refine key _ _ rfl k0 ?_ ?_ ?_ ?_<;>simp[bI,fj,ci,cj,lS,cQ,gy]at H A P G U D R ⊢<;>cases wL<;>cases wK<;>cases wS<;>simp at j1 j2 j3 j4 ⊢<;>omega
 |sq old l=>simp only[mv,List.mem_map,Prod.mk.injEq]at hm;obtain⟨q',hq,rfl,rfl⟩:=hm;obtain⟨k0,k1,k2,k3,k4,k5,k6,k7⟩:=LU hl.2.1 hl.2.2.1 hl.1 hq;rw[k1]at A;rw[k2]at H;rw[k3]at P;rw[k4]at G;rw[k5]at U;rw[k6]at D;rw[k7]at R;refine key _ _ rfl k0 ?_ ?_ ?_ ?_<;>simp[bI,fj,ci,cj,lS,cQ,gy]at H A P G U D R ⊢<;>cases wL<;>cases wK<;>cases wS<;>simp at j1 j2 j3 j4 ⊢<;>omega
 | sw old l=>
   obtain⟨oL,oK,oS,oN⟩:=old;obtain⟨h1,h2,h3,h4,h5,h6⟩:=hl;obtain⟨aw,sv,it⟩:=l;simp only at h1 h2 h3 h4 h5 h6;subst h1;subst h2;subst h3;subst h4;subst h5;simp only[mv]at hm;split at hm
   . rename_i hz
     simp only[Wd.mk.injEq]at hz;obtain⟨rfl,rfl,rfl,rfl⟩:=hz;simp only[List.mem_singleton,Prod.mk.injEq]at hm;obtain⟨rfl,rfl⟩:=hm;refine key _ _ rfl (by simp[loc];omega) ?_ ?_ ?_ ?_<;>simp[bI,fj,ci,cj,lS,cQ,gy]at *<;>omega
   . simp only[List.mem_singleton,Prod.mk.injEq]at hm
     obtain⟨rfl,rfl⟩:=hm;refine key _ _ rfl (by simp[loc];omega) ?_ ?_ ?_ ?_<;>simp[bI,fj,ci,cj,lS,cQ,gy]at H A P G U D R ⊢<;>cases wL<;>cases wK<;>cases wS<;>simp at j1 j2 j3 j4 ⊢<;>omega
 | jS old l=>
   obtain⟨oL,oK,oS,oN⟩:=old;obtain⟨h1,h2,h3⟩:=hl;obtain⟨aw,sv,it⟩:=l;simp only at h1 h2 h3;simp only[mv]at hm;split at hm
   . rename_i hz
     simp at hz;have:=h1 hz.1;rw[this]at hz;simp at hz
   split at hm
   . rename_i hz
     simp only[Wd.mk.injEq]at hz;obtain⟨rfl,rfl,rfl,rfl⟩:=hz;simp only[List.mem_singleton,Prod.mk.injEq]at hm;obtain⟨hq,rfl⟩:=hm;cases aw<;>cases sv<;>simp only[Bool.false_eq_true,reduceCtorEq,false_implies,true_implies,imp_false,not_true]at h2
     all_goals cases wL<;>cases wS<;>simp at hq<;>subst hq
     all_goals refine key _ _ rfl (by simp[loc]) ?_ ?_ ?_ ?_<;>simp[bI,fj,ci,cj,lS,cQ,gy,n7]at H A P G U D R gH gA gP gG gU gD gR ⊢<;>cases wK<;>simp at j1 j2 j3 j4 h1 ⊢<;>omega
   . simp only[List.mem_singleton,Prod.mk.injEq]at hm
     obtain⟨rfl,rfl⟩:=hm;refine key _ _ rfl ⟨h2,h3⟩ ?_ ?_ ?_ ?_<;>simp[bI,fj,ci,cj,lS,cQ,gy]at H A P G U D R ⊢<;>cases wL<;>cases wK<;>cases wS<;>simp at j1 j2 j3 j4 ⊢<;>omega
 | fN sv=>
   simp only[mv]at hm;split at hm
   . simp at hm
   . rename_i hz
     simp only[List.mem_singleton,Prod.mk.injEq]at hm;obtain⟨rfl,rfl⟩:=hm;cases sv
     all_goals refine key _ _ rfl trivial ?_ ?_ ?_ ?_<;>simp[bI,fj,ci,cj,lS,cQ,gy]at H A P G U D R gH gA gP gG gU gD gR ⊢<;>cases wL<;>cases wK<;>cases wS<;>simp at j1 j2 j3 j4 ⊢<;>omega
 | tq=>
   simp only[mv,List.mem_cons,Prod.mk.injEq,List.not_mem_nil,or_false]at hm
   rcases hm with⟨rfl,rfl⟩|⟨rfl,rfl⟩
   all_goals refine key _ _ rfl trivial ?_ ?_ ?_ ?_<;>simp[bI,fj,ci,cj,lS,cQ,gy]at H A P G U D R gH gA gP gG gU gD gR ⊢<;>cases wL<;>cases wK<;>cases wS<;>simp at j1 j2 j3 j4 ⊢<;>omega
 | up sv=>
   simp only[mv]at hm;split at hm
   . rename_i hz
     subst hz;obtain⟨k1,k2,k3,k4⟩:=j3 rfl;simp[lS]at gU;have hL:wL=false:=by cases wL<;>simp at k3 ⊢;omega
     subst hL;subst k1;have hN:wN≠0:=by omega
     simp only[Bool.false_or,hN,decide_false,Bool.false_eq_true,if_false,List.mem_singleton,Prod.mk.injEq]at hm;obtain⟨rfl,rfl⟩:=hm;refine key _ _ rfl trivial ?_ ?_ ?_ ?_<;>simp[bI,fj,ci,cj,lS,cQ,gy]at H A P G U D R k3 j1 ⊢<;>omega
   . rename_i hz
     simp at hz;subst hz;simp only[List.mem_singleton,Prod.mk.injEq]at hm;obtain⟨rfl,rfl⟩:=hm;obtain⟨k1,k2,k3⟩:=j2 rfl;simp[lS]at gU;have hK:wK=true:=by cases wK<;>simp at k1 ⊢;omega
     subst hK;obtain⟨l0,l1,l2,l3,l4,l5,l6,l7⟩:=GP (l:=⟨true,sv,0⟩) (old:=⟨wL,true,false,wN⟩) (λ_=>rfl) (by simp) (λ_=>rfl)
     rw[l1]at A;rw[l2]at H;rw[l3]at P;rw[l4]at G;rw[l5]at U;rw[l6]at D;rw[l7]at R;refine key _ _ rfl l0 ?_ ?_ ?_ ?_<;>simp[bI,fj,ci,cj,lS,cQ,gy]at H A P G U D R k1 ⊢<;>cases wL<;>simp at j1 j4 ⊢<;>omega
 | add old sv=>
   simp only[mv,List.mem_singleton,Prod.mk.injEq]at hm;obtain⟨rfl,rfl⟩:=hm;simp[cQ]at gD
   have hS:wS=true:=by
    cases wS with
    |true=>rfl
    |false=>have:=(j2 rfl).2.1;omega
   subst hS;obtain⟨k1,k2,k3,k4⟩:=j3 rfl;have hL:wL=false:=by cases wL<;>simp at k3 ⊢;omega
   subst hL;subst k1;generalize hb:(true && !(!sv||decide (old.N=1)))=b at key ⊢
   refine key _ _ rfl trivial ?_ ?_ ?_ ?_<;>simp[bI,fj,ci,cj,lS,cQ,gy]at H A P G U D R k3 j1 ⊢<;>cases b<;>(try simp)<;>omega
 | held=>
   simp[bI]at gH;have hL:wL=true:=by cases wL<;>simp at j1 ⊢;omega
   subst hL;simp only[mv,Bool.true_eq_false,if_false,List.mem_singleton,Prod.mk.injEq]at hm;obtain⟨hq,rfl⟩:=hm;split at hq
   . rename_i hz
     simp only[Wd.zero,Wd.mk.injEq,true_and]at hz;obtain⟨rfl,rfl,rfl⟩:=hz;subst hq;refine key _ _ rfl trivial ?_ ?_ ?_ ?_<;>simp[bI,fj,ci,cj,lS,cQ,gy]at *<;>omega
   split at hq
   . rename_i hz
     have hz:wS=true:=hz;subst hz;subst hq;obtain⟨k1,k2,k3,k4⟩:=j3 rfl;subst k1;refine key _ _ rfl trivial ?_ ?_ ?_ ?_<;>simp[bI,fj,ci,cj,lS,cQ,gy]at H A P G U D R j1 k3 ⊢<;>omega
   split at hq
   . rename_i hz1 hz2 hz
     simp at hz2;subst hz2;subst hq;refine key _ _ rfl trivial ?_ ?_ ?_ ?_<;>simp[bI,fj,ci,cj,lS,cQ,gy]at *<;>cases wK<;>simp at *<;>omega
   . rename_i hz1 hz2 hz
     simp at hz2 hz;subst hz2;subst hq;refine key _ _ rfl (by simp[loc,hz]) ?_ ?_ ?_ ?_<;>simp[bI,fj,ci,cj,lS,cQ,gy]at *<;>simp[hz]at *<;>omega
 | iC old=>
   obtain⟨oL,oK,oS,oN⟩:=old;obtain⟨h1,h2,h3,h4⟩:=hl;simp only at h1 h2 h3 h4;subst h1;subst h2;subst h3;simp only[mv]at hm;split at hm
   . rename_i hz
     simp only[Wd.mk.injEq]at hz;obtain⟨rfl,rfl,rfl,rfl⟩:=hz;simp only[List.mem_singleton,Prod.mk.injEq]at hm;obtain⟨rfl,rfl⟩:=hm;refine key _ _ rfl trivial ?_ ?_ ?_ ?_<;>simp[bI,fj,ci,cj,lS,cQ,gy]at *<;>omega
   . simp only[List.mem_singleton,Prod.mk.injEq]at hm
     obtain⟨rfl,rfl⟩:=hm;refine key _ _ rfl trivial ?_ ?_ ?_ ?_<;>simp[bI,fj,ci,cj,lS,cQ,gy]at H A P G U D R gR ⊢<;>cases wL<;>cases wK<;>cases wS<;>simp at j1 j2 j3 j4 ⊢<;>omega
 | tF=>
   simp only[mv,List.mem_singleton,Prod.mk.injEq]at hm;obtain⟨hq,rfl⟩:=hm;split at hq
   . rename_i hz
     subst hq;refine key _ _ rfl trivial ?_ ?_ ?_ ?_<;>simp[bI,fj,ci,cj,lS,cQ,gy]at H A P G U D R gR hz ⊢<;>cases wL<;>cases wK<;>cases wS<;>simp at j1 j2 j3 j4 hz ⊢<;>omega
   . rename_i hz
     simp at hz;subst hq;obtain⟨⟨⟨z1,z2⟩,z3⟩,z4⟩:=hz;subst z2;subst z3;subst z4;refine key _ _ rfl (by simp[loc,z1]) ?_ ?_ ?_ ?_<;>simp[bI,fj,ci,cj,lS,cQ,gy]at *<;>omega
 |give=>simp only[mv,List.mem_singleton,Prod.mk.injEq]at hm;obtain⟨rfl,rfl⟩:=hm;refine key _ _ rfl trivial ?_ ?_ ?_ ?_<;>simp[bI,fj,ci,cj,lS,cQ,gy]at H A P G U D R gG ⊢<;>cases wL<;>cases wK<;>cases wS<;>simp at j1 j2 j3 j4 ⊢<;>omega
structure Inv(n:Nat)(pcs:Nat->Pc)(s:Sh):Prop extends Inv0 n pcs s where
 j5:s.w.S=true->s.w.N≠0
 j6:∀i,i<n->∀old sv,pcs i=.add old sv->old.N<=s.w.N/\old.N≠0
theorem Inv0.K5{n:Nat}{pcs:Nat->Pc}{s:Sh}(h:Inv0 n pcs s){i:Nat}(hi:i<n){old:Wd}{sv:Bool}(hp:pcs i=.add old sv):s.w.S=true/\eN n (λi=>cQ (pcs i))<=1:=by
 have e1:cQ (pcs i)=1:=by rw[hp];rfl
 have h1:cQ (pcs i)<=eN n (λi=>cQ (pcs i)):=ij (λi=>cQ (pcs i)) hi
 cases e:s.w.S with
 |true=>refine⟨rfl,?_⟩;have:=(h.j3 e).2.2.1;cases h2:s.w.L<;>rw[h2]at this<;>simp at this<;>omega
 |false=>have:=(h.j2 e).2.1;omega
theorem Inv0.add_one{n:Nat}{pcs:Nat->Pc}{s:Sh}(h:Inv0 n pcs s){i l:Nat}(hi:i<n)(hl:l<n){old old':Wd}{sv sv':Bool}(hp:pcs i=.add old sv)(hp':pcs l=.add old' sv'):i=l:=by
 by_cases e:i=l
 . exact e
 . have h1:=(h.K5 hi hp).2
   have h2:=fL cQ pcs i .out hi;have h3:cQ (set pcs i .out l)<=eN n (λj=>cQ (set pcs i .out j)):=ij (λj=>cQ (set pcs i .out j)) hl
   rw[ai pcs Pc.out (Ne.symm e)]at h3;have e1:cQ (pcs i)=1:=by rw[hp];rfl
   have e2:cQ (pcs l)=1:=by rw[hp'];rfl
   have e3:cQ .out=0:=rfl;omega
theorem Inv.step{n:Nat}{pcs:Nat->Pc}{s s':Sh}{i:Nat}{q:Pc}(h:Inv n pcs s)(hi:i<n)(hm:(q,s')∈mv (pcs i) s):Inv n (set pcs i q) s':=by
 have hl:=h.j0 i hi
 have key : (s'.w.S=true->s'.w.N≠0)/\(s.w.N<=s'.w.N\/(∃old sv,pcs i=.add old sv)\/s.w.S=false)/\(∀old sv,q=.add old sv->old.N<=s'.w.N/\old.N≠0):=by
  have h5:=h.j5;have h6:=h.j6 i hi;revert hm hl h6;cases pcs i with
  |out=>intro hm;simp[mv]at hm
  |bad=>intro hm;simp[mv]at hm
  | gx=>
    intro hm _ _;simp only[mv]at hm;split at hm
    . rename_i hz
      simp at hm;obtain⟨rfl,rfl⟩:=hm;exact⟨λh=>(by cases h),.inr (.inr (by rw[hz];rfl)),λold sv h=>(by cases h)⟩
    . simp at hm;obtain⟨rfl,rfl⟩:=hm
      exact⟨h5,.inl (Nat.le_refl _),λold sv h=>by cases h⟩
  |rd l=>intro hm _ _;simp[mv]at hm;obtain⟨rfl,rfl⟩:=hm;exact⟨h5,.inl (Nat.le_refl _),λold sv h=>by unfold nx at h;split at h<;>cases h⟩
  | sq o l=>
    intro hm _ _;simp only[mv,List.mem_map,Prod.mk.injEq]at hm;obtain⟨a,ha,rfl,rfl⟩:=hm;refine⟨h5,.inl (Nat.le_refl _),λold sv h=>?_⟩;subst h;unfold hd at ha;simp only[List.mem_append,List.mem_singleton]at ha;rcases ha with ha|ha
    . split at ha
      . simp only[List.mem_singleton]at ha
        split at ha<;>cases ha
      . cases ha
    . cases ha
  | sw o l=>
    intro hm _ _;simp only[mv]at hm;split at hm
    . rename_i hz
      simp at hm;obtain⟨rfl,rfl⟩:=hm;rw[hz]at h5;exact⟨h5,.inl (by rw[hz];exact Nat.le_refl _),λold sv h=>by cases h⟩
    . simp at hm;obtain⟨rfl,rfl⟩:=hm
      exact⟨h5,.inl (Nat.le_refl _),λold sv h=>by cases h⟩
  | jS o l =>
    intro hm _ _;simp only[mv]at hm;split at hm
    . simp at hm;obtain⟨rfl,rfl⟩:=hm
      exact⟨h5,.inl (Nat.le_refl _),λold sv h=>by cases h⟩
    . split at hm
      . rename_i hz
        simp at hm;obtain⟨rfl,rfl⟩:=hm;rw[hz]at h5 ⊢;refine⟨λh=>?_,.inl ?_,λold sv h=>by split at h<;>cases h⟩
        . unfold n7 at h ⊢
          simp only at h ⊢;split
          . omega
          . rename_i hls
            cases hL:o.L<;>cases hS:o.S<;>simp_all
        . unfold n7
          simp only;split<;>omega
      . simp at hm;obtain⟨rfl,rfl⟩:=hm
        exact⟨h5,.inl (Nat.le_refl _),λold sv h=>by cases h⟩
  | fN sv=>
    intro hm _ _;simp only[mv]at hm;split at hm
    . cases hm
    . simp at hm;obtain⟨rfl,rfl⟩:=hm
      exact⟨h5,.inl (Nat.le_refl _),λold sv h=>by split at h<;>cases h⟩
  | tq=>
    intro hm _ _;simp[mv]at hm;rcases hm with⟨rfl,rfl⟩|⟨rfl,rfl⟩<;>exact⟨h5,.inl (Nat.le_refl _),λold sv h=>by cases h⟩
  | up sv=>
    intro hm _ _;simp only[mv]at hm;split at hm
    . split at hm
      . simp at hm;obtain⟨rfl,rfl⟩:=hm
        exact⟨h5,.inl (Nat.le_refl _),λold sv h=>by cases h⟩
      . rename_i hb
        simp at hm;obtain⟨rfl,rfl⟩:=hm;refine⟨h5,.inl (Nat.le_refl _),λold sv h=>?_⟩;cases h;simp at hb;exact⟨Nat.le_refl _,hb.2⟩
    . simp at hm;obtain⟨rfl,rfl⟩:=hm
      exact⟨h5,.inl (Nat.le_refl _),λold sv h=>by unfold nx at h;split at h<;>cases h⟩
  | add o sv=>
    intro hm _ h6;simp[mv]at hm;obtain⟨rfl,rfl⟩:=hm;obtain⟨e1,e2⟩:=h6 o sv rfl;refine⟨λh=>?_,.inr (.inl ⟨o,sv,rfl⟩),λold sv h=>by cases h⟩;simp at h ⊢;omega
  | held=>
    intro hm _ _;simp only[mv]at hm;split at hm
    . simp at hm;obtain⟨rfl,rfl⟩:=hm
      exact⟨h5,.inl (Nat.le_refl _),λold sv h=>by cases h⟩
    . simp only[List.mem_singleton,Prod.mk.injEq]at hm;obtain⟨rfl,rfl⟩:=hm
      refine⟨h5,.inl (Nat.le_refl _),λold sv h=>?_⟩;split at h
      . cases h
      . split at h
        . cases h
        . split at h<;>cases h
  | iC o=>
    intro hm hl _;simp only[mv]at hm;split at hm
    . rename_i hz
      simp at hm;obtain⟨rfl,rfl⟩:=hm;have hS:o.S=false:=hl.2.2.1;exact⟨λh=>by simp[hS]at h,.inr (.inr (by rw[hz];exact hS)),λold sv h=>by cases h⟩
    . simp at hm;obtain⟨rfl,rfl⟩:=hm
      exact⟨h5,.inl (Nat.le_refl _),λold sv h=>by cases h⟩
  |tF=>intro hm _ _;simp only[mv,List.mem_singleton,Prod.mk.injEq]at hm;obtain⟨rfl,rfl⟩:=hm;exact⟨h5,.inl (Nat.le_refl _),λold sv h=>by split at h<;>cases h⟩
  |give=>intro hm _ _;simp[mv]at hm;obtain⟨rfl,rfl⟩:=hm;exact⟨h5,.inl (Nat.le_refl _),λold sv h=>by cases h⟩
 obtain⟨k1,k2,k3⟩:=key;refine⟨h.toInv0.step hi hm,k1,λl hl' old sv hp=>?_⟩;by_cases e:l=i
 . subst e
   rw[ao]at hp;exact k3 old sv hp
 . rw[ai pcs q e]at hp
   obtain⟨e1,e2⟩:=h.j6 l hl' old sv hp;refine⟨?_,e2⟩;rcases k2 with k2|⟨o,sv',k2⟩|k2
   . omega
   . exact absurd (h.toInv0.add_one hi hl' k2 hp) (Ne.symm e)
   . rw[(h.toInv0.K5 hl' hp).1]at k2;cases k2
theorem yD:∀n:Nat,eN n (λ_=>0)=0
 |0=>rfl
 |n+1=>by rw[eN,yD n]
theorem Inv.rest{n:Nat}{pcs:Nat->Pc}{s:Sh}(h:Inv n pcs s)(ho:∀i,i<n->pcs i=.out):s.w=.zero/\s.ms=0:=by
 have t0:∀(F:Pc->Nat),F .out=0->eN n (λi=>F (pcs i))=0:=λF hF=>by
  have:eN n (λi=>F (pcs i))=eN n (λ_=>0):=r6 λi hi=>by rw[ho i hi,hF]
  rw[this];exact yD n
 have L:s.w.L=false:=by
  have:=h.j1;rw[t0 bI rfl]at this;cases e:s.w.L with
  |false=>rfl
  |true=>rw[e]at this;cases this
 have S:s.w.S=false:=by
  cases e:s.w.S with
  |false=>rfl
  |true=>have:=(h.j3 e).2.2.2;rw[t0 ci rfl,t0 lS rfl,t0 cQ rfl]at this;exact absurd this.symm (h.j5 e)
 obtain⟨e1,e2,e3⟩:=h.j2 S;rw[t0 fj rfl,t0 cj rfl,t0 lS rfl]at e1;rw[t0 ci rfl,t0 cj rfl]at e3
 have K:s.w.K=false:=by
  cases e:s.w.K with
  |false=>rfl
  |true=>rw[e]at e1;simp at e1;omega
 refine⟨?_,by omega⟩;have N:s.w.N=0:=by omega
 cases hw:s.w with
 |mk a b c d=>rw[hw]at L S K N;simp only at L S K N;subst L;subst S;subst K;subst N;rfl
def fP:Pc->Nat
 |.out=>0
 |.gx=>6
 |.rd l=>if l.aw then 5 else 6
 |.sq _ l=>if l.aw then 5 else 6
 |.sw _ _=>6
 |.jS _ l=>if l.aw then 5 else 6
 |.fN _=>4
 |.tq=>5
 |.up _=>5
 |.add _ _=>5
 |.held=>3
 |.iC _=>2
 |.tF=>2
 |.give=>1
 |.bad=>0
def jc(w:Wd):Pc->Nat
 |.out=>0
 |.gx=>16
 |.rd l=>3+3*(4-l.it)
 |.sq old l=>if w=old then 2+3*(4-l.it)else 5+3*(4-l.it)
 |.sw old l=>if w=old then 1 else 4+3*(3-l.it)
 |.jS old l=>if w=old then 1 else 4+3*(4-l.it)
 |.fN _=>18
 |.tq=>17
 |.up _=>16
 |.add _ _=>1
 |.held=>1
 |.iC old=>if w=old then 1 else 4
 |.tF=>3
 |.give=>1
 |.bad=>0
theorem JU(w:Wd)(p:Pc):jc w p<=18:=by cases p<;>simp[jc]<;>(try split)<;>omega
theorem Cm{f:Nat->Nat}{c:Nat}(h:∀i,f i<=c):∀n,eN n f<=n*c
 |0=>by simp[eN]
 |n+1=>by have:=Cm h n;have:=h n;rw[eN,Nat.succ_mul];omega
def phi(n:Nat)(pcs:Nat->Pc)(s:Sh):Nat:=eN n (λi=>fP (pcs i))+s.ms
def meas(n:Nat)(pcs:Nat->Pc)(s:Sh):Nat:=phi n pcs s*(18*n+1)+eN n (λi=>jc s.w (pcs i))
theorem JV{p q:Pc}{s s':Sh}(hl:loc p)(h:(q,s')∈mv p s):fP q+s'.ms<fP p+s.ms\/(s'.w=s.w/\fP q+s'.ms<=fP p+s.ms/\jc s.w q<jc s.w p):=by
 have hhd:∀(old:Wd) (l:Lo) (q:Pc),q∈hd old l->fP q=fP (.rd l)/\jc s.w q<(if s.w=old then 2+3*(4-l.it)else 5+3*(4-l.it)):=λold l q hq=>by
  unfold hd at hq;simp only[List.mem_append,List.mem_singleton]at hq
  rcases hq with hq|rfl
  . split at hq
    . rename_i hc
      simp at hc;simp only[List.mem_singleton]at hq;subst hq;split
      . rename_i hk
        simp at hk;simp[fP,jc,hk.1.1];split<;>omega
      . refine⟨rfl,?_⟩
        have:=hc.2;simp[jc];split<;>omega
    . simp at hq
  . simp[fP,jc]
    split<;>omega
 have hnx:∀(l:Lo),fP (nx s.w l)=fP (.rd l)/\jc s.w (nx s.w l)<3+3*(4-l.it):=λl=>by unfold nx;split<;>simp[fP,jc]<;>omega
 cases p with
 |out=>simp[mv]at h
 |bad=>simp[mv]at h
 |gx=>simp only[mv]at h;split at h<;>simp only[List.mem_singleton,Prod.mk.injEq]at h<;>obtain⟨rfl,rfl⟩:=h<;>simp[fP,jc]
 |rd l=>simp only[mv,List.mem_singleton,Prod.mk.injEq]at h;obtain⟨rfl,rfl⟩:=h;obtain⟨h1,h2⟩:=hnx l;exact .inr ⟨rfl,by rw[h1];exact Nat.le_refl _,h2⟩
 |sq old l=>simp only[mv,List.mem_map,Prod.mk.injEq]at h;obtain⟨q',hq,rfl,rfl⟩:=h;obtain⟨h1,h2⟩:=hhd old l _ hq;exact .inr ⟨rfl,by rw[h1];exact Nat.le_refl _,h2⟩
 | sw old l=>
   have ha:=hl.1;have hi:=hl.2.2.2.2.2;simp only[mv]at h;split at h<;>rename_i hc<;>simp only[List.mem_singleton,Prod.mk.injEq]at h<;>obtain⟨rfl,rfl⟩:=h
   . simp[fP,jc]
   . refine .inr ⟨rfl,by simp[fP,ha],?_⟩
     simp[jc,hc]
 | jS old l=>
   simp only[mv]at h;split at h
   . rename_i hc
     simp at hc;have:=hl.1 hc.1;rw[this]at hc;simp at hc
   split at h<;>rename_i hc<;>simp only[List.mem_singleton,Prod.mk.injEq]at h
   . obtain⟨rfl,rfl⟩:=h
     left;split<;>simp only[fP]<;>split<;>omega
   . obtain⟨rfl,rfl⟩:=h
     exact .inr ⟨rfl,by simp[fP],by simp[jc,hc]⟩
 | fN sv=>
   simp only[mv]at h;split at h
   . simp at h
   . simp only[List.mem_singleton,Prod.mk.injEq]at h
     obtain⟨rfl,rfl⟩:=h;cases sv<;>exact .inr ⟨rfl,by simp[fP];omega,by simp[jc]⟩
 | tq=>
   simp only[mv,List.mem_cons,Prod.mk.injEq,List.not_mem_nil,or_false]at h
   rcases h with⟨rfl,rfl⟩|⟨rfl,rfl⟩<;>exact .inr ⟨rfl,by simp[fP],by simp[jc]⟩
 | up sv=>
   simp only[mv]at h;split at h
   . split at h<;>simp only[List.mem_singleton,Prod.mk.injEq]at h<;>obtain⟨rfl,rfl⟩:=h<;>exact .inr ⟨rfl,by simp[fP],by simp[jc]⟩
   . simp only[List.mem_singleton,Prod.mk.injEq]at h
     obtain⟨rfl,rfl⟩:=h;obtain⟨h1,h2⟩:=hnx ⟨true,sv,0⟩;refine .inr ⟨rfl,by rw[h1];simp[fP],?_⟩
     have h3:∀w,jc w (.up sv)=16:=λ_=>rfl
     rw[h3];simp only at h2;omega
 |add old sv=>simp only[mv,List.mem_singleton,Prod.mk.injEq]at h;obtain⟨rfl,rfl⟩:=h;exact .inl (by simp[fP])
 | held=>
   simp only[mv]at h;left;split at h
   . simp only[List.mem_singleton,Prod.mk.injEq]at h;obtain⟨rfl,rfl⟩:=h;simp[fP]
   . simp only[List.mem_singleton,Prod.mk.injEq]at h
     obtain⟨rfl,rfl⟩:=h;split
     . simp[fP]
     split
     . simp[fP]
     split<;>simp[fP]
 | iC old=>
   simp only[mv]at h;split at h<;>rename_i hc<;>simp only[List.mem_singleton,Prod.mk.injEq]at h<;>obtain⟨rfl,rfl⟩:=h
   . simp[fP]
   . exact .inr ⟨rfl,by simp[fP],by simp[jc,hc]⟩
 | tF=>
   simp only[mv,List.mem_singleton,Prod.mk.injEq]at h;obtain⟨rfl,rfl⟩:=h;split
   . left;simp[fP]
   . exact .inr ⟨rfl,by simp[fP],by simp[jc]⟩
 |give=>simp only[mv,List.mem_singleton,Prod.mk.injEq]at h;obtain⟨rfl,rfl⟩:=h;exact .inr ⟨rfl,by simp[fP];omega,by simp[jc]⟩
theorem EE{n:Nat}{pcs:Nat->Pc}{s s':Sh}{i:Nat}{q:Pc}(hi:i<n)(hl:loc (pcs i))(hm:(q,s')∈mv (pcs i) s):meas n (set pcs i q) s'<meas n pcs s/\phi n (set pcs i q) s'<=phi n pcs s:=by
 have C:=fL fP pcs i q hi;have gC:=ij (λj=>fP (pcs j)) hi;rcases JV hl hm with h|⟨h1,h2,h3⟩
 . have hp:phi n (set pcs i q) s'+1<=phi n pcs s:=by unfold phi;omega
   refine⟨?_,by omega⟩;have hr:=Cm (f:=λj=>jc s'.w (set pcs i q j)) (c:=18) (λj=>JU _ _) n;have:=Nat.mul_le_mul_right (18*n+1) hp;rw[Nat.add_mul]at this;unfold meas;omega
 . have hp:phi n (set pcs i q) s'<=phi n pcs s:=by unfold phi;omega
   refine⟨?_,hp⟩;have R:=fL (jc s.w) pcs i q hi;have gR:=ij (λj=>jc s.w (pcs j)) hi;have:=Nat.mul_le_mul_right (18*n+1) hp;unfold meas;rw[h1];omega
theorem Inv.alive{n:Nat}{pcs:Nat->Pc}{s:Sh}(h:Inv n pcs s)(hw:∀i,i<n->pcs i=.out\/∃sv,pcs i=.fN sv)(hm:s.ms=0):∀i,i<n->pcs i=.out:=by
 have z:∀(f:Pc->Nat),f .out=0->(∀sv,f (.fN sv)=0)->eN n (λi=>f (pcs i))=0:=λf h1 h2=>by
  have:∀m,m<=n->eN m (λi=>f (pcs i))=0:=λm=>by
   induction m with
   |zero=>intro _;rfl
   | succ m ih=>
     intro hm;rw[eN,ih (by omega)]
     rcases hw m (by omega)with e|⟨sv,e⟩<;>rw[e]<;>simp[h1,h2]
  exact this n (Nat.le_refl _)
 have zH:=z bI rfl λ_=>rfl
 have zA:=z fj rfl λ_=>rfl
 have zG:=z cj rfl λ_=>rfl
 have zU:=z lS rfl λ_=>rfl
 have zD:=z cQ rfl λ_=>rfl
 have zR:=z gy rfl λ_=>rfl
 have j1:=h.j1;have j2:=h.j2;have j3:=h.j3;have j4:=h.j4
 have hp:eN n (λi=>ci (pcs i))=0:=by obtain⟨⟨wL,wK,wS,wN⟩,ms⟩:=s;simp only at j1 j2 j3 j4 hm;subst hm;cases wL<;>cases wK<;>cases wS<;>simp[zH,zA,zG,zU,zD,zR]at j1 j2 j3 j4 ⊢<;>omega
 intro i hi
 rcases hw i hi with e|⟨sv,e⟩
 . exact e
 . have:=Ao hp i hi
   rw[e]at this;simp[ci]at this
end Go.aN.Mu
