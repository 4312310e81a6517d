import Derived.Test.YtkcceaplmgdnfaaGreatDoorC8
set_option linter.all false
namespace Go.bQ
open Go.Conc
def pD(k:ah)(O:aj)(B:Nat)(a:Touch):Prop:=
 match a.loc with
 |.cell b=>b.block<B/\¬aS O b.block b.off/\(k.cell b.block b.off=none\/a.write=false)
 |.obj r=>r<B/\∀o,O r≠some (.obj o)
 |_=>True
def ah.bot:ah:=⟨λ_ _=>none,λ_=>none⟩
def aj.bot:aj:=λ_=>none
def ah.join(k k':ah):ah:=⟨λb i=>match k.cell b i with|some v=>some v|none=>k'.cell b i,λb=>match k.sh b with|some s=>some s|none=>k'.sh b⟩
theorem ah.sx(k k':ah):k.Le (k.join k'):=⟨λb i v h=>by simp[ah.join,h],λb s h=>by simp[ah.join,h]⟩
theorem ah.xa{k k':ah}{O O':aj}{w:World}(h:Sat k O w)(a:Sat k' O' w):k'.Le (k.join k'):=⟨λb i v c=>by
 simp only[ah.join];cases q:k.cell b i with
 |none=>exact c
 | some u=>
   have:=h.cell b i u q;rw[a.cell b i v c]at this
   simp_all,λb s d=>by
 simp only[ah.join];cases q:k.sh b with
 |none=>exact d
 | some u=>
   have:=h.sh b u q;rw[a.sh b s d]at this
   simp_all⟩
theorem ah.nD{k k':ah}{b i:Nat}{v:Value}(h:(k.join k').cell b i=some v):k.cell b i=some v\/k'.cell b i=some v:=by
 simp only[ah.join]at h
 grind
theorem ah.Gq{k k':ah}{b:Nat}{s:TypeId × Nat}(h:(k.join k').sh b=some s):k.sh b=some s\/k'.sh b=some s:=by
 simp only[ah.join]at h
 grind
theorem aS.own{O:aj}{b i:Nat}(h:aS O b i):∃x,O b=some x:=by rcases h with⟨o,h⟩|⟨n,h,_⟩|⟨f,h,_⟩<;>exact⟨_,h⟩
theorem dT{O:aj}{b i:Nat}(h:O b=none):¬aS O b i:=λa=>by
 obtain⟨x,c⟩:=a.own
 simp_all
structure Base where
 Shun:Loc->Prop
 N0:Nat
 lk:Nat
 la:Addr
 W0:World
def HH(Z:Base)(t:Trace)(i n:Nat):Prop:=if i=Z.lk then n<Z.N0\/∃p,Z.N0<=p/\t.act? p=some (.mark (.releaseMerge Z.la))/\t.heard p/\Before t n p else Knows t i n
theorem HH.app{Z:Base}{t:Trace}{i n:Nat}(h:HH Z t i n)(u:Trace):HH Z (t++u) i n:=by
 unfold HH at *;split at h
 . next e=>
   rw[if_pos e];rcases h with h|⟨p,c,a,d,f⟩
   . exact .inl h
   have b:=lt_of_act? a;exact .inr ⟨p,c,by rw[act?_old b];exact a,(heard_old b).2 d,f.app u⟩
 . next e=>rw[if_neg e];exact h.app u
theorem od{Z:Base}{t:Trace}{i n:Nat}(hi:i≠Z.lk):HH Z t i n↔Knows t i n:=by unfold HH;simp_all
def Vo(Z:Base)(t:Trace)(i:Nat)(k:ah)(O:aj)(B:Nat):Prop:=∀n a,touchAt t n=some a->a.loc.isMemory=true->HH Z t i n\/pD k O B a
structure cA(Z:Base)(kk:acy)(OO:acx)(J M:ack)(w:World)(t:Trace):Prop where
 sat:∀i,Sat (kk i) (OO i) w
 jl:∀i j b x,i≠j->OO i b=some x->OO j b=none
 nE:∀i j b n v,i≠j->(kk j).cell b n=some v -> ¬aS (OO i) b n
 Bb:∀i,Vo Z t i (kk i) (OO i) w.heap.size
 clean:∀said,¬Race said t
 seen:∀op∈t,op.act.low w.heap.size
 acc:∀n a,touchAt t n=some a->a.loc.isMemory=true->Knows t 0 n\/(∃j,J j/\Knows t j n)\/(∃p,M p/\Before t n p)\/(Z.Shun a.loc/\a.kind=.atomic/\(t.counts n->n<Z.N0))
 n0:Z.N0<=t.size
 xc:∀n g,n<Z.N0->t.g? n=some g->g≠0->t.counts n->∃j,t.g? j=some 0/\HappensBefore t n j
 lF:∀a,Z.Shun (.cell a)->a.block<w.heap.size/\∀i,¬aS (OO i) a.block a.off/\(kk i).cell a.block a.off=none
 oW:∀r,Z.Shun (.obj r)->r<w.heap.size/\∀i o,OO i r≠some (.obj o)
 yS:wj Z.W0 w
 mine:∀i b x,OO i b=some x->Z.W0.heap.size<=b
def bS{α:Type}(f:Nat->α)(i:Nat)(x:α):Nat->α:=λj=>if j=i then x else f j
theorem ao{α:Type}(f:Nat->α)(i:Nat)(x:α):bS f i x i=x:=by simp[bS]
theorem au{α:Type}(f:Nat->α){i j:Nat}(x:α)(h:j≠i):bS f i x j=f j:=by simp[bS,h]
theorem jU{k:ah}{O:aj}{B:Nat}{e:Event}{b:Touch}(a:iY k O B e)(hb:(MemAct.ofEvent e).touch?=some b):
 (∃ad,b.loc=.cell ad/\(aS O ad.block ad.off\/B<=ad.block\/(b.write=false/\∃v,k.cell ad.block ad.off=some v)))\/∃r,b.loc=.obj r/\((∃o,O r=some (.obj o))\/B<=r):=by
 obtain⟨loc,wr,c⟩:=e;cases loc with
 | cell ad=>
   simp only[iY]at a;simp only[MemAct.ofEvent,MemAct.touch?,kn]at hb
   grind
 |obj r=>simp only[iY]at a;cases wr<;>cases c<;>simp only[MemAct.ofEvent,MemAct.touch?,kn,reduceCtorEq]at hb<;>subst hb<;>exact .inr ⟨r,rfl,a⟩
 |mark m=>simp only[iY]at a;cases m<;>simp_all [jT,mV,MemAct.ofEvent,MemAct.touch?]
 |_=>simp[iY]at a
theorem u6{k:ah}{O:aj}{B b:Nat}{e:Event}(c:iY k O B e)(a:iT b e):(MemAct.ofEvent e).low b:=by
 obtain⟨loc,wr,d⟩:=e;cases loc with
 |cell f=>simpa[MemAct.ofEvent,MemAct.low,Loc.low,iT]using a
 |obj r=>simp only[iT]at a;cases wr<;>cases d<;>simpa[MemAct.ofEvent,MemAct.low,Loc.low]using a
 |mark m=>simp only[iY]at c;cases m<;>simp_all [jT,mV,MemAct.ofEvent,MemAct.low,iT]
 |_=>simp[iY]at c
theorem rI{t u:Trace}{n:Nat}(a:n<t.size):(t++u).counts n↔t.counts n:=by unfold Trace.counts;rw[act?_old a,heard_old a]
section
variable{Z:Base}{kk:acy}{OO:acx}{J M:ack}{w:World}{t:Trace}
theorem cA.Cz(h:cA Z kk OO J M w t)(u:Trace):∀n g,n<Z.N0->(t++u).g? n=some g->g≠0->(t++u).counts n->∃j,(t++u).g? j=some 0/\HappensBefore (t++u) n j:=λn g c d i e=>by
 have a:n<t.size:=ZO c h.n0;rw[g?_old a]at d;rw[rI a]at e;obtain⟨j,f,hb⟩:=h.xc n g c d i e
 have b:j<t.size:=by
  unfold Trace.g? at f
  grind
 exact⟨j,by rw[g?_old b];exact f,hb_app u hb⟩
theorem cA.own(h:cA Z kk OO J M w t){i:Nat}(Y:i≠Z.lk)(hJ:i=0\/J i){k':ah}{O':aj}{w':World}{es:aca}{fn:FuncId}{pos:String}(d:Eff (kk i) (OO i) w k' O' w' es.toList)(hs:Sat k' O' w'):
 cA Z (bS kk i k') (bS OO i O') J M w' (t++MemOp.ofEvents i fn pos es):=by
 have D:∀op∈MemOp.ofEvents i fn pos es,op.g=i/\∃e∈es.toList,op.act=.ofEvent e:=λop B=>by
  obtain⟨e,d,rfl⟩:=Go.Conc.mem_ofEvents B
  grind
 have a7:∀b n,aS O' b n->aS (OO i) b n\/w.heap.size<=b:=d.Ey
 have aC:∀j,j≠i->Sat (kk j) (OO j) w':=λj k=>by
  have hold:∀b,b<w.heap.size->OO j b≠none->w'.heap[b]?=w.heap[b]?:=λb hb X=>by
   cases q:OO j b with
   |none=>simp_all
   |some x=>exact d.keep b hb (h.jl j i b x k q)
  refine⟨(h.sat j).apart,λb n v L=>?_,λb s hs=>?_,λb o O=>?_,λb n X=>?_,λb f X=>?_⟩
  . have hb:=(h.sat j).qe L
    have hc:=(h.sat j).cell b n v L;have R:=h.nE i j b n v (za k) L;cases q:OO i b with
    |none=>have:=d.keep b hb q;simpa only[World.cell?,this]using hc
    | some x=>
      cases x with
      |obj o=>exact absurd (.inl ⟨o,q⟩) R
      | tail m=>
        have al:n<m:=Nat.lt_of_not_le λhh=>R (.inr (.inl ⟨m,q,hh⟩))
        obtain⟨c,e,l,_⟩:=(h.sat i).tail b m q;obtain⟨c',S,Q,h4⟩:=d.tail b m hb q c e l;simp only[World.cell?,l,S]at hc ⊢
        simp_all
      | part f=>
        have al:f n=none:=aaa λhh=>R (.inr (.inr ⟨f,q,hh⟩))
        obtain⟨c,e,l,_⟩:=(h.sat i).part b f q;obtain⟨c',S,Q,h4⟩:=d.part b f hb q c e l;simp only[World.cell?,l,S]at hc ⊢
        simp_all
  . have hb:=(h.sat j).JO hs
    rw[d.shape b hb];exact(h.sat j).sh b s hs
  . rw[hold b ((h.sat j).tH O) (by grind)];exact(h.sat j).obj b o O
  . rw[hold b ((h.sat j).tH X) (by grind)];exact(h.sat j).tail b n X
  . rw[hold b ((h.sat j).tH X) (by grind)];exact(h.sat j).part b f X
 have a9:∀j b x,OO j b=some x->b<w.heap.size:=λj b x A=>(h.sat j).tH A
 have a8:∀j b n v,(kk j).cell b n=some v->b<w.heap.size:=λj b n v L=>(h.sat j).qe L
 refine⟨λj=>?_,λa b c x C A=>?_,λa b c n v C L=>?_,λj=>?_,λsaid=>?_,λop B=>?_,λn a K hm=>?_,by simp;exact KD h.n0 (aah _ _),h.Cz _,λa K=>?_,λr hr=>?_,h.yS.step (by rw[d.os];exact .refl _) d.output d.size (λb hb=>d.keep b (ZO hb h.yS.size) (Option.eq_none_iff_forall_ne_some.2 λx A=>by have:=h.mine i b x A;omega)),λj b x A=>?_⟩
 . by_cases k:j=i
   . subst k;rw[ao,ao];exact hs
   . rw[au _ _ k,au _ _ k];simp_all
 . by_cases K:a=i
   . subst K
     rw[ao]at A;rw[au _ _ (za C)];rcases d.own c x A with⟨y,hy,_⟩|hy
     . exact h.jl a b c y C hy
     . cases q:OO b c with
       |none=>rfl
       |some z=>grind
   . rw [au _ _ K]at A
     by_cases hb:b=i
     . subst hb
       rw[ao];cases q:O' c with
       |none=>rfl
       | some z=>
         rcases d.own c z q with⟨y,hy,_⟩|hy
         . have:=h.jl a b c x C A;simp_all
         grind
     . rw[au _ _ hb];exact h.jl a b c x C A
 . by_cases K:a=i
   . subst K
     rw[ao];rw[au _ _ (za C)]at L;intro hc;rcases a7 c n hc with hc|hc
     . exact h.nE a b c n v C L hc
     grind
   . rw [au _ _ K]
     by_cases hb:b=i
     . subst hb
       rw[ao]at L;intro hc;rcases d.cell c n v L with l|l|l
       . exact h.nE a b c n v C l hc
       . obtain⟨x,A⟩:=l.own
         have:=h.jl b a c x (za C) A;exact dT this hc
       . obtain⟨x,A⟩:=hc.own
         grind
     . rw[au _ _ hb]at L;exact h.nE a b c n v C L
 ·
  intro n a K hm;obtain⟨x,A,u⟩:=touch_of K;rcases getElem?_append_cases A with⟨_,T⟩|⟨_,U⟩
  . rcases h.Bb j n a (by rw[touchAt_of T];exact u) hm with hk|hk
    . exact .inl (hk.app _)
    . refine .inr ?_
      by_cases k:j=i
      . subst k
        rw[ao,ao];unfold pD at hk ⊢;split
        . next P E=>
          rw[E]at hk;obtain⟨l,S,Q⟩:=hk;refine⟨ZO l d.size,λhc=>?_,?_⟩
          . grind
          . rcases Q with Q|Q
            . cases q:k'.cell P.block P.off with
              |none=>simp_all
              | some v=>
                rcases d.cell _ _ v q with h4|h4|h4
                . simp_all
                . simp_all
                . omega
            simp_all
        . next r E=>
          rw[E]at hk;refine⟨ZO hk.1 d.size,λo O=>?_⟩;rcases d.own r _ O with⟨y,hy,N⟩|hy
          . cases y with
            |obj o'=>simp_all
            |tail m=>exact N.elim
            |part f=>exact N.elim
          omega
        . trivial
      . rw[au _ _ k,au _ _ k]
        unfold pD at hk ⊢;split
        . next P E=>rw[E]at hk;exact⟨ZO hk.1 d.size,hk.2⟩
        . next r E=>rw[E]at hk;exact⟨ZO hk.1 d.size,hk.2⟩
        . trivial
  . obtain ⟨hg,e,H,F⟩:=D x U
    by_cases k:j=i
    . subst k
      have:=knows_own A;rw[hg]at this;exact .inl ((od Y).2 this)
    . refine .inr ?_
      rw[au _ _ k,au _ _ k];rw[F]at u;have G:=d.evs e H;have I:=d.low e H;rcases jU G u with⟨P,E,hc⟩|⟨r,E,hc⟩
      . unfold pD;rw[E]
        have V:P.block<w'.heap.size:=by
         have:=u6 G I;obtain⟨loc,wr,sy⟩:=e;cases loc with
         |cell av=>simp only[MemAct.ofEvent,MemAct.touch?,kn]at u;subst u;simp only[Loc.cell.injEq]at E;subst E;simpa[iT]using I
         |obj r=>cases wr<;>cases sy<;>simp only[MemAct.ofEvent,MemAct.touch?,kn,reduceCtorEq]at u<;>subst u<;>cases E
         |mark m=>simp only[iY]at G;cases m<;>simp_all [jT,mV,MemAct.ofEvent,MemAct.touch?]
         |_=>simp[iY]at G
        refine⟨V,λW=>?_,?_⟩
        . rcases hc with hc|hc|⟨_,v,hc⟩
          . obtain⟨y,hy⟩:=hc.own
            have:=h.jl i j _ y (za k) hy;exact dT this W
          . obtain⟨x,A⟩:=W.own
            grind
          . exact h.nE j i _ _ v k hc W
        . rcases hc with hc|hc|⟨hc,_⟩
          . cases q:(kk j).cell P.block P.off with
            |none=>simp_all
            |some v=>exact absurd hc (h.nE i j _ _ v (za k) q)
          . cases q:(kk j).cell P.block P.off with
            |none=>simp_all
            |some v=>grind
          simp_all
      . unfold pD;rw[E]
        have V:r<w'.heap.size:=by
         obtain⟨loc,wr,sy⟩:=e;cases loc with
         | cell av=>
           simp only[MemAct.ofEvent,MemAct.touch?,kn]at u
           grind
         |obj r'=>simp only[iT]at I;cases wr<;>cases sy<;>simp only[MemAct.ofEvent,MemAct.touch?,kn,reduceCtorEq]at u<;>subst u<;>cases E<;>exact I
         |mark m=>simp only[iY]at G;cases m<;>simp_all [jT,mV,MemAct.ofEvent,MemAct.touch?]
         |_=>simp[iY]at G
        refine⟨V,λo O=>?_⟩;rcases hc with⟨o',hc⟩|hc
        . have:=h.jl j i r _ k O
          simp_all
        grind
 ·
  refine noRace_append (h.clean said) (λop B=>(D op B).1) λn a K op B b hb hc=>?_
  obtain⟨hg,e,H,F⟩:=D op B;rw[F]at hb;have G:=d.evs e H;obtain⟨c1,c2,c3,c4⟩:=hc;rcases h.Bb i n a K c2 with hk|hk
  . exact(od Y).1 hk
  . exfalso
    unfold pD at hk;rcases jU G hb with⟨P,E,ax⟩|⟨r,E,ax⟩
    . grind
    grind
 . rcases Array.mem_append.1 B with B|B
   . exact MemAct.low_mono d.size (h.seen op B)
   . obtain⟨hg,e,H,F⟩:=D op B
     rw[F];exact u6 (d.evs e H) (d.low e H)
 . obtain⟨x,A,u⟩:=touch_of K
   rcases getElem?_append_cases A with⟨ay,T⟩|⟨_,U⟩
   . rcases h.acc n a (by rw[touchAt_of T];exact u) hm with l|⟨j,k,l⟩|⟨p,hp,l⟩|l
     . exact .inl (l.app _)
     . exact .inr (.inl ⟨j,k,l.app _⟩)
     . exact .inr (.inr (.inl ⟨p,hp,l.app _⟩))
     . exact .inr (.inr (.inr ⟨l.1,l.2.1,λhc=>l.2.2 ((rI ay).1 hc)⟩))
   . obtain⟨hg,_⟩:=D x U
     have:=knows_own A
     grind
 . obtain⟨l,S⟩:=h.lF a K
   refine⟨ZO l d.size,λj=>?_⟩;by_cases k:j=i
   . subst k
     rw[ao,ao];refine⟨λhc=>?_,?_⟩
     . grind
     . cases q:k'.cell a.block a.off with
       |none=>rfl
       | some v=>
         rcases d.cell _ _ v q with Q|Q|Q
         . simp_all
         . simp_all
         . omega
   . rw[au _ _ k,au _ _ k];exact S j
 . obtain⟨l,S⟩:=h.oW r hr
   refine⟨ZO l d.size,λj o O=>?_⟩;by_cases k:j=i
   . subst k
     rw[ao]at O;rcases d.own r _ O with⟨y,hy,N⟩|hy
     . cases y with
       |obj o'=>simp_all
       |tail m=>exact N.elim
       |part f=>exact N.elim
     . omega
   . rw[au _ _ k]at O;simp_all
 . by_cases k:j=i
   . subst k
     rw[ao]at A;rcases d.own b x A with⟨y,hy,_⟩|hy
     . exact h.mine j b y hy
     . exact KD h.yS.size hy
   . rw[au _ _ k]at A;exact h.mine j b x A
end
