import Derived.Test.YtldmpfccgajobaaGreatDoorV16
set_option linter.all false
namespace Go.bG
open Go.Conc
open Go.ConcN (sumTo upd sumTo_upd upd_ne upd_same)
theorem uy{F:Nat->Nat}:∀{n:Nat},(∀i,i<n->F i=0)->sumTo n F=0
 |0,_=>rfl
 |n+1,h=>by simp only[sumTo,uy (n:=n) λi a=>h i (by omega),h n (by omega)]
theorem Ej(n:Nat):Mu.Inv n (λ_=>.out) ⟨.zero,0⟩:=by
 have a:∀(F:Mu.Pc->Nat),F .out=0->Mu.tot n (λ_=>F .out)=0:=λF b=>by rw[b];exact Mu.xQ n
 refine⟨⟨λi _=>trivial,?_,λ_=>⟨?_,?_,?_⟩,λh=>(by cases h),λ_ _ _ h=>absurd rfl h⟩,λh=>(by cases h),λi _ old sv h=>(by cases h)⟩
 . rw[a Mu.bC rfl];rfl
 . rw[a Mu.ed rfl,a Mu.bQ rfl,a Mu.kP rfl];rfl
 . rw[a Mu.cj rfl]
 . rw[a Mu.bP rfl,a Mu.bQ rfl];rfl
def MS.start(P:Program)(n:Nat):MS P:=⟨.add n,0,λ_=>.idle,.none,⟨.zero,0⟩,0,0,0⟩
theorem Ek(P:Program)(n:Nat):bs n (MS.start P n):=by
 refine⟨?_,Nat.zero_le _,λh=>(by cases h),λj _ h=>(by rcases h with h|h<;>cases h),λi j _ _ h=>(by cases h),λj _ h=>(by cases h),⟨Nat.zero_le _,λh=>(by cases h)⟩,λh=>(by cases h),λh=>(by cases h),λh=>(by cases h),λk h=>(by cases h),λj _=>rfl,rfl,Nat.zero_le _,λj _=>⟨λ_=>Nat.zero_le _,λ_=>rfl⟩,⟨Nat.zero_add _,rfl⟩,λ_ j _=>rfl,Ej n⟩;show 0=sumTo n (λ_=>0)+0;rw[uy λ_ _=>rfl]
structure j9 where
 n:Nat
 cF:Nat
 fb:Nat
 fo:Nat
 gb:Nat
 mb:Nat
 GI:ji->Prop
 res:Nat->AV
 nm:wp
 ng:FJ
 hn:n<=900
 d1:cF≠fb
 d2:cF≠gb
 d3:cF≠mb
 d4:fb≠gb
 d5:fb≠mb
 d6:gb≠mb
def j9.at(A:j9)(b:Nat)(hb:0<b):dk:=⟨b,A.n,A.cF,A.fb,A.fo,A.gb,A.mb,A.GI,A.res,A.nm,A.ng,hb,A.hn,A.d1,A.d2,A.d3,A.d4,A.d5,A.d6⟩
def j9.rest(A:j9)(O:ah):ah:=λb=>if b=A.cF\/b=A.fb\/b=A.gb\/b=A.mb then none else O b
section
variable{P:Program}{Fin:ag->ah->Goroutine->Prop}
theorem mr{w:World}{b i:Nat}{c:Array Value}{e:TypeId}(h:w.heap[b]?=some (.cells c e (0,0))):w.frozen? ⟨b,i,none⟩=false:=by simp[World.frozen?,h]
theorem nQ{w:World}{b i:Nat}{c:Array Value}{e:TypeId}{v:Value}(h:w.heap[b]?=some (.cells c e (0,0)))(a:c[i]?=some v):w.cell? ⟨b,i,none⟩=some v:=by simp[World.cell?,h,a]
theorem BH(A:j9)(C:iu P A.ng)(X:jt P A.ng)(CM:gu P A.nm)(XM:gx P A.nm)(F:oT P A.nm){k:ag}{O:ah}{g:Goroutine}{xF:Nat}{tm:Bool}{cg:Array Value}{eg:TypeId}{x:Own}{a:ji}
 (hF:O A.cF=some (.obj (.chan 0 #[] false xF xF tm))) (hG:O A.gb=some (.obj (.cells cg eg (0,0)))) (cm:cg[0]?=some (.int .u64 0)) (cv:cg[1]?=some (.int .u32 0)) (hL:O A.fb=some (.part (br A.fo)))
 (hM:O A.mb=some x) (dd:kf k x a) (dj:A.GI a) (ht:∀b (hb:0<b),T P (wu P (A.at b hb) Fin A.n) gM k (A.rest O) g):xk P k O g Fin:=by
 intro W0 gs w sl t hS;have ax:∀b x,O b=some x->W0.heap.size<=b:=by obtain⟨_,_,_,_,_,_,_,_,_,h⟩:=hS;exact h
 have hb:0<gs.size:=by obtain⟨_,_,h0,_⟩:=hS;exact(Array.getElem?_eq_some_iff.1 h0).1
 obtain⟨B,hB⟩:∃B,B=A.at gs.size hb:=⟨_,rfl⟩;obtain⟨lk,ej⟩:∃lk,lk=gs.size+A.n+1:=⟨_,rfl⟩;obtain⟨Z0,z1,z2,z3,z4,h0,⟨q,b5⟩,dr,a8,b6⟩:=bL.start hS lk ⟨A.fb,A.fo,none⟩ (by omega)
 have E:Sat k O w:=by have:=a8.sat 0;rwa [ak,ak]at this
 obtain⟨tr⟩:=T.tree (zV (P:=P) (A:=B) (Fin:=Fin) A.n) (by rw[hB];exact ht gs.size hb)
 have al:(0:Nat)≠lk:=by omega
 have ay:∀i,aK O A.gb i:=λi=>.inl ⟨_,hG⟩
 have b0:∀i,k.cell A.gb i=none:=λi=>by
  cases e:k.cell A.gb i with
  |none=>rfl
  |some v=>exact absurd (ay i) (E.apart _ _ _ e)
 have N:∀i,(i=A.fo\/i=A.fo+1)->aK O A.fb i:=λi D=>.inr (.inr ⟨_,hL,by
  unfold br
  rcases D with rfl|rfl
  . simp
  . simp⟩)
 have b7:∀i,(i=A.fo\/i=A.fo+1)->k.cell A.fb i=none:=λi D=>by
  cases e:k.cell A.fb i with
  |none=>rfl
  |some v=>exact absurd (N i D) (E.apart _ _ _ e)
 have Q:=E.obj _ _ hG;have dx:=E.obj _ _ hF;obtain⟨cl,el,a9,_,b8⟩:=E.part _ _ hL
 have b1:∀b y,A.rest O b=some y->O b=some y/\b≠A.cF/\b≠A.fb/\b≠A.gb/\b≠A.mb:=λb y h=>by
  unfold j9.rest at h;split at h
  . cases h
  . rename_i hn
    exact⟨h,λe=>hn (.inl e),λe=>hn (.inr (.inl e)),λe=>hn (.inr (.inr (.inl e))),λe=>hn (.inr (.inr (.inr e)))⟩
 obtain⟨L,b2⟩:∃L,L=bo (bo (λ_=>ag.bot) 0 k) lk k:=⟨_,rfl⟩
 obtain⟨G,b3⟩:∃G,G=bo (bo (λ_=>ah.bot) 0 (A.rest O)) lk (ah.bot.set A.mb x):=⟨_,rfl⟩
 have R:L 0=k:=by rw[b2,ap _ _ al,ak]
 have S:L lk=k:=by rw[b2,ak]
 have ad:∀i,i≠0->i≠lk->L i=ag.bot:=λi f h2=>by rw[b2,ap _ _ h2,ap _ _ f]
 have b9:G 0=A.rest O:=by rw[b3,ap _ _ al,ak]
 have bq:G lk=ah.bot.set A.mb x:=by rw[b3,ak]
 have bA:∀i,i≠0->i≠lk->G i=ah.bot:=λi f h2=>by rw[b3,ap _ _ h2,ap _ _ f]
 have z:∀i b y,G i b=some y->(i=0/\O b=some y/\b≠A.cF/\b≠A.fb/\b≠A.gb/\b≠A.mb)\/(i=lk/\b=A.mb/\y=x):=λi b y h=>by
  by_cases U:i=0
  . subst U;rw[b9]at h;exact .inl ⟨rfl,b1 b y h⟩
  . by_cases V:i=lk
    . subst V
      rw[bq]at h
      by_cases eb:b=A.mb
      . subst eb;simp only[ah.set,if_true,Option.some.injEq]at h;exact .inr ⟨rfl,rfl,h.symm⟩
      . simp only[ah.set,if_neg eb]at h;cases h
    . rw[bA i U V]at h;cases h
 have dy:∀i b n v,(L i).cell b n=some v->k.cell b n=some v:=λi b n v h=>by
  by_cases U:i=0
  . subst U;rw[R]at h;exact h
  . by_cases V:i=lk
    . subst V;rw[S]at h;exact h
    . rw[ad i U V]at h;cases h
 have e7:bL Z0 L G (λ_=>False) (λ_=>False) w t:=by
  have h:=a8.qF (u:=#[]) (w':=w) (kk':=L) (OO':=G) (J':=λ_=>False) (M':=λ_=>False) (λa b=>a=b\/(a=0/\b=lk)) rfl ⟨⟨.refl _,rfl⟩,λ_ _=>rfl⟩ (λb=>.inl rfl) (λop h=>by simp at h) (λi j e n y M hm hz hk=>?_) (λj b n v J=>?_) (λj b s J=>?_) (λj b y M=>?_) (λi j b y bB M=>?_)
   (λsaid=>by rw[mq];exact a8.clean said) (λop W=>by simp at W) (λm op a W=>by simp at W) (λn a ha hm h=>?_)
  . rw[mq]at h;exact h
  . rw[mq]
    rcases e with rfl|⟨rfl,rfl⟩
    . exact hk
    . unfold DD
      rw[z2,if_pos rfl,z1];obtain⟨op,W,_⟩:=touch_of M;exact .inl (lt_size_of_getElem? W)
  . by_cases U:j=0
    . subst U;rw[R]at J;exact⟨0,.inl rfl,by rw[ak];exact J⟩
    . by_cases V:j=lk
      . subst V;rw[S]at J;exact⟨0,.inr ⟨rfl,rfl⟩,by rw[ak];exact J⟩
      . rw[ad j U V]at J;cases J
  . by_cases U:j=0
    . subst U;rw[R]at J;exact⟨0,.inl rfl,by rw[ak];exact J⟩
    . by_cases V:j=lk
      . subst V;rw[S]at J;exact⟨0,.inr ⟨rfl,rfl⟩,by rw[ak];exact J⟩
      . rw[ad j U V]at J;cases J
  . rcases z j b y M with⟨rfl,f,_⟩|⟨rfl,rfl,rfl⟩
    . exact⟨0,.inl rfl,by rw[ak];exact f,λs Y=>by rw[ak]at Y;rw[R];exact Y⟩
    . exact⟨0,.inr ⟨rfl,rfl⟩,by rw[ak];exact hM,λs Y=>by rw[ak]at Y;rw[S];exact Y⟩
  . cases e:G j b with
    |none=>rfl
    | some y'=>
      rcases z i b y M with⟨rfl,_,_,_,_,h5⟩|⟨rfl,f,_⟩
      . rcases z j b y' e with⟨rfl,_⟩|⟨rfl,h6,_⟩
        . exact absurd rfl bB
        . exact absurd h6 h5
      . rcases z j b y' e with⟨rfl,_,_,_,_,h5⟩|⟨rfl,_⟩
        . exact absurd f h5
        . exact absurd rfl bB
  . rcases h with⟨_,h,_⟩|⟨_,h,_⟩<;>exact h.elim
 have ea:A.gb<w.heap.size:=(Array.getElem?_eq_some_iff.1 Q).1
 have o:∀i b,(b=A.cF\/b=A.fb\/b=A.gb)->G i b=none:=λi b hb=>by
  cases e:G i b with
  |none=>rfl
  | some y=>
    rcases z i b y e with⟨_,_,f,h2,h3,_⟩|⟨_,f,_⟩
    . rcases hb with rfl|rfl|rfl
      . exact absurd rfl f
      . exact absurd rfl h2
      . exact absurd rfl h3
    . rcases hb with rfl|rfl|rfl
      . exact absurd f A.d3
      . exact absurd f A.d5
      . exact absurd f A.d6
 have d:∀i b n,k.cell b n=none->(L i).cell b n=none:=λi b n h=>by
  cases e:(L i).cell b n with
  |none=>rfl
  |some v=>rw[dy i b n v e]at h;cases h
 have hP:=e7.oO (λl=>∃c:Addr,l=.cell c/\c.spot=none/\c.block=A.gb/\(c.off=0\/c.off=1)) (λc ⟨c',e,_,f,_⟩=>by cases e;rw[f];exact⟨ea,λi=>⟨de (o i _ (.inr (.inr rfl))),d i _ _ (b0 _)⟩⟩) (λr ⟨c',e,_⟩=>by cases e)
 obtain⟨Z,hZ⟩:∃Z:Base,Z=⟨λl=>Z0.Shun l\/∃c:Addr,l=.cell c/\c.spot=none/\c.block=A.gb/\(c.off=0\/c.off=1),Z0.N0,Z0.lk,Z0.la,Z0.W0⟩:=⟨_,rfl⟩
 rw[<-hZ]at hP;have K:Z.lk=lk:=by rw[hZ];exact z2
 have ec:Z.N0=t.size:=by rw[hZ];exact z1
 have c5:Z.W0=W0:=by rw[hZ];exact z4
 have av:B.b+B.n+1<=Z.lk:=by rw[K,hB];show gs.size+A.n+1<=lk;omega
 have H:∀m b,touchAt t m=some b->b.loc.isMemory=true->b.kind≠.atomic->Knows t 0 m:=λm b hb hm hk=>by
  rcases b6 m b hb hm with h|⟨_,h⟩
  . exact h
  . exact absurd h hk
 have a7:∀l,GM B l->l.isMemory=true:=λl hl=>by cases l<;>first|rfl|exact hl.elim
 have I:∀i,bt P B (MS.start P A.n) i↔i=0:=λi=>by
  constructor
  . rintro(h|⟨l,f,_⟩|⟨_,f⟩)
    . exact h
    . exact absurd f (Nat.not_lt_zero _)
    . exact absurd rfl f
  . exact λh=>.inl h
 have ee:w.cell? ⟨A.gb,0,none⟩=some (.int .u64 (dm (0:Nat) 0)):=by rw[show dm ((0:Nat):Int) 0=0 by simp[dm]];exact nQ Q cm
 have c6:br A.fo A.fo=some (.int .i32 0):=by simp[br]
 have c7:br A.fo (A.fo+1)=some (.int .u32 0):=by unfold br;rw[if_neg (by omega),if_pos rfl]
 have ei:cz P B Z (MS.start P A.n) L G (λ_=>False) (λ_=>False) gs.size w t:=by
  rw[hB]at I a7 ⊢
  refine⟨Ek P A.n,rfl,⟨xF,tm,dx⟩,⟨nQ a9 (b8 _ _ c6),nQ a9 (b8 _ _ c7),λi=>mr a9⟩,⟨ee,nQ Q cv,λi=>mr Q⟩,⟨_,_,a9⟩,⟨_,_,Q⟩,λi=>⟨o i _ (.inl rfl),o i _ (.inr (.inr rfl))⟩,
   λi=>⟨d i _ _ (b7 _ (.inl rfl)),d i _ _ (b7 _ (.inr rfl)),d i _ _ (b0 _),d i _ _ (b0 _)⟩,λi y M=>?_,λj _ h=>(by cases h),λ_=>⟨x,a,?_,?_,dj⟩,λc hc=>⟨?_,λj _=>rfl⟩,λi=>⟨λh=>h.elim,?_⟩,λp hp=>hp.elim,λh=>(by cases h),λm b hb Y hk i D=>?_,λm b hb Y hk=>?_,λi D m b hm hb c8 hz=>?_,λm c hm h=>?_,λi f h2=>?_,λl hl h=>?_,λc hc h=>?_,by rw[c5];exact⟨ax _ _ hF,ax _ _ hL,ax _ _ hG⟩,?_,?_⟩
  . have M:G i A.fb=some y:=M
    rw[o i A.fb (.inr (.inl rfl))]at M;cases M
  . show G Z.lk A.mb=some x
    rw[K,bq];simp[ah.set]
  . rw[K,S];exact dd
  . rw[K]at hc
    cases e:G lk c with
    |none=>exact absurd e hc
    | some y=>
      rcases z lk c y e with⟨h,_⟩|⟨_,h,_⟩
      . omega
      . exact h
  . rintro(⟨j,_,_,h⟩|⟨_,h⟩)<;>cases h
  . rw[(I i).1 D]
    exact H m b hb (a7 _ Y) (by rw[hk];simp)
  . exact H m b hb (a7 _ Y) (by rw[hk];simp)
  . rw[(I i).1 D]
    rcases b6 m b hb c8 with h|⟨h,_⟩
    . exact h
    . exact absurd (by rw[hZ];exact .inl h) hz
  . have:=lt_of_act? h
    omega
  . have ca:i≠0:=λe=>h2 ((I i).2 e)
    exact⟨ad i ca (by rw[<-K];exact f),bA i ca (by rw[<-K];exact f)⟩
  . obtain⟨c,rfl,cb⟩:=h
    obtain⟨Y,hl⟩:=hl;rw[hZ];refine .inr ⟨c,rfl,Y,cb,?_⟩
    rcases hl with⟨f,_⟩|⟨_,h2⟩
    . exact absurd (cb.symm.trans f).symm A.d4
    . exact h2
  . rw[hZ]at h
    rcases h with h|⟨c',e,_,h,_⟩
    . have:=(a8.iT c h).2 0
      rw[ak]at this;exact this.1 (by rw[hc.1];exact N _ hc.2)
    . cases e
      exact A.d4 (hc.1.symm.trans h)
  . rw[hZ];exact z3
  . rw[ec];exact Nat.le_refl _
 have ep:B.b=gs.size:=by rw[hB];rfl
 have b4:∀i,i≠0 -> ¬cL P B (MS.start P A.n) i/\¬dV P B (MS.start P A.n) i/\¬dz P B (MS.start P A.n) i:=λi D=>by
  refine⟨?_,?_,?_⟩
  . rintro(⟨h,_⟩|⟨_,_,_,h⟩|⟨_,h⟩)
    . exact D h
    . exact h
    . exact h
  . rintro(⟨h,_⟩|⟨_,_,_,h⟩|⟨_,h⟩)
    . exact D h
    . exact h
    . exact h
  . rintro(⟨h,_⟩|⟨_,_,_,h⟩)
    . exact D h
    . cases h
 have hC:bg (bM P B Fin Z av) Z (MS.start P A.n) (λ_=>⟨_,_,_,_,tr⟩) q L G (λ_=>False) (λ_=>False) gs w t:=by
  refine⟨rfl,hP,λi hl=>?_,λi hw=>?_,λi hh=>?_,λi y M n1 n2 n3=>?_,b5.above,ei⟩
  . have D:i=0:=Classical.byContradiction λh=>(b4 i h).1 hl
    subst D;exact⟨by show 0<B.b+B.n+1;omega,h0,(by show wu P B Fin A.n=bm P B Fin (MS.start P A.n) 0;rfl),R.symm,b9.symm,tr.running,dr,.inl rfl,zQ⟩
  . have D:i=0:=Classical.byContradiction λh=>(b4 i h).2.1 hw
    subst D;exact absurd hw (wA (s:=MS.start P A.n) (m:=A.n) rfl)
  . have D:i=0:=Classical.byContradiction λh=>(b4 i h).2.2 hh
    subst D;exact absurd hh (kE (by simp[MS.start]))
  . have D:i≠0:=λe=>n1 (by subst e;exact p9 (s:=MS.start P A.n) (m:=A.n) rfl)
    exact⟨D,b5.old i y (by omega) M⟩
 rw[<-c5];exact Hb (by rw[hB];exact C) (by rw[hB];exact X) (by rw[hB];exact CM) (by rw[hB];exact XM) (by rw[hB];exact F) av hC sl
end
theorem runNT_add{P:Program}:∀(a b:Nat) (m m1:Machine) (t c:Trace),runNT P a m t=(.next m1,c)->runNT P (a+b) m t=runNT P b m1 c
 | 0,b,m,m1,t,c,h=>by
   simp only[runNT,Prod.mk.injEq,Stepped.next.injEq]at h;rw[Nat.zero_add,h.1,h.2]
 | a + 1,b,m,m1,t,c,h=>by
   have e:a+1+b=(a+b)+1:=by omega
   rw[e];simp only[runNT]at h ⊢;cases d:stepT P m with
   | mk r ops=>
     rw[d]at h;cases r with
     |next f=>simp only at h ⊢;exact runNT_add a b f m1 _ c h
     |ended o w=>simp at h
def wB(w w':World):Prop:=w.heap=w'.heap/\ko w.os w'.os/\w'.output=w.output
theorem wB.refl(w:World):wB w w:=⟨rfl,.refl _,rfl⟩
theorem bL.BI{Z:Base}{kk:Nat->ag}{g:Nat->ah}{J M:Nat->Prop}{w w':World}{t:Trace}(h:bL Z kk g J M w t)(d:wB w w'):bL Z kk g J M w' t:=by
 have e:=d.1.symm;have c:∀{k O},Sat k O w->Sat k O w':=λc=>⟨c.apart,λb i v x=>by rw[(nN e _).1];exact c.cell b i v x,λb s x=>by have:=c.sh b s x;simpa[World.shape?,e]using this,λb o x=>by rw[e];exact c.obj b o x,λb n x=>by rw[e];exact c.tail b n x,λb f x=>by rw[e];exact c.part b f x⟩
 exact⟨λi=>c (h.sat i),h.gY,h.lx,λi=>by rw[e];exact h.xO i,h.clean,λop x=>by rw[e];exact h.seen op x,h.acc,h.n0,h.tP,λa x=>by rw[e];exact h.iT a x,λr x=>by rw[e];exact h.ly r x,h.vC.step d.2.1 d.2.2 (by rw[e];exact Nat.le_refl _) (λb _=>by rw[e]),h.mine⟩
structure di(P:Program)(d:Nat)(k:ag)(O:ah)(g:Goroutine)(gs:Array Goroutine)(w:World)(t:Trace)(Z:Base)(q:Nat->Nat):Prop where
 lk:0≠Z.lk
 g0:gs[0]?=some g
 lv:Leavers P t gs q
 df:Deaf t 0=d
 bN:bL Z (bo (λ_=>ag.bot) 0 k) (bo (λ_=>ah.bot) 0 O) (λ_=>False) (λ_=>False) w t
def Lj(P:Program)(k:ag)(O:ah)(g:Goroutine)(d:Nat)(N:ag->ah->Goroutine->Nat->Prop):Prop:=∀w,Sat k O w->∃g' w' es k' O',stepG P true g w=.go g' w' es/\(∃a:World,wB a w'/\Sat k' O' a/\(Eff k O w k' O' a es.toList\/(a=w/\k'=k/\O'=O/\(es=#[⟨.mark .disable,false,true⟩]\/es=#[⟨.mark .enable,false,true⟩]))))/\N k' O' g' (deafBehind d es)
section
variable{P:Program}{k k':ag}{O O':ah}{g g':Goroutine}{gs:Array Goroutine}{w w':World}{t:Trace}{Z:Base}{q:Nat->Nat}{d:Nat}
theorem dE.Qa{W0:World}(h:dE P W0 k O g gs w t):∃Z q,Z.W0=W0/\di P 0 k O g gs w t Z q:=by
 obtain⟨Z,_,a,_,b,c,⟨q,d⟩,hd,e,_⟩:=bL.start h 1 ⟨0,0,none⟩ (by decide);exact⟨Z,q,b,by rw[a];decide,c,d,hd,e⟩
theorem di.back(h:di P 0 k O g gs w t Z q):dE P Z.W0 k O g gs w t:=by have:=h.bN.finish (P:=P) h.g0 h.lv h.df;rw[ak,ak]at this;exact this
theorem di.at(h:di P d k O g gs w t Z q)(x:Nat):di P d k O g gs (w.at x) t Z q:=⟨h.lk,h.g0,h.lv,h.df,h.bN.at x⟩
theorem di.BI(h:di P d k O g gs w t Z q)(e:wB w w'):di P d k O g gs w' t Z q:=⟨h.lk,h.g0,h.lv,h.df,h.bN.BI e⟩
theorem di.sat(h:di P d k O g gs w t Z q):Sat k O w:=by have:=h.bN.sat 0;rwa [ak,ak]at this
theorem wC{α:Type}(f:Nat->α)(i:Nat)(x y:α):bo (bo f i x) i y=bo f i y:=by
 funext j;by_cases e:j=i
 . subst e;rw[ak,ak]
 . rw[ap _ _ e,ap _ _ e,ap _ _ e]
theorem di.own(h:di P d k O g gs w t Z q){es:Array Event}{fn:FuncId}{pos:String}(z:Sat k' O' w')(p:Eff k O w k' O' w' es.toList\/(w'=w/\k'=k/\O'=O/\(es=#[⟨.mark .disable,false,true⟩]\/es=#[⟨.mark .enable,false,true⟩]))):
 di P (deafBehind d es) k' O' g' (gs.setIfInBounds 0 g') w' (t++MemOp.ofEvents 0 fn pos es) Z q:=by
 have r:=(Array.getElem?_eq_some_iff.1 h.g0).1;have l:∀op∈MemOp.ofEvents 0 fn pos es,op.g=0:=λop c=>by obtain⟨e,_,rfl⟩:=Go.Conc.mem_ofEvents c;rfl
 refine⟨h.lk,Array.getElem?_setIfInBounds_self_of_lt r,⟨λi x A u=>?_,λj y=>?_⟩,by rw[Deaf_own,h.df],?_⟩
 . rw[Array.getElem?_setIfInBounds_ne (by omega)]at u
   rw[Deaf_other t (by omega) _ l];exact h.lv.old i x A u
 . rw[Array.size_setIfInBounds]at y
   rw[Deaf_other t (by omega) _ l];exact h.lv.above j y
 . rcases p with p|⟨rfl,rfl,rfl,p⟩
   . have:=h.bN.own (i:=0) h.lk (.inl rfl) (k':=k') (O':=O') (fn:=fn) (pos:=pos) (by rw[ak,ak];exact p) z
     rwa [wC,wC]at this
   . have f:∀op∈MemOp.ofEvents 0 fn pos es,op.act.touch?=none/\op.act.low w'.heap.size:=λop c=>by
      obtain⟨e,s,rfl⟩:=Go.Conc.mem_ofEvents c
      rcases p with rfl|rfl<;>simp at s<;>subst s<;>exact⟨rfl,trivial⟩
     exact h.bN.qF (λa b=>a=b) rfl ⟨⟨.refl _,rfl⟩,λ_ _=>rfl⟩ (λb=>.inl rfl) (λop c=>(f op c).2) (λa b e n x _ _ _ B=>by subst e;exact B.app _) (λj b n v h=>⟨j,rfl,h⟩) (λj b n h=>⟨j,rfl,h⟩) (λj b x h=>⟨j,rfl,h,λ_ h=>h⟩) h.bN.gY
      (λsaid=>noRace_appendMute (h.bN.clean said) λop c=>(f op c).1) (λop c a o=>by rw[(f op c).1]at o;cases o) (λm op a c o=>by rw[(f op (Array.mem_of_getElem? c)).1]at o;cases o) (λn a o s h=>h.elim (λ⟨_,h,_⟩=>h.elim) (λ⟨_,h,_⟩=>h.elim))
theorem vK(d:Leavers P t gs q){a a' x:Goroutine}{w':World}:(gs.map (woken P a a' w')).setIfInBounds 0 x=gs.setIfInBounds 0 x:=by
 apply Array.ext_getElem?;intro j;by_cases c:0=j
 . subst c
   by_cases b:0<gs.size
   . rw[Array.getElem?_setIfInBounds_self_of_lt (by simpa using b),Array.getElem?_setIfInBounds_self_of_lt b]
   . rw[Array.getElem?_eq_none (by rw[Array.size_setIfInBounds,Array.size_map];omega),Array.getElem?_eq_none (by rw[Array.size_setIfInBounds];omega)]
 . rw[Array.getElem?_setIfInBounds_ne c,Array.getElem?_setIfInBounds_ne c,Array.getElem?_map]
   cases e:gs[j]? with
   |none=>rfl
   |some y=>simp only[Option.map_some,Option.some.injEq];exact woken_quitsD (d.old j y (by omega) e)
theorem wD{N:ag->ah->Goroutine->Nat->Prop}(p:g.status=.running)(F:Lj P k O g d N):
 ∀ (n:Nat) (gs:Array Goroutine) (w:World) (sl:Option (Nat × Nat)) (t:Trace) (q:Nat->Nat),sumTo gs.size q=n->di P d k O g gs w t Z q ->
   ∃M gs' w' l T q' k' O' g' U,runNT P M (crowd gs w sl) t=(.next (crowd gs' w' l),T)/\di P U k' O' g' gs' w' T Z q'/\N k' O' g' U:=by
 intro n
 induction n using Nat.strongRecOn with
 |ind n ih=>
 intro gs w sl t q hn o
 have a7:∀x∈gs,awake x:=by
  intro x hx;obtain⟨i,B,rfl⟩:=Array.mem_iff_getElem.1 hx
  rcases Nat.eq_zero_or_pos i with rfl|r
  . have:gs[0]=g:=by simpa[Array.getElem?_eq_getElem B]using o.g0
    rw[this];exact awake_of (.inl p)
  . exact awake_of ((o.lv.old i _ r (Array.getElem?_eq_getElem B)).status.elim .inl λx=>.inr (.inr x))
 obtain⟨i,x,C,l,B,V,J⟩:=crowd_pick (P:=P) (w:=w) (sl:=sl) a7 ⟨0,g,o.g0,p⟩;have K:=(Array.getElem?_eq_some_iff.1 B).1;have s:=o.at C
 rcases Nat.eq_zero_or_pos i with rfl|r
 . obtain rfl:x=g:=by rw[o.g0]at B;exact(Option.some.inj B).symm
   obtain⟨g',w',es,k',O',s1,⟨w2,s0,s2,s3⟩,s4⟩:=F (w.at C) s.sat;have c:=runT_crowd_go (P:=P) (sl:=l) (i:=0) B (show stepG P (0==0) x (w.at C)=_ from s1)
   rw[vK o.lv]at c;exact⟨1,_,w',l,_,q,k',O',g',_,by simp only[runNT,J,c],(s.own (fn:=x.frame.fn) (pos:=x.frame.place) s2 s3).BI s0,s4⟩
 . have W :=o.lv.old i x r B
   have a8:(i==0)=false:=by simp;omega
   cases G:q i with
   |zero=>rw[G]at W;rw[W.1]at V;cases V
   | succ E=>
     rw[G]at W
     rcases W with⟨hf,_⟩|⟨_,g',es,hm,L,a9⟩
     . rw[hf]at V;cases V
     have c:=runT_crowd_go (P:=P) (sl:=l) (i:=i) B (by rw[a8];exact L (w.at C))
     have ax:sumTo gs.size (upd q i E)+(E+1)=sumTo gs.size q+E:=by have:=sumTo_upd q E id K;simpa[G]using this
     have A:∀op∈MemOp.ofEvents i x.frame.fn x.frame.place es,op.g=i:=λop f=>by obtain⟨e,_,rfl⟩:=Go.Conc.mem_ofEvents f;rfl
     have H:∀op∈MemOp.ofEvents i x.frame.fn x.frame.place es,op.act.touch?=none:=λop f=>by obtain⟨e,he,rfl⟩:=Go.Conc.mem_ofEvents f;exact touch_mute (hm e he)
     have Q:∀op∈MemOp.ofEvents i x.frame.fn x.frame.place es,op.act.low (w.at C).heap.size:=λop f=>by obtain⟨e,he,rfl⟩:=Go.Conc.mem_ofEvents f;exact low_mute (hm e he) _
     have hP:=s.bN.qF (w':=w.at C) (kk':=bo (λ_=>ag.bot) 0 k) (OO':=bo (λ_=>ah.bot) 0 O) (J':=λ_=>False) (M':=λ_=>False) (u:=MemOp.ofEvents i x.frame.fn x.frame.place es) (λa b=>a=b) rfl ⟨⟨.refl _,rfl⟩,λ_ _=>rfl⟩ (λb=>.inl rfl) Q (λa b e n y _ _ _ h=>by subst e;exact h.app _) (λj b n v h=>⟨j,rfl,h⟩) (λj b n h=>⟨j,rfl,h⟩) (λj b x h=>⟨j,rfl,h,λ_ h=>h⟩) s.bN.gY
      (λsaid=>noRace_appendMute (s.bN.clean said) H) (λop f a I=>by rw[H op f]at I;cases I) (λm op a f I=>by rw[H op (Array.mem_of_getElem? f)]at I;cases I) (λn a I hm h=>h.elim (λ⟨_,h,_⟩=>h.elim) (λ⟨_,h,_⟩=>h.elim))
     have ad:di P d k O g ((gs.map (woken P x g' (w.at C))).setIfInBounds i g') (w.at C) (t++MemOp.ofEvents i x.frame.fn x.frame.place es) Z (upd q i E):=by
      refine⟨o.lk,?_,⟨λj y X Y=>?_,λj X=>?_⟩,?_,hP⟩
      . rw[Array.getElem?_setIfInBounds_ne (by omega),Array.getElem?_map,o.g0]
        simp[woken_run p]
      . by_cases D:i=j
        . subst D
          rw[Array.getElem?_setIfInBounds_self_of_lt (by simpa using K)]at Y
          obtain rfl:=Option.some.inj Y;rw[upd_same,Deaf_own];exact a9
        . rw[Array.getElem?_setIfInBounds_ne D,Array.getElem?_map]at Y
          obtain⟨z,hz,rfl⟩:=Option.map_eq_some_iff.1 Y;have R:=o.lv.old j z X hz;rw[woken_quitsD R,upd_ne q E (Ne.symm D),Deaf_other t D _ A];exact R
      . rw[Deaf_other t (g':=i) (by simp at X;omega) _ A]
        exact o.lv.above j (by simpa using X)
      . rw[Deaf_other t (by omega) _ A];exact o.df
     obtain⟨M,gs',al,S,T,q',k',O',av,U,e1,e2,e3⟩:=ih (sumTo gs.size (upd q i E)) (by omega) _ (w.at C) l _ (upd q i E) (by simp) ad
     exact⟨M+1,gs',al,S,T,q',k',O',av,U,by simp only[runNT,J,c];exact e1,e2,e3⟩
inductive gK(P:Program)(N:ag->ah->Goroutine->Prop):ag->ah->Goroutine->Nat->Prop
 |done {k:ag}{O:ah}{g:Goroutine}:N k O g->gK P N k O g 0
 |step {k:ag}{O:ah}{g:Goroutine}{d:Nat}(N':ag->ah->Goroutine->Nat->Prop):g.status=.running->Lj P k O g d N'->(∀k' O' g' d',N' k' O' g' d'->gK P N k' O' g' d')->gK P N k O g d
theorem Hc{N:ag->ah->Goroutine->Prop}(h:gK P N k O g d):∀(gs:Array Goroutine) (w:World) (sl:Option (Nat × Nat)) (t:Trace) (q:Nat->Nat),di P d k O g gs w t Z q ->
 ∃M gs' w' a j k' O' g',runNT P M (crowd gs w sl) t=(.next (crowd gs' w' a),j)/\dE P Z.W0 k' O' g' gs' w' j/\N k' O' g':=by
 induction h with
 |done h=>exact λgs w sl t q b=>⟨0,gs,w,sl,t,_,_,_,rfl,b.back,h⟩
 |step F l m _ n=>intro gs w sl t q b;obtain⟨o,c,p,e,r,s,G,H,I,J,u,v,x⟩:=wD l m _ gs w sl t q rfl b;obtain⟨M2,f,y,i,z,A,B,C,f1,D,E⟩:=n _ _ _ _ x c p e r s v;exact⟨o+M2,f,y,i,z,A,B,C,by rw[runNT_add _ _ _ _ _ _ u];exact f1,D,E⟩
theorem gK.phase{N:ag->ah->Goroutine->Prop}(h:gK P N k O g 0):xk P k O g N:=λW0 gs w sl t a=>by obtain⟨Z,q,rfl,b⟩:=a.Qa;exact Hc h gs w sl t q b
theorem dE.ghost{W0:World}(h:dE P W0 k O g gs w t){k':ag}{O':ah}(c:jM k O k' O'):dE P W0 k' O' g gs w t:=by
 obtain⟨Z,q,rfl,a⟩:=h.Qa;obtain⟨d,e⟩:=c w a.sat;have:=a.own (g':=g) (es:=#[]) (fn:=0) (pos:=  "") d (.inl e)
 have f:t++MemOp.ofEvents 0 0  "" #[]=t:=by rw[ofEvents_eq];simp
 have i:gs.setIfInBounds 0 g=gs:=by
  apply Array.ext_getElem?;intro j;by_cases b:0=j
  . subst b
    rw[Array.getElem?_setIfInBounds_self_of_lt (Array.getElem?_eq_some_iff.1 a.g0).1,a.g0]
  . rw[Array.getElem?_setIfInBounds_ne b]
 rw[f,i]at this;exact this.back
theorem Hd{m:Mo}(I:m.main=true)(n:∀k O g N,¬m.cJ k O g N){Q:ag->ah->Goroutine->Prop}(h:T P m Q k O g):
 ∀ (W0:World) (gs:Array Goroutine) (w:World) (sl:Option (Nat × Nat)) (t:Trace),dE P W0 k O g gs w t ->
   ∃M gs' w' o F k' O' g',runNT P M (crowd gs w sl) t=(.next (crowd gs' w' o),F)/\dE P W0 k' O' g' gs' w' F/\Q k' O' g':=by
 induction h with
 |stop h=>exact λW0 gs w sl t a=>⟨0,gs,w,sl,t,_,_,_,rfl,a,h⟩
 | step N i _ l j=>
   intro W0 gs w sl t a;rw[I]at l;obtain⟨Z,q,rfl,J⟩:=a.Qa
   obtain⟨p,b,r,c,s,q1,K,L,R,d1,u,v,rfl,x⟩:=wD (N:=λk' O' g' S=>S=0/\N k' O' g') i (λw U=>by
    obtain⟨g',w',es,k',O',V,G,W,X⟩:=l w U;refine⟨g',w',es,k',O',V,⟨w',.refl _,W,.inl G⟩,?_,X⟩;have H:=bD (t:=#[]) (tR (λe Y=>G.evs e Y) 0 0  "") 0
    rw[Deaf_own]at H;exact H) _ gs w sl t q rfl J
   obtain⟨M2,d,y,f,z,A,B,C,f1,D,E⟩:=j _ _ _ x _ b r c s v.back;exact⟨p+M2,d,y,f,z,A,B,C,by rw[runNT_add _ _ _ _ _ _ u];exact f1,D,E⟩
 |ghost i _ j=>exact λW0 gs w sl t a=>j W0 gs w sl t (a.ghost i)
 |phase N i _ l j=>intro W0 gs w sl t a;obtain⟨p,b,r,c,s,K,L,R,u,v,x⟩:=l W0 gs w sl t a;obtain⟨M2,d,y,f,z,A,B,C,f1,D,E⟩:=j _ _ _ x W0 b r c s v;exact⟨p+M2,d,y,f,z,A,B,C,by rw[runNT_add _ _ _ _ _ _ u];exact f1,D,E⟩
 |cJ N h0 i _ _=>exact absurd i (n _ _ _ _)
end
def eD(fo:Nat)(s:Mu.Sh):Nat->Option Value:=λi=>if i=fo then some (.int .i32 (enc s.w.L s.w.K s.w.S s.w.N))else if i=fo+1 then some (.int .u32 s.ms)else none
def js:Mu.Sh:=⟨.zero,0⟩
def nk:Mu.Sh:=⟨{Mu.Wd.zero with L:=true},0⟩
theorem uz(fo:Nat):eD fo js=br fo:=by
 funext i;simp[eD,br,js,enc,Mu.Wd.zero]
def fS(fo:Nat):Nat->Option Value:=eD fo nk
section
variable{P:Program}{k:ag}{O:ah}{b o:Nat}{w w':World}{s s':Mu.Sh}
theorem sS(f:Sat k O w)(g:O b=some (.part (eD o s))):ShM b o w s:=by
 obtain⟨c,e,a,h,d⟩:=f.part _ _ g;refine⟨?_,?_,λi=>?_⟩
 . exact nQ a (d o _ (by simp[eD]))
 . exact nQ a (d (o+1) _ (by simp[eD]))
 . exact mr a
theorem heap_set{w:World}{b i:Nat}{v:Value}{c:Array Value}{e:TypeId}{z:Nat × Nat}(h:w.heap[b]?=some (.cells c e z)):(w.setCell ⟨b,i,none⟩ v).heap[b]?=some (.cells (c.setIfInBounds i v) e z):=by have a:=(Array.getElem?_eq_some_iff.1 h).1;simp[World.setCell,Array.getElem?_modify,h]
theorem zX{w:World}{b i d:Nat}{v:Value}(h:d≠b):(w.setCell ⟨b,i,none⟩ v).heap[d]?=w.heap[d]?:=by simp[World.setCell,Array.getElem?_modify,Ne.symm h]
theorem He{es : Array Event}(A:Sat k O w)(J:O b=some (.part (eD o s)))(M:MW b o w w')(P:ShM b o w' s')(Q:EvM b o es)(R:∀e∈es,∀m,e.loc≠.mark m):
 ∃Z:World,wB Z w'/\Sat k (O.set b (.part (eD o s'))) Z/\Eff k O w k (O.set b (.part (eD o s'))) Z es.toList:=by
 obtain⟨c,e,E,h2,h3⟩:=A.part _ _ J;have a7:=(Array.getElem?_eq_some_iff.1 E).1
 have key:∃C,w'.heap[b]?=some (.cells C e (0,0))/\C.size=c.size/\(∀i,i≠o->i≠o+1->C[i]?=c[i]?)/\(∀d,d≠b->w'.heap[d]?=w.heap[d]?)/\w'.heap.size=w.heap.size:=by
  rcases M.2 with F|⟨i,v,g,X,F⟩
  . exact⟨c,by rw[F];exact E,rfl,λ_ _ _=>rfl,λd _=>by rw[F],by rw[F]⟩
  . refine⟨c.setIfInBounds i v,by rw[F];exact heap_set E,by simp,λj hj ad=>?_,λd hd=>by rw[F];exact zX hd,by rw[F];simp[World.setCell]⟩
    exact Array.getElem?_setIfInBounds_ne (by rcases g with rfl|rfl<;>omega)
 obtain⟨C,G,Y,k3,B,k5⟩:=key;have a8:C[o]?=some (.int .i32 (enc s'.w.L s'.w.K s'.w.S s'.w.N)):=by have:=P.cw;simpa[World.cell?,G]using this
 have a9:C[o+1]?=some (.int .u32 s'.ms):=by have:=P.cs;simpa[World.cell?,G]using this
 have t:∀i,(i=o\/i=o+1)->aK O b i:=λi g=>.inr (.inr ⟨_,J,by rcases g with rfl|rfl<;>simp[eD]⟩)
 have r:∀d y,(O.set b (.part (eD o s'))) d=some y->(d=b/\y=.part (eD o s'))\/(d≠b/\O d=some y):=λd y h=>by
  by_cases hd:d=b
  . subst hd;simp[ah.set]at h;exact .inl ⟨rfl,h.symm⟩
  . simp[ah.set,hd]at h;exact .inr ⟨hd,h⟩
 have u:∀i v,k.cell b i=some v->i≠o/\i≠o+1:=λi v x=>⟨λe=>A.apart _ _ _ x (t i (.inl e)),λe=>A.apart _ _ _ x (t i (.inr e))⟩
 refine⟨{w with heap:=w'.heap},⟨rfl,M.1⟩,⟨λd i v x hc=>?_,λd i v x=>?_,λd z hz=>?_,λd y H=>?_,λd n H=>?_,λd f H=>?_⟩,⟨.refl k,?_,λd hd D=>?_,λd n hd D c2 e2 T=>?_,λd f hd D c2 e2 T=>?_,λd hd=>?_,λd y H=>?_,λd i v x=>.inl x,λd z hz=>.inl hz,λU l=>?_,rfl,rfl,rfl,λU l=>?_,λd f X=>?_⟩⟩
 . by_cases hd:d=b
   . subst hd
     obtain⟨V,W⟩:=u i v x;rcases hc with⟨_,q⟩|⟨_,q,_⟩|⟨f,q,X⟩
     . simp[ah.set]at q
     . simp[ah.set]at q
     . simp[ah.set]at q;subst q
       simp[eD,V,W]at X
   . exact A.apart d i v x (by simpa[aK,ah.set,hd]using hc)
 . have I:=A.cell d i v x
   by_cases hd:d=b
   . subst hd
     obtain⟨V,W⟩:=u i v x;simp only[World.cell?,E,G]at I ⊢;rw[k3 i V W];exact I
   . simpa[World.cell?,B d hd]using I
 . have I:=A.sh d z hz
   by_cases hd:d=b
   . subst hd
     simp only[World.shape?,E,G,Y]at I ⊢;exact I
   . simpa[World.shape?,B d hd]using I
 . rcases r d _ H with⟨_,q⟩|⟨hd,p⟩
   . cases q
   . rw[show({w with heap:=w'.heap}:World).heap[d]?=w.heap[d]? from B d hd];exact A.obj d y p
 . rcases r d _ H with⟨_,q⟩|⟨hd,p⟩
   . cases q
   . rw[show({w with heap:=w'.heap}:World).heap[d]?=w.heap[d]? from B d hd];exact A.tail d n p
 . rcases r d _ H with⟨rfl,q⟩|⟨hd,p⟩
   . cases q
     refine⟨C,e,G,by rw[Y];exact h2,λi v g=>?_⟩;unfold eD at g;split at g
     . next q=>subst q;rw[a8];exact g
     . split at g
       . next q=>subst q;rw[a9];exact g
       . cases g
   . rw[show({w with heap:=w'.heap}:World).heap[d]?=w.heap[d]? from B d hd];exact A.part d f p
 . exact Nat.le_of_eq k5.symm
 . have a:d≠b:=λq=>by rw[q,J]at D;cases D
   exact B d a
 . have a:d≠b:=λq=>by rw[q,J]at D;cases D
   exact⟨c2,(B d a).trans T,rfl,λ_ _=>rfl⟩
 . by_cases a:d=b
   . subst a
     rw[J]at D;cases D;rw[E]at T;cases T;exact⟨C,G,Y,λi g=>k3 i (λq=>by subst q;simp[eD]at g) (λq=>by subst q;simp[eD]at g)⟩
   . exact⟨c2,(B d a).trans T,rfl,λ_ _=>rfl⟩
 . by_cases a:d=b
   . subst a
     simp only[World.shape?,E,G,Y]
   . simp[World.shape?,B d a]
 . rcases r d _ H with⟨rfl,rfl⟩|⟨a,p⟩
   . refine .inl ⟨_,J,λi g=>?_⟩
     unfold eD at g ⊢;split
     . simp
     . next V => split
                 . simp
                 . next W=>simp[V,W]at g
   . exact .inl ⟨y,p,.refl y⟩
 . rcases Q U (by simpa using l)with q|⟨i,g,q,_⟩
   . rcases q with q|q<;>exact absurd q (R U (by simpa using l) _)
   . simp only[gO,q];exact .inl (t i g)
 . rcases Q U (by simpa using l)with q|⟨i,g,q,_⟩
   . rcases q with q|q<;>exact absurd q (R U (by simpa using l) _)
   . simp only[ip,q];rw[show({w with heap:=w'.heap}:World).heap.size=w.heap.size from k5];exact a7
 . by_cases a:d=b
   . subst a;exact⟨eD o s',by simp[ah.set]⟩
   . exact⟨f,by simp[ah.set,a,X]⟩
variable{n:wp}(C:gu P n)(X:gx P n){kind:CallKind}{Wd:World->Prop}{cs:List Frame}{g:Goroutine}{main:Bool}
def Ot(b o:Nat):Array Event:=#[⟨.cell ⟨b,o,none⟩,false,true⟩,⟨.cell ⟨b,o,none⟩,true,true⟩]
theorem LZ(b o:Nat):EvM b o (Ot b o)/\(∀e∈Ot b o,∀m,e.loc≠.mark m)/\∀d,deafBehind d (Ot b o)=d:=by
 refine⟨jo (.inl rfl),λe a m h=>?_,λd=>rfl⟩;simp[Ot]at a;rcases a with rfl|rfl<;>cases h
include C X in
theorem Hf(a:ShM b o w js)(h:lV P n b o kind .fF cs g):∃e w',stepG P main g w=.go e w' (Ot b o)/\MW b o w w'/\ShM b o w' nk/\Next P n b o kind Wd cs .le e:=by
 obtain⟨c,y,fr,j,rfl,k,f,d,rfl⟩:=h;have l:(qN P n b o kind).1.kind≠.early:=by simp[qN,kw]
 have i:=a.cw;rw[show enc js.w.L js.w.K js.w.S js.w.N=0 from rfl]at i;exact⟨_,_,fu f (C.o2 b o kind) l X.jh (v:=0) (n:=1) (λx h=>h) (λx h=>h) i (a.fz o),sE rfl,a.aD {Mu.Wd.zero with L:=true},nxt (C.e2 _ b o kind) k f d rfl (.inl rfl)⟩
include C X in
theorem Hg(i:ShM b o w nk)(h:lV P n b o kind .held cs g):∃r w' es,stepG P main g w=.go r w' es/\MW b o w w'/\ShM b o w' js/\EvM b o es/\(∀e∈es,∀m,e.loc≠.mark m)/\(∀d,deafBehind d es=d)/\Next P n b o kind Wd cs .ue r:=by
 obtain⟨c,y,fr,j,rfl,u,s,k,rfl⟩:=h;have l:({y with N:=0}:Sy).ok:=⟨⟨by simp,by simp⟩,u.2⟩;have p:=s.re (y':={y with N:=0}) (.inr rfl) (.inl rfl) (.inl rfl) (.inl rfl);have a:=k.fg (y':={y with N:=0}) (by simpa[oQ,mJ]using(C.p3 b o kind).1);have f:=m9 (main:=main) (cs:=j++cs) (w:=w) s (C.PI b o kind) (by simp[oQ,mJ]) X.add (λx h=>h) i.cw (i.fz _);have e:IntKind.i32.wrap (enc nk.w.L nk.w.K nk.w.S nk.w.N+-1)=enc false false false 0:=by decide
 rw[e]at f;have q:=i.aD Mu.Wd.zero;have v:SR {y with N:=0} (.word false false false 0) (.int .i32 (enc false false false 0)):=nO rfl;have key:=C.u5 (Fl.of {y with N:=0}) b o kind true false (by rfl);exact⟨_,_,_,f,sE rfl,q,jo (.inl rfl),(λe t m h=>(by simp at t;rcases t with rfl|rfl<;>cases h)),(λd=>rfl),nxt (y:={y with N:=0}) key l p a v rfl⟩
theorem gK.wg{N:ag->ah->Goroutine->Prop}{Wd:World->Prop}{a:Goroutine}{d:Nat}(j:∀w,Sat k O w->Wd w){m:Nat}:∀{g:Goroutine},iV P Wd m g a->gK P N k O a d->gK P N k O g d:=by
 induction m with
 |zero=>intro g h b;obtain rfl:g=a:=h;exact b
 | succ m l=>
   intro g h b;obtain⟨c,e,n⟩:=h;refine .step (λk' O' g' f=>k=k'/\O=O'/\c=g'/\d=f) e.1 (λw i=>⟨c,w,#[],k,O,e.2 true w (j w i),⟨w,.refl _,i,.inl (.refl ..)⟩,rfl,rfl,rfl,rfl⟩) ?_;rintro k' O' g' f ⟨rfl,rfl,rfl,rfl⟩;exact l n b
theorem gK.next{N:ag->ah->Goroutine->Prop}{p:pI}{c:Goroutine}{d:Nat}(e:∀w,Sat k O w->Wd w)(h:Next P n b o kind Wd cs p c)(f:∀a,lV P n b o kind p cs a->gK P N k O a d):gK P N k O c d:=by obtain⟨_,a,⟨m,g⟩,i⟩:=h;exact gK.wg e g (f a i)
variable{N:ag->ah->Goroutine->Prop}
theorem zY{e:Event}(g:Sat k O w)(h:O b=some (.part (eD o s)))(f:e.loc=.mark (.acquire ⟨b,o,none⟩)\/e.loc=.mark (.releaseMerge ⟨b,o,none⟩)):Eff k O w k O w [e]:=by
 have a:=Eff.refl k O w;have d:=g.mR h;refine⟨a.le,a.size,a.keep,a.tail,a.part,a.shape,a.own,a.cell,a.sh,λx c=>?_,rfl,rfl,rfl,λx c=>?_,a.tok⟩
 . rw[List.mem_singleton]at c;subst c
   rcases f with q|q<;>simp[gO,q,iI]
 . rw[List.mem_singleton]at c;subst c
   rcases f with q|q<;>simp only[ip,q]<;>exact d
theorem yj(a:O b=some (.part (eD o s))):∀w,Sat k O w->∃v,w.cell? ⟨b,o,none⟩=some v:=λw c=>⟨_,(sS c a).cw⟩
include C X in
theorem BJ(F:oT P n){c:Frame}{rest:List Frame}(u:kind≠.early)(q:O b=some (.part (br o)))(x:N k (O.set b (.part (fS o))) (jj kind c rest (.tuple #[]))):gK P N k O (G (Frame.enter P n.lock #[.pointer (some ⟨b,o,none⟩)] kind) (c::rest)) 0:=by
 rw[<-uz]at q;have p:(O.set b (.part (fS o))) b=some (.part (eD o nk)):=by simp[ah.set,fS]
 have t:=yj (k:=k) q;have e:=yj (k:=k) p;obtain⟨r,⟨m,s⟩,a⟩:=ou (P:=P) (n:=n) (b:=b) (o:=o) (kind:=kind) (Wd:=λw=>∃v,w.cell? ⟨b,o,none⟩=some v) (cs:=c::rest) F;refine gK.wg t s ?_;refine .step (λk' O' g' g=>k=k'/\O=O'/\g=1/\Next P n b o kind (λw=>∃v,w.cell? ⟨b,o,none⟩=some v) (c::rest) .fF g') a.running.1 (λw f=>?_) ?_
 . obtain⟨d,i,j⟩:=xW (main:=true) (w:=w) C X a
   exact⟨d,w,_,k,O,i,⟨w,.refl _,f,.inr ⟨rfl,rfl,rfl,.inl rfl⟩⟩,rfl,rfl,rfl,j⟩
 rintro _ _ d _ ⟨rfl,rfl,rfl,l⟩;refine gK.next t l λr a=>?_
 refine .step (λk' O' g' g=>k=k'/\O.set b (.part (fS o))=O'/\g=1/\Next P n b o kind (λw=>∃v,w.cell? ⟨b,o,none⟩=some v) (c::rest) .le g') a.running.1 (λw f=>?_) ?_
 . obtain⟨d,w',i,j,y,z⟩:=Hf (main:=true) (w:=w) C X (sS f q) a
   obtain⟨A,B,D⟩:=LZ b o;obtain⟨E,H,I,J⟩:=He f q j y A B;exact⟨d,w',_,k,_,i,⟨E,H,I,.inl J⟩,rfl,rfl,D 1,z⟩
 rintro _ _ d _ ⟨rfl,rfl,rfl,l⟩;refine gK.next e l λr a=>?_
 refine .step (λk' O' g' g=>k=k'/\O.set b (.part (fS o))=O'/\g=0/\Next P n b o kind (λw=>∃v,w.cell? ⟨b,o,none⟩=some v) (c::rest) .la g') a.running.1 (λw f=>?_) ?_
 . obtain⟨d,i,j⟩:=CS (main:=true) (w:=w) C X (λw h=>h) a
   exact⟨d,w,_,k,_,i,⟨w,.refl _,f,.inr ⟨rfl,rfl,rfl,.inr rfl⟩⟩,rfl,rfl,rfl,j⟩
 rintro _ _ d _ ⟨rfl,rfl,rfl,l⟩;refine gK.next e l λr a=>?_
 refine .step (λk' O' g' g=>k=k'/\O.set b (.part (fS o))=O'/\g=0/\Next P n b o kind (λw=>∃v,w.cell? ⟨b,o,none⟩=some v) (c::rest) .back g') a.running.1 (λw f=>?_) ?_
 . obtain⟨d,i,j⟩:=CR (main:=true) (w:=w) C X a
   exact⟨d,w,_,k,_,i,⟨w,.refl _,f,.inl (zY f p (.inl rfl))⟩,rfl,rfl,rfl,j⟩
 rintro _ _ d _ ⟨rfl,rfl,rfl,l⟩;refine gK.next e l λr a=>?_
 obtain⟨m,s⟩:=pM (Wd:=λw=>∃v,w.cell? ⟨b,o,none⟩=some v) F a u;exact gK.wg e s (.done x)
include C X in
theorem yk(F:oT P n){c:Frame}{rest:List Frame}(x:kind≠.early)(p:O b=some (.part (fS o)))(u:N k (O.set b (.part (br o))) (jj kind c rest (.tuple #[]))):gK P N k O (G (Frame.enter P n.unlock #[.pointer (some ⟨b,o,none⟩)] kind) (c::rest)) 0:=by
 rw[<-uz]at u;have s:(O.set b (.part (eD o js))) b=some (.part (eD o js)):=by simp[ah.set]
 have r:=yj (k:=k) p;have l:=yj (k:=k) s;obtain⟨q,⟨m,t⟩,a⟩:=mK (P:=P) (n:=n) (b:=b) (o:=o) (kind:=kind) (Wd:=λw=>∃v,w.cell? ⟨b,o,none⟩=some v) (cs:=c::rest) F;refine gK.wg r t ?_;refine .step (λk' O' g' f=>k=k'/\O=O'/\f=0/\Next P n b o kind (λw=>∃v,w.cell? ⟨b,o,none⟩=some v) (c::rest) .ur g') a.running.1 (λw e=>?_) ?_
 . obtain⟨d,g,i⟩:=tZ (main:=true) (w:=w) C X (λw h=>h) (sS e p).cw a
   exact⟨d,w,_,k,O,g,⟨w,.refl _,e,.inl (.refl ..)⟩,rfl,rfl,rfl,i⟩
 rintro _ _ d _ ⟨rfl,rfl,rfl,j⟩;refine gK.next r j λq a=>?_
 refine .step (λk' O' g' f=>k=k'/\O=O'/\f=0/\Next P n b o kind (λw=>∃v,w.cell? ⟨b,o,none⟩=some v) (c::rest) .ud g') a.running.1 (λw e=>?_) ?_
 . obtain⟨d,g,i⟩:=CQ (main:=true) (w:=w) C X a
   exact⟨d,w,_,k,_,g,⟨w,.refl _,e,.inl (zY e p (.inr rfl))⟩,rfl,rfl,rfl,i⟩
 rintro _ _ d _ ⟨rfl,rfl,rfl,j⟩;refine gK.next r j λq a=>?_
 refine .step (λk' O' g' f=>k=k'/\O=O'/\f=1/\Next P n b o kind (λw=>∃v,w.cell? ⟨b,o,none⟩=some v) (c::rest) .held g') a.running.1 (λw e=>?_) ?_
 . obtain⟨d,g,i⟩:=CO (main:=true) (w:=w) C X a
   exact⟨d,w,_,k,_,g,⟨w,.refl _,e,.inr ⟨rfl,rfl,rfl,.inl rfl⟩⟩,rfl,rfl,rfl,i⟩
 rintro _ _ d _ ⟨rfl,rfl,rfl,j⟩;refine gK.next r j λq a=>?_
 refine .step (λk' O' g' f=>k=k'/\O.set b (.part (eD o js))=O'/\f=1/\Next P n b o kind (λw=>∃v,w.cell? ⟨b,o,none⟩=some v) (c::rest) .ue g') a.running.1 (λw e=>?_) ?_
 . obtain⟨d,w',es,g,i,y,z,A,B,D⟩:=Hg (main:=true) (w:=w) C X (sS e p) a
   obtain⟨E,H,I,J⟩:=He e p i y z A;exact⟨d,w',_,k,_,g,⟨E,H,I,.inl J⟩,rfl,rfl,B 1,D⟩
 rintro _ _ d _ ⟨rfl,rfl,rfl,j⟩;refine gK.next l j λq a=>?_
 refine .step (λk' O' g' f=>k=k'/\O.set b (.part (eD o js))=O'/\f=0/\Next P n b o kind (λw=>∃v,w.cell? ⟨b,o,none⟩=some v) (c::rest) .zp g') a.running.1 (λw e=>?_) ?_
 . obtain⟨d,g,i⟩:=CP (main:=true) (w:=w) C X a
   exact⟨d,w,_,k,_,g,⟨w,.refl _,e,.inr ⟨rfl,rfl,rfl,.inr rfl⟩⟩,rfl,rfl,rfl,i⟩
 rintro _ _ d _ ⟨rfl,rfl,rfl,j⟩;refine gK.next l j λq a=>?_
 obtain⟨m,t⟩:=nc (Wd:=λw=>∃v,w.cell? ⟨b,o,none⟩=some v) F a x;exact gK.wg l t (.done u)
theorem Rel.C'{σ:aa}{f:Nat->Option Value}(a:Rel k O σ)(h:σ b=some (.part f)):O b=some (.part f):=by
 obtain⟨x,c,d⟩:=a.1 b _ h (by simp);cases d;exact c
def oY(b o:Nat)(a:AV):Prop:=∀k v,V k v a->v=.pointer (some ⟨b,o,none⟩)
theorem wE(b o:Nat)(l:List AV)(h:List Nat):oY b o (.kp b l h o):=λk v a=>by cases a;rfl
theorem Vs.one{a:AV}{c:List Value}(h:Vs k c [a]):∃v,c=[v]/\V k v a:=by
 obtain⟨b,d⟩:=h
 match c with
 |[v]=>exact⟨v,rfl,d 0 v a rfl rfl⟩
 |[]=>simp at b
 |_::_::_=>simp at b
include C X in
theorem El(F:oT P n){m:Mo}(j:m.solo=true){a:AV}(l:oY b o a){σ:aa}{f:eI->aa->Prop}(d:σ b=some (.part (br o)))(h:f (.val (.cq [])) (σ.set b (.part (fS o)))):ar P m n.lock [a] σ f:=by
 intro Q k O e c rest kind p q g r t;obtain⟨v,rfl,s⟩:=q.one;obtain rfl:=l _ _ s;refine .phase (λk' O' g'=>T P m Q k' O' g') j (λ_ _ _ h=>h) (gK.phase (BJ C X F p (g.C' d) ?_));exact r k _ (.tuple #[]) (.cq []) _ (.refl k) (.cq _ _ rfl λi v a h=>by simp at h) (g.set (.part _)) h
include C X in
theorem zZ(F:oT P n){m:Mo}(j:m.solo=true){a:AV}(l:oY b o a){σ:aa}{f:eI->aa->Prop}(d:σ b=some (.part (fS o)))(h:f (.val (.cq [])) (σ.set b (.part (br o)))):ar P m n.unlock [a] σ f:=by
 intro Q k O e c rest kind p q g r t;obtain⟨v,rfl,s⟩:=q.one;obtain rfl:=l _ _ s;refine .phase (λk' O' g'=>T P m Q k' O' g') j (λ_ _ _ h=>h) (gK.phase (yk C X F p (g.C' d) ?_));exact r k _ (.tuple #[]) (.cq []) _ (.refl k) (.cq _ _ rfl λi v a h=>by simp at h) (g.set (.part _)) h
theorem Rel.del{σ:aa}(h:Rel k O σ)(r:Nat):Rel k (O.del r) (σ.del r):=⟨λb a e f=>by
 by_cases hb:b=r
 . subst hb;simp[aa.del]at e
 . simp only[aa.del,hb,if_false]at e
   obtain⟨x,c,d⟩:=h.1 b a e f;exact⟨x,by simp[ah.del,hb,c],d⟩,λb e=>by
 by_cases hb:b=r
 . subst hb;simp[aa.del]at e
 . simp only[aa.del,hb,if_false]at e
   obtain⟨c,d⟩:=h.2 b e;exact⟨by simp[ah.del,hb,c],d⟩⟩
theorem Rel.fK{σ:aa}(h:Rel k O σ)(r:Nat)(c:∃s,k.sh r=some s):Rel k (O.del r) (σ.set r .fK):=⟨λb a e g=>by
 by_cases hb:b=r
 . subst hb;simp[aa.set]at e;exact absurd e.symm g
 . simp only[aa.set,hb,if_false]at e
   obtain⟨x,d,f⟩:=h.1 b a e g;exact⟨x,by simp[ah.del,hb,d],f⟩,λb e=>by
 by_cases hb:b=r
 . subst hb;exact⟨by simp[ah.del],c⟩
 . simp only[aa.set,hb,if_false]at e
   obtain⟨d,f⟩:=h.2 b e;exact⟨by simp[ah.del,hb,d],f⟩⟩
theorem T.sat{m:Mo}{Q:ag->ah->Goroutine->Prop}(b:g.status=.running)(h:(∃w,Sat k O w)->T P m Q k O g):T P m Q k O g:=by
 by_cases a:∃w,Sat k O w
 . exact h a
 . exact .step (λ_ _ _=>False) b (λ_ _ _ h=>h.elim) λw c=>absurd ⟨w,c⟩ a
variable{A:dk}{j:Nat}
theorem Em{a:AV}(r:oY A.fb A.fo a){σ:aa}{p:eI->aa->Prop}(d:σ A.fb=some .fK)(h:∀x,A.GI x->(∀y,σ A.mb=some y->y=.fK)->p (.val (.cq [])) ((σ.set A.mb x).set A.fb (.part pN))):ar P (jx P A j) A.nm.lock [a] σ p:=by
 intro Q k O f c rest kind s t g u E;obtain⟨v,rfl,w⟩:=t.one;obtain rfl:=r _ _ w;obtain⟨B,e,C⟩:=g.2 _ d;refine .cJ (λk' O' g'=>T P (jx P A j) Q k' O' g') rfl (.inl ⟨kind,c,rest,e,s,rfl,B,C,λk' x y b l m n=>?_⟩) (λ_ _ _ h=>h);refine u k' _ (.tuple #[]) (.cq []) _ b (.cq _ _ rfl λi v a h=>by simp at h) (((g.mono b).set l).set (.part _)) (h y m λz D=>?_);apply Classical.byContradiction;intro o;obtain⟨F,q,_⟩:=g.1 _ z D o;rw[n]at q;cases q
theorem z7{a:AV}(p:oY A.fb A.fo a){σ:aa}{n:eI->aa->Prop}{f:Nat->Option Value}{y:ji}(b:σ A.fb=some (.part f))(q:σ A.mb=some y)(r:A.GI y)(d:y≠.fK)(h:n (.val (.cq [])) ((σ.del A.mb).set A.fb .fK)):ar P (jx P A j) A.nm.unlock [a] σ n:=by
 intro Q k O e c rest kind s t g u D;obtain⟨v,rfl,z⟩:=t.one;obtain rfl:=p _ _ z;obtain⟨x,B,l⟩:=g.1 _ _ q d;have o:=g.C' b;refine T.sat rfl λ⟨w,C⟩=>?_
 obtain⟨E,F,_,m,_⟩:=C.part _ _ o;refine .cJ (λk' O' g'=>T P (jx P A j) Q k' O' g') rfl (.inr (.inl ⟨kind,c,rest,f,x,y,s,rfl,o,B,l,r,?_⟩)) (λ_ _ _ h=>h);exact u k _ (.tuple #[]) (.cq []) _ (.refl k) (.cq _ _ rfl λi v a h=>by simp at h) ((g.del A.mb).fK A.fb ⟨_,m⟩) h
end
section
variable{P:Program}(L:jg P){o:Oper}{env:Env}{σ:aa}{K:AV->aa->Prop}{Kp:AV->aa->Prop}
theorem wF{i:TI}{d:TypeDesc}{e:Nat}(h:cO P i d=true)(a:i.kind=.chan e):∃dir,d=.chan dir e:=by cases d<;>simp_all [cO]
theorem z8{t e:Nat}{x:Operand}{i h:TI}{kd:IntKind}{n:Int}(j:o.op=.makeChan t x)(m:L.tt t=some i)(p:i.kind=.chan e)(q:L.tt e=some h)(u:am env x=.lit (.int kd n))(z:0<=n/\n<=1000000/\h.bytes<=1000000)
 (v:∀b,σ b=none->K (.chan b) (σ.set b (.raw (.chan n.toNat #[] false 0 0 false)))):aE P o env σ K Kp:=
 aE.val (s:=λf=>Instr.makeChan t (f x)) (λf=>by simp[execOp,j]) λk O f w l=>by
  have c:=w x (by simp[j,Op.operands])
  rw[u]at c;rw[cu c];unfold Instr.makeChan;refine af (ai ?_);refine af (az L m λd _ hd=>?_)
  obtain⟨dir,rfl⟩:=wF hd p;simp only;refine af (bW L q λinfo _ _ hb _=>?_)
  have y:((info.bytes:Int)*n)<=1000000*1000000:=by rw[hb];exact Int.mul_le_mul (by omega) (by omega) (by omega) (by omega)
  have g:¬(n<0\/n>IntKind.i64.max\/(info.bytes:Int)*n>2 ^ 48-112):=by have:IntKind.i64.max=9223372036854775807:=rfl;omega
  rw[if_neg g];refine af (s:=newObj _) ⟨rfl,λr a=>ai ?_⟩
  exact .here ⟨.made a.2.2,_,_,.chan r,(l.mono (.made a.2.2)).set (.raw _ rfl),v r (l.isNone a.1 a.2.2)⟩
end
def uA(P:Program)(d:Deferred):Goroutine:=G {(default:Frame)with fn:=P.funcs.size,defers:=[d],mode:=.panicking [goexitEntry]} []
def wG:Item->Bool
 |.inRegion _ []=>true
 |.inBlock _=>true
 |.inScope _=>true
 |.code .skip=>true
 |.code .ret=>true
 |_=>false
theorem uB{P:Program}{f:FuncId}{fn:Func}{tmps:Array Value}(b:P.funcs[f]?=some fn)(d:fn.results=#[]):∀(todo:List Item),todo.all wG=true->∃n,QuitsD P n 0 (G ⟨f,tmps,todo,[],.run,.deferred,none⟩ [ck P])
 |[],_=>⟨_,.ctl rfl (λw=>by simp[G,stepG,stepG.exec,jq]) (qP b d (todo:=[]) (tmps:=tmps))⟩
 | i ::k,h=>by
   simp only[List.all_cons,Bool.and_eq_true]at h;obtain⟨n,e⟩:=uB (tmps:=tmps) b d k h.2;by_cases a:i=.code .ret
   . subst a
     exact⟨_,.ctl rfl (λw=>by simp[G,stepG,stepG.exec,jq]) (qP b d (todo:=.code .ret::k) (tmps:=tmps))⟩
   . refine⟨_,.ctl rfl (λw=>?_) e⟩
     cases i with
     |code c=>cases c<;>first|(exact absurd rfl a)|(simp[wG]at h;done)|simp[G,stepG,stepG.exec]
     |inRegion ops l=>cases l<;>first|(simp[wG]at h;done)|simp[G,stepG,stepG.exec]
     |_=>first|(simp[wG]at h;done)|simp[G,stepG,stepG.exec]
section
variable{P:Program}{fid n:Nat}{ro:Option Nat}{s:St}{k:List Item}{K:Exit->St->Prop}{A:dk}{Fin:ag->ah->Goroutine->Prop}
theorem xn.none{m:Mo}{Q:ag->ah->Goroutine->Prop}{kind:CallKind}{cs:List Frame}{a:ag}:xn P m Q fid n ro kind cs (λ_ _=>False) a:=⟨λ_ _ _ _ _ _ _ _ _ _ h=>h.elim,λ_ _ _ _ _ _ _ _ _ _ _ h=>h.elim⟩
theorem uC{fn:FuncId}:seen P fn #[]=#[]:=rfl
theorem BL{fr:Frame}{cs:List Frame}{x:Sem Go.Next}{w:World}{cases:Array CommCase}{b:Bool}{sh:CommShape}(h:x.runT P w #[]=(.ok (.comm cases b sh) w,#[])):stepG.apply P true fr cs none x w=.comm (G fr cs) cases b sh w #[]:=by simp only[stepG.apply,if_true,h,ite_self,uC,GStep.after];rfl
theorem z9{fr:Frame}{cs:List Frame}{x:Sem Go.Next}{w:World}{f:Fn}{cap:Array Value}{args:Array Value}(h:x.runT P w #[]=(.ok (.spawn {target:=.fn f cap,args}) w,#[])):stepG.apply P true fr cs none x w=.spawn (G (fr.finish undef) cs) (uA P {target:=.fn f cap,args}) w #[]:=by simp only[stepG.apply,if_true,h,ite_self,uC,GStep.after];simp[uA,G]
theorem uD{b:Bool}{ops:Array Oper}{i:Nat}{rest:List Nat}{o:Oper}{ch x:Operand}{tmps:Array Value}{defs:List Deferred}{kind:CallKind}{cs:List Frame}{m:Mo}{env:Env}{g:ag}{c:Nat}(r:ops[i]?=some o)(a:o.op=.send ch x)(p:tmps.size=n)(q:dY g tmps env)(s:bK ops n env o)
 (f:Oper.ok n o=true) (h:am env ch=.chan c) (w:World):
 ∃ v,V g v (am env x)/\stepG P m.main (G ⟨fid,tmps,.inRegion ops (i::rest)::k,defs,.run,kind,ro⟩ cs) w=.comm (G ⟨fid,tmps,.inRegion ops (i::rest)::k,defs,.run,kind,ro⟩ cs) #[scase c v (.tuple #[])] true .send w #[]/\
   v=Frame.eval ⟨fid,tmps,.inRegion ops (i::rest)::k,defs,.run,kind,ro⟩ x:=by
 have d:∀y∈o.op.operands,V g (Frame.eval ⟨fid,tmps,.inRegion ops (i::rest)::k,defs,.run,kind,ro⟩ y) (am env y):=λy t=>by refine V.eval q p y ?_;simp only[Oper.ok,Bool.and_eq_true,Array.all_eq_true_iff_forall_mem]at f;exact f.1 y t
 have j:=d ch (by rw[a];simp[Op.operands])
 have u:=d x (by rw[a];simp[Op.operands])
 rw[h]at j;generalize z:Frame.eval ⟨fid,tmps,.inRegion ops (i::rest)::k,defs,.run,kind,ro⟩ ch=B at j;cases j;refine⟨_,u,?_,rfl⟩;rw[dw r (gk p q s) (.inr λc e=>by rw[a]at e;cases e) w]
 have l:execOp (Frame.eval ⟨fid,tmps,.inRegion ops (i::rest)::k,defs,.run,kind,ro⟩) o=pure (.comm #[scase c (Frame.eval ⟨fid,tmps,.inRegion ops (i::rest)::k,defs,.run,kind,ro⟩ x) (.tuple #[])] true .send):=by simp[execOp,a,z,scase]
 rw[l]
 by_cases A:(kind==CallKind.early)=true<;>simp[stepG.apply,seen,A,GStep.after,G]
theorem sG{α:Type}{f:TypeDesc->Sem α}{t:TypeId}{d:TypeDesc}{w:World}{es:Array Event}(h:P.underlying t=some d):(underlying t >>=f).runT P w es=(f d).runT P w es:=by
 unfold underlying;show Sem.runT P ((match P.underlying t with|some d=>pure d|none=>stuck  "no such type") >>=f) w es=_
 rw[h];rfl
theorem uE{α:Type}{f:Value->Sem α}{t:TypeId}{info:TypeInfo}{z:Value}{w:World}{es:Array Event}(h:P.info? t=some info)(a:info.zero=some z):(zeroValue t >>=f).runT P w es=(f z).runT P w es:=by
 unfold zeroValue typeInfo;show Sem.runT P ((do let i <-(match P.info? t with|some i=>pure i|none=>stuck  "no such type");match i.zero with|some v=>pure v|none=>unsupported (.resourceLimit  "a value of more than 2^22 cells")) >>=f) w es=_
 rw[h];show Sem.runT P ((match info.zero with|some v=>pure v|none=>unsupported (.resourceLimit  "a value of more than 2^22 cells")) >>=f) w es=_
 rw[a];rfl
theorem uF(L:jg P){ok:Bool}{ops:Array Oper}{i:Nat}{rest:List Nat}{o:Oper}{ct ce:Nat}{v f:TI}{ch:Operand}{tmps:Array Value}{defs:List Deferred}{kind:CallKind}{cs:List Frame}{m:Mo}{env:Env}{x:ag}{c:Nat}(A:ops[i]?=some o)(a:o.op=.recv ct ch ok)(g:L.tt ct=some v)(h:v.kind=.chan ce)(j:L.tt ce=some f)
 (y:tmps.size=n) (z:dY x tmps env) (B:bK ops n env o) (b:Oper.ok n o=true) (l:am env ch=.chan c) (w:World):
 stepG P m.main (G ⟨fid,tmps,.inRegion ops (i::rest)::k,defs,.run,kind,ro⟩ cs) w=.comm (G ⟨fid,tmps,.inRegion ops (i::rest)::k,defs,.run,kind,ro⟩ cs) #[rcase c f.zero] true (.recv ok) w #[]:=by
 have p:V x (Frame.eval ⟨fid,tmps,.inRegion ops (i::rest)::k,defs,.run,kind,ro⟩ ch) (am env ch):=by refine V.eval z y ch ?_;simp only[Oper.ok,Bool.and_eq_true,Array.all_eq_true_iff_forall_mem]at b;exact b.1 ch (by rw[a];simp[Op.operands])
 rw[l]at p;generalize C:Frame.eval ⟨fid,tmps,.inRegion ops (i::rest)::k,defs,.run,kind,ro⟩ ch=D at p;cases p;rw[dw A (gk y z B) (.inr λc e=>by rw[a]at e;cases e) w]
 obtain⟨⟨d,q,r⟩,_⟩:=L.facts g;obtain⟨dir,rfl⟩:=wF r h;obtain⟨_,info,s,_,_,t,_⟩:=L.facts j
 have u:(execOp (Frame.eval ⟨fid,tmps,.inRegion ops (i::rest)::k,defs,.run,kind,ro⟩) o).runT P w #[]=(.ok (.comm #[rcase c f.zero] true (.recv ok)) w,#[]):=by simp only[execOp,a,C];rw[sG q];simp only;rw[uE s t];rfl
 exact BL u
theorem Aa{ops:Array Oper}{i:Nat}{rest:List Nat}{o:Oper}{fo:Operand}{args:Array Operand}{q:Array TypeId}{f:Fn}{first cap:List AV}{tmps:Array Value}{defs:List Deferred}{kind:CallKind}{cs:List Frame}{m:Mo}{env:Env}{g:ag}(D:ops[i]?=some o)(b:o.op=.go ⟨.value fo,args,q⟩)
 (u:tmps.size=n) (y:dY g tmps env) (E:bK ops n env o) (h:Oper.ok n o=true) (r:am env fo=.fn f first cap):
 ∃ z A,Vs g z cap/\Vs g A (first++args.toList.map (am env))/\∀w,stepG P m.main (G ⟨fid,tmps,.inRegion ops (i::rest)::k,defs,.run,kind,ro⟩ cs) w=
   .spawn (G (Frame.finish ⟨fid,tmps,.inRegion ops (i::rest)::k,defs,.run,kind,ro⟩ undef) cs) (uA P {target:=.fn f z.toArray,args:=A.toArray}) w #[]:=by
 have d:∀x∈o.op.operands,V g (Frame.eval ⟨fid,tmps,.inRegion ops (i::rest)::k,defs,.run,kind,ro⟩ x) (am env x):=λx s=>by refine V.eval y u x ?_;simp only[Oper.ok,Bool.and_eq_true,Array.all_eq_true_iff_forall_mem]at h;exact h.1 x s
 have t:=d fo (by simp[b,Op.operands,Call.operands])
 rw[r]at t;generalize F:Frame.eval _ fo=cf at t;cases t with
 | fn _ p B M N H I J K=>
   have C:=Vs.ofArray (k:=g) (ρ:=Frame.eval ⟨fid,tmps,.inRegion ops (i::rest)::k,defs,.run,kind,ro⟩) (env:=env) (xs:=args) (λx s=>d x (by simp[b,Op.operands,Call.operands,s]))
   refine⟨B.toList,p.toList++(args.map (Frame.eval ⟨fid,tmps,.inRegion ops (i::rest)::k,defs,.run,kind,ro⟩)).toList,⟨by simpa using J,λi v a j l=>K i v a (by simpa using j) l⟩,Vs.append ⟨by simpa using H,λi v a j l=>I i v a (by simpa using j) l⟩ ⟨by simpa using C.1,λi v a j l=>C.2 i v a (by simpa using j) l⟩,λw=>?_⟩
   rw[dw D (gk u y E) (.inr λc e=>by rw[b]at e;cases e) w]
   refine(z9 (f:=f) (cap:=B) (args:=p++args.map (Frame.eval ⟨fid,tmps,.inRegion ops (i::rest)::k,defs,.run,kind,ro⟩)) ?_).trans ?_
   . simp only[execOp,b,resolve,F,Deferred.ofValue]
     rfl
   . have L:∀x:Array Value,(p.toList++x.toList).toArray=p++x:=λx=>by apply Array.ext';simp
     rw[L,Array.toArray_toList]
theorem Hh{m:Mo}{Q:ag->ah->Goroutine->Prop}{kk:ag}{O:ah}{tmps:Array Value}{defs:List Deferred}{kind:CallKind}{cs:List Frame}{f:FuncId}{fn:Func}{ops:Array Oper}{i:Nat}{rest:List Nat}{o:Oper}{args:Array Operand}{t:Array TypeId}(A:ops[i]?=some o)(b:o.op=.call ⟨.value (.func f),args,t⟩)(B:bK ops n s.env o)(g:Oper.ok n o=true)
 (C:P.funcs[f]?=some fn) (hb:fn.body.isSome=true) (u:(fn.name==  "runtime.NumGoroutine")=false) (p:yG n kk O tmps defs kind cs s)
 (h:∀cargs,Vs kk cargs (args.toList.map (am s.env))->T P m Q kk O (G (Frame.enter P f cargs.toArray .normal) (⟨fid,tmps,.inRegion ops (i::rest)::k,defs,.run,kind,ro⟩::eX s.rc cs))):T P m Q kk O (G ⟨fid,tmps,.inRegion ops (i::rest)::k,defs,.run,kind,ro⟩ (eX s.rc cs)):=by
 refine T.nC (λw=>dw A (gk p.size p.env B) (.inr λc e=>by rw[b]at e;cases e) w) (dZ ?_)
 have j:∀x∈o.op.operands,V kk (Frame.eval ⟨fid,tmps,.inRegion ops (i::rest)::k,defs,.run,kind,ro⟩ x) (am s.env x):=λx q=>by refine V.eval p.env p.size x ?_;simp only[Oper.ok,Bool.and_eq_true,Array.all_eq_true_iff_forall_mem]at g;exact g.1 x q
 have z:=Vs.ofArray (k:=kk) (ρ:=Frame.eval ⟨fid,tmps,.inRegion ops (i::rest)::k,defs,.run,kind,ro⟩) (env:=s.env) (xs:=args) (λx q=>j x (by simp[b,Op.operands,Call.operands,q]))
 have y:fn.body.isNone=false:=by cases q:fn.body<;>simp_all
 simp only[execOp,b,resolve];refine af ?_;show dM P (Deferred.ofValue (.func (.func f) #[] #[]) _) kk O _ _;simp only[Deferred.ofValue];refine ai ?_;simp only[invoke,callFunc];refine af (bI ?_);rw[C];simp only[u,y,Bool.false_eq_true,if_false];refine ai λ_=>⟨λd w r s l=>by simp,?_⟩
 have:=h (args.map (Frame.eval ⟨fid,tmps,.inRegion ops (i::rest)::k,defs,.run,kind,ro⟩)).toList ⟨by simpa using z.1,λi v a D E=>z.2 i v a (by simpa using D) E⟩
 have key:∀x:Array Value,x=(args.map (Frame.eval ⟨fid,tmps,.inRegion ops (i::rest)::k,defs,.run,kind,ro⟩)).toList.toArray->T P m Q kk O (G (Frame.enter P f x .normal) (⟨fid,tmps,.inRegion ops (i::rest)::k,defs,.run,kind,ro⟩::eX s.rc cs)):=λx e=>by rw[e];exact this
 refine key _ ?_;apply Array.ext';simp
def Ab(P:Program)(m:Mo)(fid n:Nat)(ro:Option Nat)(K:Exit->St->Prop)(kd:CallKind)(a:List Frame)(b:ag)(Fin:ag->ah->Goroutine->Prop):Prop:=∀todo s k' O' tmps defs,Go P m fid n ro todo s K->s.rc=.no->yG n k' O' tmps defs kd a s->b.Le k'->Fin k' O' (G ⟨fid,tmps,todo,defs,.run,kd,ro⟩ a)
theorem Go.J6{m:Nat}{ops:Array Oper}{i:Nat}{rest:List Nat}{o:Oper}{args:Array Operand}{f:Array TypeId}{fn:Func}(r:ops[i]?=some o)(g:o.op=.call ⟨.value (.func A.ng.add),args,f⟩)(u:bK ops n s.env o)(j:Oper.ok n o=true)
 (w:P.funcs[A.ng.add]?=some fn) (hb:fn.body.isSome=true) (l:(fn.name==  "runtime.NumGoroutine")=false) (z:args.toList.map (am s.env)=[.ref A.gb 0,.lit (.int .i64 1)])
 (h:Go P (CZ P A Fin m) fid n ro (.inRegion ops rest::k) {s with env:=aV s.env o.dst (.cq [])} (λ_ _=>False)):Go P (wu P A Fin (m+1)) fid n ro (.inRegion ops (i::rest)::k) s K:=by
 intro Q kk O tmps defs kind cs p q F;refine Hh r g u j w hb l q λb t=>?_
 rw[z]at t;obtain⟨B,c⟩:=t
 have e:b.toArray=#[.pointer (some ⟨A.gb,0,none⟩),.int .i64 1]:=by
  match b,B,c with
  |[x,y],_,c=>have C:=c 0 x _ rfl rfl;have p:=c 1 y _ rfl rfl;cases C;cases p;rfl
 rw[e];refine .cJ gM rfl ⟨rfl,_,_,rfl,?_⟩ (λ_ _ _ h=>h.elim);obtain⟨d,D,E⟩:=q.put (fid:=fid) (ro:=ro) (rest:=rest) (kk:=k) (σ':=s.σ) (v:=.tuple #[]) (a:=.cq []) (.refl kk) r (.cq _ _ rfl λi v a h=>by simp at h) q.rel;show T P (CZ P A Fin m) gM kk O (G (Frame.finish ⟨fid,tmps,.inRegion ops (i::rest)::k,defs,.run,kind,ro⟩ (.tuple #[])) (eX s.rc cs));rw[D];exact h gM kk O d defs kind cs p E .none
def i8(b:Nat):aa:=λc=>if c=b then some .fK else none
theorem Da{m:Mo}{f:FuncId}{fn:Func}{body:Code}{cap args:List AV}{σ0:aa}{KE:ag->Exit->St->Prop}(n:P.funcs[f]?=some fn)(hb:fn.body=some body)(d:(fn.name==  "runtime.NumGoroutine")=false)(p:(args++cap).length<=fn.ntmps){kk:ag}(g:Rel kk ah.bot σ0)
 (q:xn P m gM f fn.ntmps none .deferred [ck P] (KE kk) kk)
 (h:∀o,Go P m f fn.ntmps none [.code body] ⟨cX (args++cap),σ0,[],.told .deferred [ck P] o⟩ (KE o)){a b:List Value}(i:Vs kk a cap) (j:Vs kk b args):
 T P m gM kk ah.bot (uA P {target:=.fn (.func f) a.toArray,args:=b.toArray}):=by
 have k:fn.body.isNone=false:=by simp[hb]
 have hinv:∀w,(invoke (.fn (.func f) a.toArray) b.toArray).runT P w #[]=(.ok (.enter f (b++a).toArray) w,#[]):=λw=>by show Sem.runT P (callFunc f (b.toArray++a.toArray)) w #[]=_;unfold callFunc;rw[gV,n];simp only[d,k,Bool.false_eq_true,if_false];simp
 refine T.dc (g':=G (Frame.enter P f (b++a).toArray .deferred) [ck P]) rfl (λw=>?_) ?_
 . simp only[uA,G,stepG,unwind,callDeferred,hinv]
   simp;rfl
 . have c:=j.append i
   have e:Frame.enter P f (b++a).toArray .deferred=⟨f,(b++a).toArray++Array.replicate (fn.ntmps-(b++a).length) undef,[.code body],[],.run,.deferred,none⟩:=by simp[Frame.enter,n,hb]
   have l:((b++a).toArray++Array.replicate (fn.ntmps-(b++a).length) undef).size=fn.ntmps:=by have:=c.1;simp at this p ⊢;omega
   rw[e];exact h kk gM kk ah.bot _ [] .deferred [ck P] (by simp) ⟨l,qB c _,g,trivial,rfl,rfl,.refl kk⟩ q
def L0(P:Program)(A:dk)(fn:Func):Exit->St->Prop:=λe s=>fn.results=#[]/\(e=.leave none\/e=.leave (some .ret))/\(∃a,s.rc=.told .deferred [ck P] a)/\∃r,s.D=[.mark r,.call (.func A.ng.done) [] [.ref A.gb 0]]/\s.σ r=some (.raw (.deferred (some [])))
theorem En{f:FuncId}{fn fd:Func}(hf:P.funcs[f]?=some fn)(e:P.funcs[A.ng.done]?=some fd)(B:fd.body.isSome=true)(a:(fd.name==  "runtime.NumGoroutine")=false){kk:ag}:xn P (oc P A) gM f fn.ntmps none .deferred [ck P] (L0 P A fn) kk where
 leave k' O' tmps defs s todo p hle hs C g:=by
  obtain⟨b,E,⟨M,c⟩,r,q,t⟩:=g;obtain⟨env,σ,D,rc⟩:=s;simp only at c q t;subst c q;show T P (oc P A) gM k' O' (G ⟨f,tmps,todo,defs,.run,.deferred,none⟩ [ck P]);have i:=hs.ds
  match defs,i with
  | [d1,d2],⟨u,y,_⟩=>
    simp only[te]at u y;obtain⟨F,H,rfl,j,k⟩:=y;subst u;have e1:F=#[]:=by have:=j.1;simpa using this
    have e2:H=#[.pointer (some ⟨A.gb,0,none⟩)]:=by obtain⟨v,I,l⟩:=Vs.one k;cases l;apply Array.ext';simpa using I
    subst e1 e2;refine T.dc (g':=G ⟨f,tmps,todo,[{target:=.collected r,args:=#[]},{target:=.fn (.func A.ng.done) #[],args:=#[.pointer (some ⟨A.gb,0,none⟩)]}],.returning,.deferred,none⟩ [ck P]) rfl (λw=>?_) ?_
    . rcases C with⟨rfl,rfl⟩|⟨kk,rfl,rfl⟩|⟨_,_,_,_,rfl⟩
      . simp[G,stepG,stepG.exec]
      . simp[G,stepG,stepG.exec]
      . simp at E
    . refine T.yS (fid:=f) (s:=Instr.takeDeferred r) rfl (K:=λcalls z J=>calls=[]/\z=k') (nxt:=λcalls w=>.go (G ⟨f,tmps,todo,calls++[{target:=.fn (.func A.ng.done) #[],args:=#[.pointer (some ⟨A.gb,0,none⟩)]}],.returning,.deferred,none⟩ [ck P]) w) ?_ ?_ ?_
      . rintro calls z J w' _ _ ⟨rfl,rfl⟩
        refine⟨_,rfl,?_⟩
        have hinv:∀w,(invoke (.fn (.func A.ng.done) #[]) #[.pointer (some ⟨A.gb,0,none⟩)]).runT P w #[]=(.ok (.enter A.ng.done #[.pointer (some ⟨A.gb,0,none⟩)]) w,#[]):=λw=>by
         show Sem.runT P (callFunc A.ng.done _) w #[]=_;unfold callFunc;have m:fd.body.isNone=false:=by cases n:fd.body<;>simp_all
         rw[gV,e];simp only[a,m,Bool.false_eq_true,if_false];simp
        refine T.dc (g':=G (Frame.enter P A.ng.done #[.pointer (some ⟨A.gb,0,none⟩)] .deferred) [jq P f tmps todo,ck P]) rfl (λw=>?_) ?_
        . simp only[G,stepG,unwind,callDeferred,hinv,List.nil_append]
          simp;rfl
        . exact .cJ gM rfl ⟨rfl,f,fn,tmps,todo,hf,b,rfl⟩ (λ_ _ _ h=>h.elim)
      . intro w v w' d
        simp only[G,stepG,unwind];rw[show(Instr.takeDeferred r).runT P w #[]=(((Instr.takeDeferred r).runT P w #[]).1,((Instr.takeDeferred r).runT P w #[]).2)from rfl,d]
      . obtain⟨x,n,o⟩:=hs.rel.1 r _ t (by simp)
        cases o with
        |raw _ hc=>unfold Instr.takeDeferred;refine af (s:=getObj r) ⟨_,n,rfl,?_⟩;exact af (s:=setObj r _) ⟨⟨_,n,rfl⟩,rfl,ai ⟨rfl,rfl⟩⟩
 panic k' O' tmps defs s todo N O hle hs L g:=by obtain⟨_,h|h,_⟩:=g<;>cases h
theorem Ac{kk:ag}{O:ah}{σ:aa}{b:Nat}(d:Rel kk O σ)(h:σ b=some .fK):Rel kk ah.bot (i8 b):=by
 refine⟨λc a e f=>?_,λc e=>?_⟩
 . unfold i8 at e
   split at e
   . cases e;exact absurd rfl f
   . cases e
 . unfold i8 at e
   split at e
   . next q=>subst q;exact⟨rfl,(d.2 _ h).2⟩
   . cases e
theorem Go.sK{m:Nat}{ops:Array Oper}{i:Nat}{rest:List Nat}{o:Oper}{fo:Operand}{args:Array Operand}{c:Array TypeId}{f:FuncId}{fn:Func}{body:Code}{first cap:List AV}(t:ops[i]?=some o)(d:o.op=.go ⟨.value fo,args,c⟩)(u:bK ops n s.env o)(e:Oper.ok n o=true)
 (g:am s.env fo=.fn (.func f) first cap) (v:P.funcs[f]?=some fn) (hb:fn.body=some body) (j:(fn.name==  "runtime.NumGoroutine")=false) (x:((first++args.toList.map (am s.env))++cap).length<=fn.ntmps) (l:s.σ A.fb=some .fK)
 (y:∀z,Go P (jx P A (A.n-(m+1))) f fn.ntmps none [.code body] ⟨cX ((first++args.toList.map (am s.env))++cap),i8 A.fb,[],.told .deferred [ck P] z⟩ (λ_ _=>False))
 (h:Go P (wu P A Fin m) fid n ro (.inRegion ops rest::k) {s with env:=aV s.env o.dst .bz} (λ_ _=>False)):Go P (CZ P A Fin m) fid n ro (.inRegion ops (i::rest)::k) s K:=by
 intro Q kk O tmps defs kind cs B b E;obtain⟨F,G,p,q,r⟩:=Aa (P:=P) (fid:=fid) (k:=k) (rest:=rest) (defs:=defs) (kind:=kind) (ro:=ro) (cs:=eX s.rc cs) (m:=CZ P A Fin m) t d b.size b.env u e g;obtain⟨a,C,D⟩:=b.put (fid:=fid) (ro:=ro) (rest:=rest) (kk:=k) (σ':=s.σ) (.refl kk) t (.bz undef) b.rel;refine .cJ gM rfl ⟨rfl,_,_,λw _=>r w,Da (KE:=λ_ _ _=>False) v hb j x (Ac b.rel l) .none y p q,?_⟩ (λ_ _ _ h=>h.elim);rw[C];exact h gM kk O a defs kind cs B D .none
theorem Go.Qb{ops:Array Oper}{i:Nat}{rest:List Nat}{o:Oper}{fo:Operand}{args:Array Operand}{c:Array TypeId}{f:FuncId}{fn:Func}{body:Code}{first cap:List AV}(t:ops[i]?=some o)(d:o.op=.go ⟨.value fo,args,c⟩)(u:bK ops n s.env o)(e:Oper.ok n o=true)
 (g:am s.env fo=.fn (.func f) first cap) (v:P.funcs[f]?=some fn) (hb:fn.body=some body) (j:(fn.name==  "runtime.NumGoroutine")=false) (x:((first++args.toList.map (am s.env))++cap).length<=fn.ntmps) (l:s.σ A.fb=some .fK)
 (y:∀z,Go P (uc P A) f fn.ntmps none [.code body] ⟨cX ((first++args.toList.map (am s.env))++cap),i8 A.fb,[],.told .deferred [ck P] z⟩ (λ_ _=>False))
 (h:Go P (ov P A Fin A.n (List.range A.n)) fid n ro (.inRegion ops rest::k) {s with env:=aV s.env o.dst .bz} (λ_ _=>False)):Go P (wu P A Fin 0) fid n ro (.inRegion ops (i::rest)::k) s K:=by
 intro Q kk O tmps defs kind cs B b E;obtain⟨F,G,p,q,r⟩:=Aa (P:=P) (fid:=fid) (k:=k) (rest:=rest) (defs:=defs) (kind:=kind) (ro:=ro) (cs:=eX s.rc cs) (m:=wu P A Fin 0) t d b.size b.env u e g;obtain⟨a,C,D⟩:=b.put (fid:=fid) (ro:=ro) (rest:=rest) (kk:=k) (σ':=s.σ) (.refl kk) t (.bz undef) b.rel;refine .cJ gM rfl ⟨rfl,_,_,λw _=>r w,Da (KE:=λ_ _ _=>False) v hb j x (Ac b.rel l) .none y p q,?_⟩ (λ_ _ _ h=>h.elim);rw[C];exact h gM kk O a defs kind cs B D .none
theorem Go.Hi{j:Nat}{ops:Array Oper}{i:Nat}{rest:List Nat}{o:Oper}{ch x:Operand}{fn fd:Func}{C:ag}(q:ops[i]?=some o)(f:o.op=.send ch x)(g:Oper.ok n o=true)(B:bK ops n s.env o)(l:am s.env ch=.chan A.cF)(D:am s.env x=A.res j)
 (r:s.σ A.fb=some .fK) (t:s.rc=.told .deferred [ck P] C) (u:ro=none) (E:P.funcs[fid]?=some fn) (F:n=fn.ntmps) (y:P.funcs[A.ng.done]?=some fd) (z:fd.body.isSome=true) (p:(fd.name==  "runtime.NumGoroutine")=false)
 (h:Go P (oc P A) fid n ro (.inRegion ops rest::k) {s with env:=aV s.env o.dst (.lit undef)} (L0 P A fn)):Go P (jx P A j) fid n ro (.inRegion ops (i::rest)::k) s K:=by
 intro Q kk O tmps defs kind cs H a R;have c:=a.rc;rw[t]at c;obtain⟨rfl,rfl,I⟩:=c;subst u F;obtain⟨d,J,L⟩:=a.put (fid:=fid) (ro:=none) (rest:=rest) (kk:=k) (σ':=s.σ) (.refl kk) q (.lit undef) a.rel;have M:=h gM kk O d defs .deferred [ck P] H L (En E y z p);refine .cJ gM rfl (.inr (.inr ⟨rfl,(a.rel.2 _ r).1,G ⟨fid,tmps,.inRegion ops (i::rest)::k,defs,.run,.deferred,none⟩ (eX s.rc [ck P]),.tuple #[],Frame.eval ⟨fid,tmps,.inRegion ops (i::rest)::k,defs,.run,.deferred,none⟩ x,λw _=>?_,?_,?_⟩)) (λ_ _ _ h=>h.elim)
 . obtain⟨v,_,e,rfl⟩:=uD (P:=P) (m:=jx P A j) (b:=false) q f a.size a.env B g l w (fid:=fid) (ro:=none) (k:=k) (rest:=rest) (defs:=defs) (kind:=.deferred) (cs:=eX s.rc [ck P])
   exact e
 . obtain⟨v,N,_,rfl⟩:=uD (P:=P) (m:=jx P A j) (b:=false) q f a.size a.env B g l default (fid:=fid) (ro:=none) (k:=k) (rest:=rest) (defs:=defs) (kind:=.deferred) (cs:=eX s.rc [ck P])
   rw[<-D];exact N
 . show T P (oc P A) gM kk O (G (Frame.finish ⟨fid,tmps,.inRegion ops (i::rest)::k,defs,.run,.deferred,none⟩ undef) (eX s.rc [ck P]))
   rw[J];exact M
theorem Go.Hj{ops:Array Oper}{i:Nat}{rest:List Nat}{o:Oper}{args:Array Operand}{d:Array TypeId}{fn:Func}(p:ops[i]?=some o)(e:o.op=.call ⟨.value (.func A.ng.wait),args,d⟩)(r:bK ops n s.env o)(f:Oper.ok n o=true)
 (t:P.funcs[A.ng.wait]?=some fn) (hb:fn.body.isSome=true) (g:(fn.name==  "runtime.NumGoroutine")=false) (u:args.toList.map (am s.env)=[.ref A.gb 0])
 (h:Go P (oU P A) fid n ro (.inRegion ops rest::k) {s with env:=aV s.env o.dst (.cq [])} (λ_ _=>False)):Go P (uc P A) fid n ro (.inRegion ops (i::rest)::k) s K:=by
 intro Q kk O tmps defs kind cs w j z;refine Hh p e r f t hb g j λl q=>?_
 rw[u]at q;obtain⟨v,rfl,m⟩:=Vs.one q;cases m;refine .cJ gM rfl ⟨rfl,_,_,rfl,λk' c=>?_⟩ (λ_ _ _ h=>h.elim);obtain⟨b,x,y⟩:=j.put (fid:=fid) (ro:=ro) (rest:=rest) (kk:=k) (σ':=s.σ) (v:=.tuple #[]) (a:=.cq []) c p (.cq _ _ rfl λi v a h=>by simp at h) (j.rel.mono c);show T P (oU P A) gM k' O (G (Frame.finish ⟨fid,tmps,.inRegion ops (i::rest)::k,defs,.run,kind,ro⟩ (.tuple #[])) (eX s.rc cs));rw[x];exact h gM k' O b defs kind cs w y .none
theorem BM{c s r:Nat}{tm:Bool}{w:World}{a:Array TypeId}{ty:TypeId}{cs:Array Bool}(h:w.heap[c]?=some (.chan 0 #[] false s r tm)):
 (invoke (.builtin .close a ty cs) #[.chan (some c)]).runT P w #[]=(.ok (.value (.tuple #[])) {w with heap:=w.heap.setIfInBounds c (.chan 0 #[] true s r tm)},#[⟨.obj c,false,true⟩,⟨.obj c,true,true⟩]):=by
 change Sem.runT P (Sem.getObj c _) w #[]=_;rw[Sem.runT,h];change Sem.runT P (Sem.setObj c _ _) w _=_;rw[Sem.runT,h];rfl
theorem Ad{fr:Frame}{cs:List Frame}{x:Sem Go.Next}{w w':World}{v:Value}{es:Array Event}(a:(fr.kind==.early)=false)(h:x.runT P w #[]=(.ok (.value v) w',es))(b:seen P fr.fn es=es):stepG.apply P true fr cs none x w=.go (G (fr.finish v) cs) w' es:=by simp only[stepG.apply,if_true,h,a,GStep.after];simp[b,G]
theorem Go.BN{ops:Array Oper}{i:Nat}{rest:List Nat}{o:Oper}{ch:Operand}{j:Array TypeId}{fn:Func}{y:ag}(l:ops[i]?=some o)(b:o.op=.call ⟨.builtin .close,#[ch],j⟩)(f:Oper.ok n o=true)(B:o.guard=none)(a:am s.env ch=.chan A.cF)
 (g:s.rc=.told .deferred [ck P] y) (z:s.D=[]) (p:ro=none) (C:P.funcs[fid]?=some fn) (E:fn.results=#[]) (F:(Item.inRegion ops rest::k).all wG=true):Go P (oU P A) fid n ro (.inRegion ops (i::rest)::k) s K:=by
 intro Q kk O tmps defs kind cs M e R;obtain⟨env,σ,D,rc⟩:=s;simp only at g z;subst g;subst z;subst p;obtain⟨rfl,rfl,H⟩:=e.rc;have c:defs=[]:=by cases defs with|nil=>rfl|cons _ _=>exact e.ds.elim
 subst c;obtain⟨d,I,S⟩:=e.put (fid:=fid) (ro:=none) (rest:=rest) (kk:=k) (σ':=σ) (v:=.tuple #[]) (.refl kk) l (.bz _) e.rel;obtain⟨N,J⟩:=uB (tmps:=d) C E _ F
 have q:V kk (Frame.eval ⟨fid,tmps,.inRegion ops (i::rest)::k,[],.run,.deferred,none⟩ ch) (am env ch):=by refine V.eval e.env e.size ch ?_;simp only[Oper.ok,Bool.and_eq_true,Array.all_eq_true_iff_forall_mem]at f;exact f.1 ch (by rw[b];simp[Op.operands,Call.operands])
 simp only at a;rw[a]at q;generalize t:Frame.eval ⟨fid,tmps,.inRegion ops (i::rest)::k,[],.run,.deferred,none⟩ ch=T at q;cases q;refine .cJ gM rfl ⟨rfl,G (Frame.finish ⟨fid,tmps,.inRegion ops (i::rest)::k,[],.run,.deferred,none⟩ (.tuple #[])) [ck P],N,?_,λw s r L U a=>?_,?_⟩ (λ_ _ _ h=>h.elim)
 . simp[mayWake,G,eX,l,b]
 . have u:Region.wanted o (yielded ops tmps)=true:=by simp[Region.wanted,B]
   have x:(execOp (Frame.eval ⟨fid,tmps,.inRegion ops (i::rest)::k,[],.run,.deferred,none⟩) o).runT P w #[]=(.ok (.value (.tuple #[])) {w with heap:=w.heap.setIfInBounds A.cF (.chan 0 #[] true s r L)},#[⟨.obj A.cF,false,true⟩,⟨.obj A.cF,true,true⟩]):=by
    simp only[execOp,b,resolve];have:(#[ch].map (Frame.eval ⟨fid,tmps,.inRegion ops (i::rest)::k,[],.run,.deferred,none⟩))=#[.chan (some A.cF)]:=by simp[t]
    rw[this];exact BM (cs:=#[]) a
   rw[show eX (Rec.told CallKind.deferred [ck P] y) [ck P]=[ck P]from rfl]
   refine(dw (m:=oU P A) l u (.inl rfl) w).trans ?_;exact Ad (by simp) x (by simp[seen])
 . rw[I]
   exact J
theorem Go.Db(L:jg P){m:Nat}{R:List Nat}{ops:Array Oper}{i:Nat}{rest:List Nat}{o:Oper}{ct ce:Nat}{z C:TI}{ch:Operand}(B:ops[i]?=some o)(p:o.op=.recv ct ch true)(q:L.tt ct=some z)(r:z.kind=.chan ce)(t:L.tt ce=some C)
 (x:Oper.ok n o=true) (D:bK ops n s.env o) (y:am s.env ch=.chan A.cF)
 (h:∀j∈R,Go P (ov P A Fin m (R.erase j)) fid n ro (.inRegion ops rest::k) {s with env:=aV s.env o.dst (.cq [A.res j,.lit (.bool true)])} (λ_ _=>False)):Go P (ov P A Fin (m+1) R) fid n ro (.inRegion ops (i::rest)::k) s K:=by
 intro Q kk O tmps defs kind cs E g M;have c:=uF (P:=P) (fid:=fid) (k:=k) (rest:=rest) (defs:=defs) (kind:=kind) (ro:=ro) (cs:=eX s.rc cs) (m:=ov P A Fin (m+1) R) L B p q r t g.size g.env D x y;refine .cJ gM rfl ⟨rfl,_,_,λw _=>c w,λw _=>c w,rfl,λj F k' v d H=>?_⟩ (λ_ _ _ h=>h.elim)
 have e:V k' (.tuple #[v,.bool true]) (.cq [A.res j,.lit (.bool true)]):=.cq _ _ rfl λi u a l f=>by
  match i with
  |0=>simp at l f;subst l;subst f;exact H
  |1=>simp at l f;subst l;subst f;exact .lit _
  |i+2=>simp at f
 obtain⟨b,I,J⟩:=g.put (fid:=fid) (ro:=ro) (rest:=rest) (kk:=k) (σ':=s.σ) d B e (g.rel.mono d);show T P (ov P A Fin m (R.erase j)) gM k' O (G (Frame.finish ⟨fid,tmps,.inRegion ops (i::rest)::k,defs,.run,kind,ro⟩ _) (eX s.rc cs));rw[I];exact h j F gM k' O b defs kind cs E J .none
theorem Go.yl(L:jg P){m:Mo}{J:Exit->St->Prop}{kd:CallKind}{f:List Frame}{M:ag}{R:List Nat}{ops:Array Oper}{i:Nat}{rest:List Nat}{o:Oper}{ct ce:Nat}{N S:TI}{ch:Operand}(T:ops[i]?=some o)(v:o.op=.recv ct ch true)(y:L.tt ct=some N)(z:N.kind=.chan ce)(B:L.tt ce=some S)
 (C:Oper.ok n o=true) (U:bK ops n s.env o) (D:am s.env ch=.chan A.cF) (E:s.σ A.fb=some .fK) (g:s.rc=.told kd f M) (j:Ab P m fid n ro J kd f M Fin)
 (h:∀a,A.GI a->Go P m fid n ro (.inRegion ops rest::k) {s with env:=aV s.env o.dst (.cq [.bz,.lit (.bool false)]),σ:=(s.σ.set A.mb a).set A.fb (.part (br A.fo)),rc:=.no} J):Go P (ov P A Fin 0 R) fid n ro (.inRegion ops (i::rest)::k) s K:=by
 intro Q kk O tmps defs kind cs X e Y;have l:=uF (P:=P) (fid:=fid) (k:=k) (rest:=rest) (defs:=defs) (kind:=kind) (ro:=ro) (cs:=eX s.rc cs) (m:=ov P A Fin 0 R) L T v y z B e.size e.env U C D;have b:=e.rc;rw[g]at b;obtain⟨rfl,rfl,F⟩:=b;refine .cJ gM rfl ⟨rfl,_,_,λw _=>l w,λw _=>l w,rfl,(e.rel.2 _ E).2,λk' x a c H I=>?_⟩ (λ_ _ _ h=>h.elim)
 have p:V k' (.tuple #[S.zero,.bool false]) (.cq [.bz,.lit (.bool false)]):=.cq _ _ rfl λi u a r q=>by
  match i with
  |0=>simp at r q;subst r;subst q;exact .bz _
  |1=>simp at r q;subst r;subst q;exact .lit _
  |i+2=>simp at q
 obtain⟨d,W,t⟩:=e.put (fid:=fid) (ro:=ro) (rest:=rest) (kk:=k) (σ':=(s.σ.set A.mb a).set A.fb (.part (br A.fo))) (O':=(O.set A.mb x).set A.fb (.part (br A.fo))) c T p (((e.rel.mono c).set H).set (.part _));show Fin k' _ (G (Frame.finish ⟨fid,tmps,.inRegion ops (i::rest)::k,defs,.run,kind,ro⟩ _) (eX s.rc cs));rw[W,g];exact j _ _ k' _ d defs (h a I) rfl ⟨t.size,t.env,t.rel,t.ds,trivial⟩ (F.trans c)
theorem Go.bM{m:Mo}{todo:List Item}(k:m.solo=true)(B:j9)(C:iu P B.ng)(X:jt P B.ng)(CM:gu P B.nm)(XM:gx P B.nm)(F:oT P B.nm){tm:Bool}{a:ji}
 (hF:s.σ B.cF=some (.raw (.chan 0 #[] false 0 0 tm))) (hG:s.σ B.gb=some (.cells [.lit (.int .u64 0),.lit (.int .u32 0)])) (hL:s.σ B.fb=some (.part (br B.fo))) (hM:s.σ B.mb=some a) (I:a≠.fK) (J:B.GI a) (L:s.rc=.no)
 (h:∀(b:Nat) (hb:0<b) (Fin:ag->ah->Goroutine->Prop) (kd:CallKind) (r:List Frame) (U:ag),Ab P m fid n ro K kd r U Fin ->
   Go P (wu P (B.at b hb) Fin B.n) fid n ro todo {s with σ:=((((s.σ.del B.cF).del B.gb).del B.mb).set B.fb .fK),rc:=.told kd r U} (λ_ _=>False)):Go P m fid n ro todo s K:=by
 intro Q G O tmps defs kind cs V g h3;rw[L];refine T.sat rfl λ⟨w,t⟩=>?_
 obtain⟨xF,oF,rF⟩:=g.rel.1 _ _ hF (by simp)
 obtain⟨xG,oG,rG⟩:=g.rel.1 _ _ hG (by simp)
 obtain⟨xM,oM,rM⟩:=g.rel.1 _ _ hM I;have W:=g.rel.C' hL;cases rF;cases rG with
 | cells H eg _ q1 q2 q3=>
   have Y:∀(i:Nat) (v:Value),([.lit (.int .u64 0),.lit (.int .u32 0)]:List AV)[i]?=some (AV.lit v)->H[i]?=some v:=λi v Z=>by
    have z:i<H.size:=by rw[q1];exact(List.getElem?_eq_some_iff.1 Z).1
    have A:=q2 i H[i] _ (by simp[z]) Z
    generalize hq:H[i]=u at A;cases A;simp[z,hq]
   obtain⟨ec,cc,_,D,_⟩:=t.part _ _ W;refine .phase (λk' O' g'=>T P m Q k' O' g') k (λ_ _ _ h=>h) (BH B C X CM XM F oF oG (Y 0 _ rfl) (Y 1 _ rfl) W oM rM J λb hb=>?_)
   have E:Ab P m fid n ro K kind cs G (λk' O' g'=>T P m Q k' O' g'):=λM s' k' O' l o p hn hs N=>by have:=p Q k' O' l o kind cs V hs (h3.mono N);rw[hn]at this;exact this
   have p:=h b hb _ kind cs G E;refine p gM G _ tmps defs kind cs V ⟨g.size,g.env,?_,g.ds,rfl,rfl,.refl G⟩ .none;refine⟨λd y e hy=>?_,λd e=>?_⟩
   . by_cases c:d=B.fb
     . subst c;simp[aa.set]at e;exact absurd e.symm hy
     by_cases f:d=B.mb
     . subst f;simp[aa.set,aa.del,c]at e
     by_cases j:d=B.gb
     . subst j;simp[aa.set,aa.del,c,f]at e
     by_cases q:d=B.cF
     . subst q;simp[aa.set,aa.del,c,f,j]at e
     simp only[aa.set,aa.del,c,f,j,q,if_false]at e;obtain⟨x,R,S⟩:=g.rel.1 d y e hy;exact⟨x,by simp[j9.rest,c,f,j,q,R],S⟩
   . by_cases c:d=B.fb
     . subst c;exact⟨by simp[j9.rest],_,D⟩
     by_cases f:d=B.mb
     . subst f;simp[aa.set,aa.del,c]at e
     by_cases j:d=B.gb
     . subst j;simp[aa.set,aa.del,c,f]at e
     by_cases q:d=B.cF
     . subst q;simp[aa.set,aa.del,c,f,j]at e
     simp only[aa.set,aa.del,c,f,j,q,if_false]at e;obtain⟨R,S⟩:=g.rel.2 d e;exact⟨by simp[j9.rest,c,f,j,q,R],S⟩
end
end Go.bG
namespace Go.bG
open Go.Conc
section
variable{P:Program}{m:Mo}{fid n:Nat}{ro:Option Nat}{hold:List Entry}{K:Exit->St->Prop}{todo:List Item}
theorem Go.L1{env a:Env}{σ:aa}{D:List kL}{rc:Rec}(c:∀t,(env t).W (a t))(h:Go P m fid n ro todo ⟨a,σ,D,rc⟩ K):Go P m fid n ro todo ⟨env,σ,D,rc⟩ K:=λQ k O tmps defs kind cs d b e=>h Q k O tmps defs kind cs d ⟨b.size,λt f=>c t _ _ (b.env t f),b.rel,b.ds,b.rc⟩ e
theorem ab.L1{env a:Env}{σ:aa}{D:List kL}{rc:Rec}(c:∀t,(env t).W (a t))(h:ab P m fid n ro hold todo ⟨a,σ,D,rc⟩ K):ab P m fid n ro hold todo ⟨env,σ,D,rc⟩ K:=λb=>Go.L1 c (h b)
theorem ab.Hk{env:Env}{σ:aa}{D:List kL}{rc:Rec}(t:Nat){a':AV}(a:(env t).W a')(h:ab P m fid n ro hold todo ⟨env.upd t a',σ,D,rc⟩ K):ab P m fid n ro hold todo ⟨env,σ,D,rc⟩ K:=
 ab.L1 (λu=>by
  by_cases e:u=t
  . subst e;simpa[Env.upd]using a
  . simp only[Env.upd,e,if_false];exact .refl _) h
theorem Tok.up{σ0 σ σ':aa}{a:AV}{kk:Nat}{es:List AV}(h:Tok σ0 σ a kk es)(c:σ.Le σ'):Tok σ0 σ' a kk es:=by
 refine⟨aa.le_trans h.1 c,?_⟩;rcases h.2 with h|h|⟨b,e,d,f,g⟩
 . exact .inl h
 . exact .inr (.inl h)
 . exact .inr (.inr ⟨b,e,d,f,c _ _ g⟩)
theorem ab.cV{env:Env}{σ:aa}{D:List kL}{rc:Rec}(t:Nat){b:Nat}{l:List AV}(v:AV)(hb:σ b=some (.cells l))(d:env t=.ref b 0)(c:v.cells=l)(h:ab P m fid n ro hold todo ⟨env.upd t (.cp v 0),σ.del b,D,rc⟩ K):ab P m fid n ro hold todo ⟨env,σ,D,rc⟩ K:=
 ab.freeze b l hb (λu=>Fz.upd (t:=t) (a':=.cp v 0) (by rw[d];exact .cp 0 0 v (by rw[c];simp) (λj a h=>by rw[c]at h;simpa using h)) u) (I'.del _ _ _) h
theorem oZ(L:jg P){t f:Nat}{name:String}{i:TI}{info:TypeInfo}{mt:Method}{a:AV}(e:L.tt t=some i)(g:P.info? t=some info)(h:info.methods.find? (·.name==name)=some mt)(j:mt.path.toList=[])(l:mt.func=some (f,false))(m:i.kind=.struct):tN P t name f a a:=by
 intro k O v K Kp n o;have p:Made.depth≠0:=by decide
 obtain⟨N,q⟩:∃N,P.types.size+Made.depth=N+1:=Nat.exists_eq_succ_of_ne_zero (by omega);rw[q];unfold method;refine af (bW L e λc b _ _ _=>?_);rw[g]at b;cases b;simp only[h,j];unfold follow;refine af (ai ?_);simp only[l];refine af ?_;unfold receiverAt;refine af (az L e λs _ d=>?_);obtain⟨r,rfl,_⟩:=pr d m;simp only[Place.get];exact ai (ai (o _ n))
theorem aa.Le.none{σ σ':aa}(h:σ.Le σ'){b:Nat}(hb:σ' b=Option.none):σ b=Option.none:=by
 cases e:σ b with
 |none=>rfl
 |some x=>rw[h b x e]at hb;cases hb
end
def ji.plain:ji->Bool
 |.part _=>false
 |.fK=>false
 |.map _=>false
 |_=>true
structure FL(P:Program)(m:Mo)(nm:wp)(b o mb:Nat)(kd:IntKind)(GI:List (Int × AV)->Prop)(Un:aa->Prop)(Ld:aa->List (Int × AV)->Prop):Prop where
 lock:∀{a:AV}{σ:aa}{KF:eI->aa->Prop},oY b o a->Un σ->(∀σ' l,Ld σ' l->GI l->(∀c,c≠b->c≠mb->σ' c=σ c)->(∀y,σ mb=some y->y.plain=false)->KF (.val (.cq [])) σ')->ar P m nm.lock [a] σ KF
 unlock:∀{a:AV}{σ:aa}{l:List (Int × AV)}{KF:eI->aa->Prop},oY b o a->Ld σ l->GI l->(∀σ',Un σ'->(∀c,c≠b->c≠mb->σ' c=σ c)->KF (.val (.cq [])) σ')->ar P m nm.unlock [a] σ KF
 map:∀{σ:aa}{l:List (Int × AV)},Ld σ l->σ mb=some (mapA kd l)
 put:∀{σ:aa}{l l':List (Int × AV)},Ld σ l->Ld (σ.set mb (mapA kd l')) l'
 un:∀{σ σ':aa},(∀c,c=b\/c=mb->(∃x,σ c=some x/\x.plain=false)->σ' c=σ c)->Un σ->Un σ'
 ld:∀{σ σ':aa}{l:List (Int × AV)},(∀c,c=b\/c=mb->(∃x,σ c=some x/\x.plain=false)->σ' c=σ c)->Ld σ l->Ld σ' l
 L2:∀{σ:aa},Un σ->∃x,σ b=some x/\x.plain=false
 Rt:∀{σ:aa}{l:List (Int × AV)},Ld σ l->∃x,σ b=some x/\x.plain=false
def Dc(b o mb:Nat)(kd:IntKind)(GI:List (Int × AV)->Prop)(σ:aa):Prop:=σ b=some (.part (br o))/\∃l,σ mb=some (mapA kd l)/\GI l
def Ru(b o mb:Nat)(kd:IntKind)(σ:aa)(l:List (Int × AV)):Prop:=σ b=some (.part (fS o))/\σ mb=some (mapA kd l)
def Rv(b:Nat)(σ:aa):Prop:=σ b=some .fK
def SC(b mb:Nat)(kd:IntKind)(σ:aa)(l:List (Int × AV)):Prop:=σ b=some (.part pN)/\σ mb=some (mapA kd l)
section
variable{P:Program}{nm:wp}(C:gu P nm)(X:gx P nm)(F:oT P nm)
include C X F in
theorem lH{m:Mo}(hs:m.solo=true){b o mb:Nat}(d:b≠mb){kd:IntKind}{GI:List (Int × AV)->Prop}:FL P m nm b o mb kd GI (Dc b o mb kd GI) (Ru b o mb kd) where
 lock {a σ p} g hu h:=by obtain⟨f,l,e,i⟩:=hu;exact El C X F hs g f (h _ l ⟨aa.an _ _ _,by rw[aa.aj _ _ (Ne.symm d)];exact e⟩ i (λc hc _=>aa.aj _ _ hc) (λy k=>by rw[e]at k;cases k;rfl))
 unlock {a σ l p} g n hg h:=zZ C X F hs g n.1 (h _ ⟨aa.an _ _ _,l,by rw[aa.aj _ _ (Ne.symm d)];exact n.2,hg⟩ (λc hc _=>aa.aj _ _ hc))
 map h:=h.2
 put {σ l q} h:=⟨by rw[aa.aj _ _ d];exact h.1,aa.an _ _ _⟩
 un {σ j} he h:=by obtain⟨f,l,e,i⟩:=h;exact⟨by rw[he b (.inl rfl) ⟨_,f,rfl⟩];exact f,l,by rw[he mb (.inr rfl) ⟨_,e,rfl⟩];exact e,i⟩
 ld {σ j l} he h:=⟨by rw[he b (.inl rfl) ⟨_,h.1,rfl⟩];exact h.1,by rw[he mb (.inr rfl) ⟨_,h.2,rfl⟩];exact h.2⟩
 L2 h:=⟨_,h.1,rfl⟩
 Rt h:=⟨_,h.1,rfl⟩
theorem Hl{A:dk}{j:Nat}{kd:IntKind}{GI:List (Int × AV)->Prop}(i:∀x,A.GI x↔∃l,x=mapA kd l/\GI l):FL P (jx P A j) A.nm A.fb A.fo A.mb kd GI (Rv A.fb) (SC A.fb A.mb kd) where
 lock {a σ k} e hu h:=Em e hu λx m hm=>by obtain⟨l,rfl,d⟩:=(i x).1 m;exact h _ l ⟨aa.an _ _ _,by rw[aa.aj _ _ (Ne.symm A.d5),aa.an]⟩ d (λc f g=>by rw[aa.aj _ _ f,aa.aj _ _ g]) (λy n=>by rw[hm y n];rfl)
 unlock {a σ l k} e d hg h:=z7 e d.1 d.2 ((i _).2 ⟨l,rfl,hg⟩) (by simp[mapA]) (h _ (aa.an _ _ _) (λc f g=>by rw[aa.aj _ _ f];simp[aa.del,g]))
 map h:=h.2
 put {σ l o} h:=⟨by rw[aa.aj _ _ A.d5];exact h.1,aa.an _ _ _⟩
 un {σ b} he h:=by have h:σ A.fb=some .fK:=h;show b A.fb=some .fK;rw[he _ (.inl rfl) ⟨_,h,rfl⟩];exact h
 ld {σ b l} he h:=⟨by rw[he _ (.inl rfl) ⟨_,h.1,rfl⟩];exact h.1,by rw[he _ (.inr rfl) ⟨_,h.2,rfl⟩];exact h.2⟩
 L2 h:=⟨_,h,rfl⟩
 Rt h:=⟨_,h.1,rfl⟩
end
def wH(a:Nat):Option TypeDesc->Bool
 |some (.struct fs)=>(match fs.toList with|[f]=>f.name !=  "_" && f.type==a && f.offset==0|_=>false)
 |_=>false
theorem DC.of{P:Program}{mt b e c:Nat}{kd:IntKind}(g:P.underlying mt=some (.map b e))(a:wH c (P.underlying b)=true)(h:P.underlying c=some (.int kd))(i:P.stoodInHeld b=false):DC P mt b e c kd:=by
 refine⟨g,?_,h,i⟩;generalize P.underlying b=d at a;unfold wH at a;split at a
 . next fs=>
   split at a
   . next f j=>simp only[Bool.and_eq_true,bne_iff_ne,beq_iff_eq]at a;refine⟨f,?_,a.1.1,a.1.2,a.2⟩;congr 2;apply Array.ext';rw[j]
   . cases a
 . cases a
def lI(b mb:Nat)(σ σ':aa):Prop:=∀c x,σ c=some x->c≠b->(c≠mb\/x.plain=true)->σ' c=some x
theorem lI.refl(b mb:Nat)(σ:aa):lI b mb σ σ:=λ_ _ h _ _=>h
section
variable{P:Program}(L:jg P){m:Mo}{fid n:Nat}{ro:Option Nat}{hold:List Entry}{s:St}{k:List Item}{K:Exit->St->Prop}{A:dk}{Fin:ag->ah->Goroutine->Prop}
theorem ab.runN(mu:List Nat)(N:Nat){todo:List Item}(h:aZ L m fid n ro mu hold N todo s K):ab P m fid n ro hold todo s K:=λa=>Go.aZ L mu hold N a h
theorem ab.Hm{c:Code}(h:ab P m fid n ro hold (.code c::.inLoop c::k) s K):ab P m fid n ro hold (.code (.loop c)::k) s K:=λa=>.KT (h (by simpa[jP,lf]using a))
theorem ab.again{c:Code}(b:lf hold c=true)(h:ab P m fid n ro hold (.code c::.inLoop c::k) s K):ab P m fid n ro hold (.inLoop c::k) s K:=λa=>.inLoop (h (by simp only[jP,List.all_cons,Bool.and_eq_true]at a ⊢;exact⟨b,trivial,a.2⟩))
theorem ab.bM{todo:List Item}(d:m.solo=true)(B:j9)(C:iu P B.ng)(X:jt P B.ng)(k:gu P B.nm)(l:gx P B.nm)(F:oT P B.nm){tm:Bool}{a:ji}
 (o:s.σ B.cF=some (.raw (.chan 0 #[] false 0 0 tm))) (p:s.σ B.gb=some (.cells [.lit (.int .u64 0),.lit (.int .u32 0)])) (q:s.σ B.fb=some (.part (br B.fo))) (r:s.σ B.mb=some a) (f:a≠.fK) (g:B.GI a) (i:s.rc=.no)
 (h:∀(b:Nat) (hb:0<b) (Fin:ag->ah->Goroutine->Prop) (kd:CallKind) (c:List Frame) (e:ag),Ab P m fid n ro K kd c e Fin ->
   ab P (wu P (B.at b hb) Fin B.n) fid n ro hold todo {s with σ:=((((s.σ.del B.cF).del B.gb).del B.mb).set B.fb .fK),rc:=.told kd c e} (λ_ _=>False)):ab P m fid n ro hold todo s K:=λj=>
 Go.bM d B C X k l F o p q r f g i λb hb Fin kd c e t=>h b hb Fin kd c e t j
theorem ab.J6{m:Nat}{ops:Array Oper}{i:Nat}{rest:List Nat}{o:Oper}{args:Array Operand}{a:Array TypeId}{fn:Func}(f:ops[i]?=some o)(b:o.op=.call ⟨.value (.func A.ng.add),args,a⟩)(g:o.guard=none)(c:Oper.ok n o=true)
 (j:P.funcs[A.ng.add]?=some fn) (hb:fn.body.isSome=true) (d:(fn.name==  "runtime.NumGoroutine")=false) (l:args.toList.map (am s.env)=[.ref A.gb 0,.lit (.int .i64 1)])
 (h:ab P (CZ P A Fin m) fid n ro hold (.inRegion ops rest::k) {s with env:=aV s.env o.dst (.cq [])} (λ_ _=>False)):ab P (wu P A Fin (m+1)) fid n ro hold (.inRegion ops (i::rest)::k) s K:=λe=>
 Go.J6 f b (dT g) c j hb d l (h (by simpa[jP,lf]using e))
theorem ab.sK{m:Nat}{ops:Array Oper}{i:Nat}{rest:List Nat}{o:Oper}{fo:Operand}{args:Array Operand}{b:Array TypeId}{f:FuncId}{fn:Func}{body:Code}{first cap:List AV}{hold':List Entry}(q:ops[i]?=some o)(c:o.op=.go ⟨.value fo,args,b⟩)(r:o.guard=none)(d:Oper.ok n o=true)
 (e:am s.env fo=.fn (.func f) first cap) (t:P.funcs[f]?=some fn) (hb:fn.body=some body) (g:(fn.name==  "runtime.NumGoroutine")=false) (u:((first++args.toList.map (am s.env))++cap).length<=fn.ntmps) (j:s.σ A.fb=some .fK) (a:jP hold' [.code body]=true)
 (v:∀l,ab P (jx P A (A.n-(m+1))) f fn.ntmps none hold' [.code body] ⟨cX ((first++args.toList.map (am s.env))++cap),i8 A.fb,[],.told .deferred [ck P] l⟩ (λ_ _=>False))
 (h:ab P (wu P A Fin m) fid n ro hold (.inRegion ops rest::k) {s with env:=aV s.env o.dst .bz} (λ_ _=>False)):ab P (CZ P A Fin m) fid n ro hold (.inRegion ops (i::rest)::k) s K:=λp=>
 Go.sK q c (dT r) d e t hb g u j (λl=>v l a) (h (by simpa[jP,lf]using p))
theorem ab.Qb{ops:Array Oper}{i:Nat}{rest:List Nat}{o:Oper}{fo:Operand}{args:Array Operand}{b:Array TypeId}{f:FuncId}{fn:Func}{body:Code}{first cap:List AV}{hold':List Entry}(p:ops[i]?=some o)(c:o.op=.go ⟨.value fo,args,b⟩)(q:o.guard=none)(d:Oper.ok n o=true)
 (e:am s.env fo=.fn (.func f) first cap) (r:P.funcs[f]?=some fn) (hb:fn.body=some body) (g:(fn.name==  "runtime.NumGoroutine")=false) (t:((first++args.toList.map (am s.env))++cap).length<=fn.ntmps) (j:s.σ A.fb=some .fK) (a:jP hold' [.code body]=true)
 (u:∀l,ab P (uc P A) f fn.ntmps none hold' [.code body] ⟨cX ((first++args.toList.map (am s.env))++cap),i8 A.fb,[],.told .deferred [ck P] l⟩ (λ_ _=>False))
 (h:ab P (ov P A Fin A.n (List.range A.n)) fid n ro hold (.inRegion ops rest::k) {s with env:=aV s.env o.dst .bz} (λ_ _=>False)):ab P (wu P A Fin 0) fid n ro hold (.inRegion ops (i::rest)::k) s K:=λm=>
 Go.Qb p c (dT q) d e r hb g t j (λl=>u l a) (h (by simpa[jP,lf]using m))
theorem ab.Hi{j:Nat}{ops:Array Oper}{i:Nat}{rest:List Nat}{o:Oper}{ch x:Operand}{fn fd:Func}{q:ag}(r:ops[i]?=some o)(b:o.op=.send ch x)(c:Oper.ok n o=true)(t:o.guard=none)(d:am s.env ch=.chan A.cF)(u:am s.env x=A.res j)
 (e:s.σ A.fb=some .fK) (f:s.rc=.told .deferred [ck P] q) (g:ro=none) (v:P.funcs[fid]?=some fn) (w:n=fn.ntmps) (l:P.funcs[A.ng.done]?=some fd) (m:fd.body.isSome=true) (a:(fd.name==  "runtime.NumGoroutine")=false)
 (h:ab P (oc P A) fid n ro hold (.inRegion ops rest::k) {s with env:=aV s.env o.dst (.lit undef)} (L0 P A fn)):ab P (jx P A j) fid n ro hold (.inRegion ops (i::rest)::k) s K:=λp=>
 Go.Hi r b c (dT t) d u e f g v w l m a (h (by simpa[jP,lf]using p))
theorem ab.Hj{ops:Array Oper}{i:Nat}{rest:List Nat}{o:Oper}{args:Array Operand}{a:Array TypeId}{fn:Func}(f:ops[i]?=some o)(b:o.op=.call ⟨.value (.func A.ng.wait),args,a⟩)(g:o.guard=none)(c:Oper.ok n o=true)
 (j:P.funcs[A.ng.wait]?=some fn) (hb:fn.body.isSome=true) (d:(fn.name==  "runtime.NumGoroutine")=false) (l:args.toList.map (am s.env)=[.ref A.gb 0])
 (h:ab P (oU P A) fid n ro hold (.inRegion ops rest::k) {s with env:=aV s.env o.dst (.cq [])} (λ_ _=>False)):ab P (uc P A) fid n ro hold (.inRegion ops (i::rest)::k) s K:=λe=>
 Go.Hj f b (dT g) c j hb d l (h (by simpa[jP,lf]using e))
theorem ab.BN{ops:Array Oper}{i:Nat}{rest:List Nat}{o:Oper}{ch:Operand}{a:Array TypeId}{fn:Func}{g:ag}(h:ops[i]?=some o)(b:o.op=.call ⟨.builtin .close,#[ch],a⟩)(c:Oper.ok n o=true)(j:o.guard=none)(d:am s.env ch=.chan A.cF)
 (e:s.rc=.told .deferred [ck P] g) (l:s.D=[]) (f:ro=none) (m:P.funcs[fid]?=some fn) (p:fn.results=#[]) (q:(Item.inRegion ops rest::k).all wG=true):ab P (oU P A) fid n ro hold (.inRegion ops (i::rest)::k) s K:=λ_=>
 Go.BN h b c j d e l f m p q
theorem ab.Db{m:Nat}{R:List Nat}{ops:Array Oper}{i:Nat}{rest:List Nat}{o:Oper}{ct ce:Nat}{l p:TI}{ch:Operand}(q:ops[i]?=some o)(a:o.op=.recv ct ch true)(b:L.tt ct=some l)(c:l.kind=.chan ce)(d:L.tt ce=some p)
 (e:Oper.ok n o=true) (r:o.guard=none) (f:am s.env ch=.chan A.cF)
 (h:∀j∈R,ab P (ov P A Fin m (R.erase j)) fid n ro hold (.inRegion ops rest::k) {s with env:=aV s.env o.dst (.cq [A.res j,.lit (.bool true)])} (λ_ _=>False)):ab P (ov P A Fin (m+1) R) fid n ro hold (.inRegion ops (i::rest)::k) s K:=λg=>
 Go.Db L q a b c d e (dT r) f λj t=>h j t (by simpa[jP,lf]using g)
theorem ab.yl{t:Exit->St->Prop}{kd:CallKind}{b:List Frame}{u:ag}{R:List Nat}{ops:Array Oper}{i:Nat}{rest:List Nat}{o:Oper}{ct ce:Nat}{v w:TI}{ch:Operand}(x:ops[i]?=some o)(d:o.op=.recv ct ch true)(e:L.tt ct=some v)(f:v.kind=.chan ce)(g:L.tt ce=some w)
 (j:Oper.ok n o=true) (y:o.guard=none) (l:am s.env ch=.chan A.cF) (p:s.σ A.fb=some .fK) (q:s.rc=.told kd b u) (c:Ab P m fid n ro t kd b u Fin)
 (h:∀a,A.GI a->ab P m fid n ro hold (.inRegion ops rest::k) {s with env:=aV s.env o.dst (.cq [.bz,.lit (.bool false)]),σ:=(s.σ.set A.mb a).set A.fb (.part (br A.fo)),rc:=.no} t):ab P (ov P A Fin 0 R) fid n ro hold (.inRegion ops (i::rest)::k) s K:=λr=>
 Go.yl L x d e f g j (dT y) l p q c λa z=>h a z (by simpa[jP,lf]using r)
end
section
variable{P:Program}(L:jg P){m:Mo}
theorem ar.L3{f:FuncId}{fn:Func}{args:List AV}{σ:aa}{c:eI->aa->Prop}{body:Code}(mu:List Nat)(hold:List Entry)(N k:Nat)(d:P.funcs[f]?=some fn)(hb:fn.body=some body)(e:args.length=k)(a:lY fn k=true)(b:lf hold body=true)
 (h:aZ L m f fn.ntmps none mu hold N [.code body] ⟨cX args,σ,[],.no⟩ (Mr L m fn.results.toList (lZ c))):ar P m f args σ c:=by
 simp only[lY,Bool.and_eq_true]at a;refine ar.thaw (ar.intro L d hb (by rw[e];exact Nat.le_of_ble_eq_true a.1) ?_ (Go.aZ L mu hold N (by simpa[jP]using b) h));have:=a.2;simpa using this
variable{fid n:Nat}{ro:Option Nat}{hold:List Entry}{K:Exit->St->Prop}{todo:List Item}
@[simp] theorem Nc{mu:List Nat}{s:St}:aZ L m fid n ro mu hold 0 todo s K=ab P m fid n ro hold todo s K:=propext Iff.rfl
theorem ab.Dd{env:Env}{σ:aa}{D:List kL}{rc:Rec}(I:Env->aa->Prop)(a:I env σ)(h:∀env σ,I env σ->ab P m fid n ro hold todo ⟨env,σ,D,rc⟩ K):ab P m fid n ro hold todo ⟨env,σ,D,rc⟩ K:=h env σ a
end
section
variable{P:Program}(L:jg P){o:Oper}{env:Env}{σ:aa}{K:AV->aa->Prop}{Kp:AV->aa->Prop}
theorem mw{t e:Nat}{x y:Operand}{it g:TI}{n:Int}{w:AV}(G:o.op=.makeSlice t x y)(X:L.tt t=some it)(Y:it.kind=.slice e)(D:L.tt e=some g)(S:g.size=1)(hb:g.bytes<=1024)
 (T:(kN g.zero).cells=[w]) (H:w.flat=true) (Z:am env x=.lit (.int .i64 n)) (hy:am env y=.lit (.int .i64 n)) (U:0<=n/\n<=1000000)
 (hK:∀b,σ b=none->K (.eu b 0 n.toNat n.toNat) (σ.set b (.cells (List.replicate n.toNat w)))):aE P o env σ K Kp:=
 aE.val (s:=λE=>Instr.makeSlice t (E x) (E y)) (λE=>by simp[execOp,G]) λk O E A hr=>by
  have I:=A x (by simp[G,Op.operands])
  have F:=A y (by simp[G,Op.operands])
  rw[Z]at I;rw[hy]at F;have e1:=cu I;have e2:=cu F
  have hw:IntKind.i64.wrap n=n:=by simp[IntKind.wrap,IntKind.signed,IntKind.bits];omega
  have B:g.zero.cells.size=1:=by obtain⟨_,_,_,_,_,_,h⟩:=L.facts D;rw[h];exact S
  have m:=xx (k:=k) (z:=g.zero) (by rw[T];simp[H])
  rw[T]at m;rw[e1,e2];unfold Instr.makeSlice;refine af (az L X λd _ hd=>?_)
  rw[bv hd Y];dsimp only;refine af (s:=asInt (.int .i64 n)) (ai ?_);refine af (s:=asInt (.int .i64 n)) (ai ?_);refine af (bW L D λinfo _ _ J _=>?_)
  dsimp only;rw[hw]
  have M:((decide (n<0)||decide ((info.bytes:Int)*n>2 ^ 48))||decide (n<0)||decide (n>n))=false:=by
   have q:(info.bytes:Int)*n<=1024*1000000:=by rw[J];exact Int.mul_le_mul (by omega) U.2 U.1 (by omega)
   have q2:¬((info.bytes:Int)*n>2 ^ 48):=by omega
   simp;omega
  simp only[M,Bool.false_eq_true,if_false];refine af (mV ?_);refine af (bH L D ?_);rw[S]
  have j:∀zero:Array Value,(n.toNat≠0->zero=g.zero.cells)->dM P (do let a <-newRow e ((Array.range (n.toNat*1)).map (zero[· % zero.size]!));pure (Value.slice (some a) n.toNat n.toNat)) k O (λv k' O'=>lh k' O' λN O2=>k.Le N/\∃a c,V N v a/\Rel N O2 c/\K a c) (λv k' O'=>k.Le k'/\∃a c,V k' v a/\Rel k' O' c/\Kp a c):=λzero hzero=>by
   have f:∀(i:Nat) v,((Array.range (n.toNat*1)).map (zero[· % zero.size]!))[i]?=some v->i<n.toNat/\g.zero.cells[0]?=some v:=λi v u=>by
    have hi:=(Array.getElem?_eq_some_iff.1 u).1;obtain⟨a7,p⟩:=Array.getElem?_eq_some_iff.1 u;simp at hi p;rw[hzero (by omega),B]at p
    refine⟨by omega,?_⟩
    subst p;simp[Nat.mod_one,B]
   refine af (gT (l:=List.replicate n.toNat w) hr (by simp) (λi v a u ha=>?_) (λi v u=>?_) λr k' O' Q R C=>ai (.here ⟨R,.eu r 0 n.toNat n.toNat,_,.eu ..,C,hK r Q⟩))
   . obtain⟨I,F⟩:=f i v u
     have:a=w:=(List.mem_replicate.1 (List.mem_of_getElem? ha)).2;subst this;exact m.2.1 0 v a F rfl
   . exact m.2.2 0 v (f i v u).2
  by_cases W:n.toNat*1=0
  . rw[if_pos W]
    refine af (ai ?_);exact j _ (λh=>by omega)
  . rw[if_neg W]
    refine af (cB L D (af (ai ?_)));exact j _ (λ_=>rfl)
end
theorem L4{es b:List AV}{sp:bV}(g:es.length=b.length)(o:∀e∈es,e.cells=[e])(h:∀e∈b,e.cells=[e])(p:∀(i:Nat) a a',es[i]?=some a->b[i]?=some a'->a.W a'):(AV.sl 1 es sp).W (.sl 1 b .any):=λk v q=>by
 have f1:=cY o;have l:=cY h
 rcases q.yU with⟨r,rfl,rfl,s⟩|⟨t,off,cap,N,u,c,rfl,z,w,x,A,m,n,B⟩
 . have:b=[]:=List.length_eq_zero_iff.1 g.symm
   subst this;exact .slnil r 1 .any (.inl rfl)
 . rw[f1]at m n
   rw[g];refine .sl t off cap 1 N u b .any c (by omega) w x (λe y=>by rw[h e y];rfl) (λj d=>m j (by rw[l]at d;omega)) (λj a f=>?_) trivial
   rw[l]at f;have d:j<es.length:=by have:=(List.getElem?_eq_some_iff.1 f).1;omega
   exact p j es[j] a (by simp[d]) f k _ (n j _ (by simp[d]))
section
variable{P:Program}{m:Mo}{fid n:Nat}{ro:Option Nat}{hold:List Entry}{K:Exit->St->Prop}{todo:List Item}
theorem ab.J7{env:Env}{σ:aa}{D:List kL}{rc:Rec}{b d i:Nat}{l cs:List AV}{es:List AV}{sp:bV}{at_:Nat}(hd:d≠b)(hb:σ b=some (.cells l))(z:∀e∈l,e.cells=[e])(E:σ d=some (.cells cs))(g:cs[at_]?=some (.sl 1 es sp))(k:∀e∈es,e.cells=[e])(A:es[i]?=some (.eu b 0 l.length l.length))
 (F:ab P m fid n ro hold todo ⟨env,(σ.del b).set d (.cells (cs.set at_ (.sl 1 (es.set i (.sl 1 l .any)) sp))),D,rc⟩ K):ab P m fid n ro hold todo ⟨env,σ,D,rc⟩ K:=by
 have r:=cY z;refine ab.freeze b l hb (λu=>.refl _) (λy x c=>?_) F;by_cases e:y=d
 . subst e
   simp[aa.set]at c;subst c;refine⟨hd,.inr ⟨cs,_,E,rfl,by simp,λj a G s o=>?_⟩⟩;by_cases B:j=at_
   . subst B
     rw[g]at s;cases s;have f:=(List.getElem?_eq_some_iff.1 g).1;rw[List.getElem?_set_self f]at o;cases o;refine .rows es _ sp (by simp) k (λx t=>?_) (λp a G v q=>?_)
     . rcases List.mem_or_eq_of_mem_set t with t|rfl
       . exact k x t
       . rfl
     . by_cases C:p=i
       . subst C
         rw[A]at v;cases v;have f:=(List.getElem?_eq_some_iff.1 A).1;rw[List.getElem?_set_self f]at q;cases q;exact .sl 0 l.length 1 l .any (Nat.le_refl _) (by omega) (λe H=>by rw[z e H];rfl) (λj a h=>by rw[r]at h;simpa using h) (.inl rfl)
       . rw[List.getElem?_set_ne (Ne.symm C)]at q
         rw[v]at q;cases q;exact .refl _
   . rw[List.getElem?_set_ne (Ne.symm B)]at o
     rw[s]at o;cases o;exact .refl _
 . rw[aa.aj _ _ e]at c
   unfold aa.del at c;split at c
   . cases c
   . next w=>exact⟨w,.inl c⟩
end
section
variable{P:Program}{m:Mo}{fid n:Nat}{ro:Option Nat}{D:List kL}{rc:Rec}{K:Exit->St->Prop}{k:List Item}{ops:Array Oper}{Kp:AV->aa->Prop}
theorem gX.Ou{i:Nat}{env:Env}{σ:aa}{R b:Env->aa->Prop}(h:gX P m ops n Kp i env σ R)(c:∀env σ,R env σ->b env σ):gX P m ops n Kp i env σ b:=by obtain⟨o,d,e,f⟩:=h;exact⟨o,d,e,f.imp (λh=>⟨h.1,h.2.mono λa g=>c _ _⟩) (λh=>⟨h.1,c _ _ h.2⟩)⟩
theorem ci.inv{Inv:List Nat->Env->aa->Prop}{R:Env->aa->Prop}
 (b:∀done i env σ,(∀j,ga ops j i=true->j∈done)->i∉done->i<ops.size->Inv done env σ->gX P m ops n Kp i env σ (λenv σ=>Inv (i::done) env σ))
 (d:∀done env σ,(∀i,i<ops.size->i∈done)->Inv done env σ->R env σ):
 ∀(l done:List Nat) (env:Env) (σ:aa),gW ops done l->(∀i∈l,i<ops.size)->(∀i,i<ops.size->i∈l\/i∈done)->Inv done env σ->ci P m ops n Kp l env σ R
 |[],done,env,σ,_,_,c,g=>d done env σ (λi p=>(c i p).resolve_left (by simp)) g
 | i :: l,done,env,σ,⟨q,r,s⟩,f,c,g=>by
   obtain⟨o,t,u,v⟩:=b done i env σ q r (f i (by simp)) g
   have next:∀env σ,Inv (i::done) env σ->ci P m ops n Kp l env σ R:=λenv σ h=>ci.inv b d l (i::done) env σ s (λj k=>f j (by simp[k])) (λj k=>by
    rcases c j k with h|h
    . rcases List.mem_cons.1 h with e|e
      . exact .inr (by simp[e])
      . exact .inl e
    . exact .inr (by simp[h])) h
   exact⟨o,t,u,v.imp (λh=>⟨h.1,h.2.mono λa w=>next _ _⟩) (λh=>⟨h.1,next _ _ h.2⟩)⟩
theorem Any.inv{Inv:List Nat->Env->aa->Prop}{R:Env->aa->Prop}{env:Env}{σ:aa}(e:Inv [] env σ)
 (a:∀done i env σ,(∀j,ga ops j i=true->j∈done)->i∉done->i<ops.size->Inv done env σ->gX P m ops n Kp i env σ (λenv σ=>Inv (i::done) env σ))
 (b:∀done env σ,(∀i,i<ops.size->i∈done)->Inv done env σ->R env σ):Any P m ops n Kp [] (List.range ops.size) env σ R:=
 λl f _ d=>ci.inv a b l [] env σ f (λi c=>List.mem_range.1 ((d i).1 c)) (λi c=>.inl ((d i).2 (List.mem_range.2 c))) e
theorem aQ(L:jg P){mu:List Nat}{i:Nat}{env:Env}{σ:aa}{R:Env->aa->Prop}(h:fE L m mu ops n Kp (.one i .done) env σ R):gX P m ops n Kp i env σ R:=by
 have:=qD L (p:=.done) (λh=>.done h) h;exact this.Ou λenv σ h=>h [] [] [] rfl [] trivial List.nodup_nil (by simp) (by simp)
theorem ab.J8{hold:List Entry}{id:Nat}{env:Env}{σ:aa}(Inv:List Nat->Env->aa->Prop)(d:P.follows .mixedOrders=true)(e:nG ops=true)(f:Inv [] env σ)
 (a:∀done i env σ,(∀j,ga ops j i=true->j∈done)->i∉done->i<ops.size->Inv done env σ->gX P m ops n (λv σ=>∀env,K (.panic v) ⟨env,σ,D,rc⟩) i env σ (λenv σ=>Inv (i::done) env σ))
 (b:∀done env σ,(∀i,i<ops.size->i∈done)->Inv done env σ->ab P m fid n ro hold k ⟨env,σ,D,rc⟩ K):
 ab P m fid n ro hold (.code (.region id ops true)::k) ⟨env,σ,D,rc⟩ K:=λc=>
 Go.draw d e (Any.inv f a λdone env σ g h=>b done env σ g h (by simp only[jP,List.all_cons,Bool.and_eq_true]at c ⊢;exact c.2))
end
end Go.bG
