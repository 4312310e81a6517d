/- Part 25 of the proof. -/
import Derived.Test.YtigilmjkokbblaaGreatDoorC24
set_option linter.all false
namespace Go.bd
open Go.Conc
open Go.ConcN (sumTo upd sumTo_upd upd_ne upd_same)
theorem xY{F:Nat->Nat}:∀{n:Nat},(∀i,i<n->F i=0)->sumTo n F=0
 |0,_=>rfl
 |n+1,h=>by simp only[sumTo,xY (n:=n) λi a=>h i (by omega),h n (by omega)]
theorem Iz(n:Nat):Mu.Inv n (λ_=>.out) ⟨.zero,0⟩:=by
 have a:∀(F:Mu.Pc->Nat),F .out=0->Mu.tot n (λ_=>F .out)=0:=λF b=>by rw[b];exact Mu.Bu n
 refine⟨⟨λi _=>trivial,?_,λ_=>⟨?_,?_,?_⟩,λh=>(by cases h),λ_ _ _ h=>absurd rfl h⟩,λh=>(by cases h),λi _ old sv h=>(by cases h)⟩
 . rw[a Mu.cr rfl];rfl
 . rw[a Mu.fK rfl,a Mu.cJ rfl,a Mu.na rfl];rfl
 . rw[a Mu.dh rfl]
 . rw[a Mu.cI rfl,a Mu.cJ rfl];rfl
def MS.start(P:Program)(n:Nat):MS P:=⟨.add n,0,λ_=>.idle,.none,⟨.zero,0⟩,0,0,0⟩
theorem IA(P:Program)(n:Nat):bT n (MS.start P n):=by
 refine⟨?_,Nat.zero_le _,λh=>(by cases h),λj _ h=>(by rcases h with h|h<;>cases h),λi j _ _ h=>(by cases h),λj _ h=>(by cases h),⟨Nat.zero_le _,λh=>(by cases h)⟩,λh=>(by cases h),λh=>(by cases h),λh=>(by cases h),λk h=>(by cases h),λj _=>rfl,rfl,Nat.zero_le _,λj _=>⟨λ_=>Nat.zero_le _,λ_=>rfl⟩,⟨Nat.zero_add _,rfl⟩,λ_ j _=>rfl,Iz n⟩;show 0=sumTo n (λ_=>0)+0;rw[xY λ_ _=>rfl]
structure lp where
 n:Nat
 cF:Nat
 fb:Nat
 fo:Nat
 gb:Nat
 mb:Nat
 GI:jB->Prop
 res:Nat->AV
 nm:Ae
 ng:JE
 hn:n<=900
 d1:cF≠fb
 d2:cF≠gb
 d3:cF≠mb
 d4:fb≠gb
 d5:fb≠mb
 d6:gb≠mb
def lp.at(A:lp)(b:Nat)(hb:0<b):eu:=⟨b,A.n,A.cF,A.fb,A.fo,A.gb,A.mb,A.GI,A.res,A.nm,A.ng,hb,A.hn,A.d1,A.d2,A.d3,A.d4,A.d5,A.d6⟩
def lp.rest(A:lp)(O:ai):ai:=λb=>if b=A.cF\/b=A.fb\/b=A.gb\/b=A.mb then none else O b
section
variable{P:Program}{Fin:ah->ai->Goroutine->Prop}
theorem oU{w:World}{b i:Nat}{c:Array Value}{e:TypeId}(h:w.heap[b]?=some (.cells c e (0,0))):w.frozen? ⟨b,i,none⟩=false:=by simp[World.frozen?,h]
theorem qC{w:World}{b i:Nat}{c:Array Value}{e:TypeId}{v:Value}(h:w.heap[b]?=some (.cells c e (0,0)))(a:c[i]?=some v):w.cell? ⟨b,i,none⟩=some v:=by simp[World.cell?,h,a]
theorem FH(A:lp)(C:jH P A.ng)(X:ll P A.ng)(CM:iT P A.nm)(XM:iU P A.nm)(F:rK P A.nm){k:ah}{O:ai}{g:Goroutine}{xF:Nat}{tm:Bool}{cg:Array Value}{eg:TypeId}{x:Own}{a:jB}
 (hF:O A.cF=some (.obj (.chan 0 #[] false xF xF tm))) (hG:O A.gb=some (.obj (.cells cg eg (0,0)))) (cb:cg[0]?=some (.int .u64 0)) (cm:cg[1]?=some (.int .u32 0)) (hL:O A.fb=some (.part (bS A.fo)))
 (hM:O A.mb=some x) (cv:mr k x a) (dd:A.GI a) (ht:∀b (hb:0<b),T P (Ag P (A.at b hb) Fin A.n) ja k (A.rest O) g):AH P k O g Fin:=by
 intro W0 gs w sl t hS;have ax:∀b x,O b=some x->W0.heap.size<=b:=by obtain⟨_,_,_,_,_,_,_,_,_,h⟩:=hS;exact h
 have hb:0<gs.size:=by obtain⟨_,_,h0,_⟩:=hS;exact(Array.getElem?_eq_some_iff.1 h0).1
 obtain⟨B,hB⟩:∃B,B=A.at gs.size hb:=⟨_,rfl⟩;obtain⟨lk,ei⟩:∃lk,lk=gs.size+A.n+1:=⟨_,rfl⟩;obtain⟨Z0,z1,z2,z3,z4,h0,⟨q,b5⟩,dj,a8,b6⟩:=cA.start hS lk ⟨A.fb,A.fo,none⟩ (by omega)
 have E:Sat k O w:=by have:=a8.sat 0;rwa [au,au]at this
 obtain⟨tr⟩:=T.tree (DL (P:=P) (A:=B) (Fin:=Fin) A.n) (by rw[hB];exact ht gs.size hb)
 have al:(0:Nat)≠lk:=by omega
 have ay:∀i,aY O A.gb i:=λi=>.inl ⟨_,hG⟩
 have b0:∀i,k.cell A.gb i=none:=λi=>by
  cases e:k.cell A.gb i with
  |none=>rfl
  |some v=>exact absurd (ay i) (E.apart _ _ _ e)
 have N:∀i,(i=A.fo\/i=A.fo+1)->aY O A.fb i:=λi D=>.inr (.inr ⟨_,hL,by
  unfold bS
  rcases D with rfl|rfl
  . simp
  . simp⟩)
 have b7:∀i,(i=A.fo\/i=A.fo+1)->k.cell A.fb i=none:=λi D=>by
  cases e:k.cell A.fb i with
  |none=>rfl
  |some v=>exact absurd (N i D) (E.apart _ _ _ e)
 have Q:=E.obj _ _ hG;have dr:=E.obj _ _ hF;obtain⟨cl,el,a9,_,b8⟩:=E.part _ _ hL
 have b1:∀b y,A.rest O b=some y->O b=some y/\b≠A.cF/\b≠A.fb/\b≠A.gb/\b≠A.mb:=λb y h=>by
  unfold lp.rest at h;split at h
  . cases h
  . rename_i hn
    exact⟨h,λe=>hn (.inl e),λe=>hn (.inr (.inl e)),λe=>hn (.inr (.inr (.inl e))),λe=>hn (.inr (.inr (.inr e)))⟩
 obtain⟨L,b2⟩:∃L,L=bR (bR (λ_=>ah.bot) 0 k) lk k:=⟨_,rfl⟩
 obtain⟨G,b3⟩:∃G,G=bR (bR (λ_=>ai.bot) 0 (A.rest O)) lk (ai.bot.set A.mb x):=⟨_,rfl⟩
 have R:L 0=k:=by rw[b2,az _ _ al,au]
 have S:L lk=k:=by rw[b2,au]
 have ad:∀i,i≠0->i≠lk->L i=ah.bot:=λi f h2=>by rw[b2,az _ _ h2,az _ _ f]
 have b9:G 0=A.rest O:=by rw[b3,az _ _ al,au]
 have bq:G lk=ai.bot.set A.mb x:=by rw[b3,au]
 have bz:∀i,i≠0->i≠lk->G i=ai.bot:=λi f h2=>by rw[b3,az _ _ h2,az _ _ f]
 have z:∀i b y,G i b=some y->(i=0/\O b=some y/\b≠A.cF/\b≠A.fb/\b≠A.gb/\b≠A.mb)\/(i=lk/\b=A.mb/\y=x):=λi b y h=>by
  by_cases U:i=0
  . subst U;rw[b9]at h;exact .inl ⟨rfl,b1 b y h⟩
  . by_cases V:i=lk
    . subst V
      rw[bq]at h
      by_cases eb:b=A.mb
      . subst eb;simp only[ai.set,if_true,Option.some.injEq]at h;exact .inr ⟨rfl,rfl,h.symm⟩
      . simp only[ai.set,if_neg eb]at h;cases h
    . rw[bz i U V]at h;cases h
 have dx:∀i b n v,(L i).cell b n=some v->k.cell b n=some v:=λi b n v h=>by
  by_cases U:i=0
  . subst U;rw[R]at h;exact h
  . by_cases V:i=lk
    . subst V;rw[S]at h;exact h
    . rw[ad i U V]at h;cases h
 have dy:cA Z0 L G (λ_=>False) (λ_=>False) w t:=by
  have h:=a8.tY (u:=#[]) (w':=w) (kk':=L) (OO':=G) (J':=λ_=>False) (M':=λ_=>False) (λa b=>a=b\/(a=0/\b=lk)) rfl ⟨⟨.refl _,rfl⟩,λ_ _=>rfl⟩ (λb=>.inl rfl) (λop h=>by simp at h) (λi j e n y M hm hz hk=>?_) (λj b n v J=>?_) (λj b s J=>?_) (λj b y M=>?_) (λi j b y bA M=>?_)
   (λsaid=>by rw[oT];exact a8.clean said) (λop W=>by simp at W) (λm op a W=>by simp at W) (λn a ha hm h=>?_)
  . rw[oT]at h;exact h
  . rw[oT]
    rcases e with rfl|⟨rfl,rfl⟩
    . exact hk
    . unfold HZ
      rw[z2,if_pos rfl,z1];obtain⟨op,W,_⟩:=touch_of M;exact .inl (lt_size_of_getElem? W)
  . by_cases U:j=0
    . subst U;rw[R]at J;exact⟨0,.inl rfl,by rw[au];exact J⟩
    . by_cases V:j=lk
      . subst V;rw[S]at J;exact⟨0,.inr ⟨rfl,rfl⟩,by rw[au];exact J⟩
      . rw[ad j U V]at J;cases J
  . by_cases U:j=0
    . subst U;rw[R]at J;exact⟨0,.inl rfl,by rw[au];exact J⟩
    . by_cases V:j=lk
      . subst V;rw[S]at J;exact⟨0,.inr ⟨rfl,rfl⟩,by rw[au];exact J⟩
      . rw[ad j U V]at J;cases J
  . rcases z j b y M with⟨rfl,f,_⟩|⟨rfl,rfl,rfl⟩
    . exact⟨0,.inl rfl,by rw[au];exact f,λs Y=>by rw[au]at Y;rw[R];exact Y⟩
    . exact⟨0,.inr ⟨rfl,rfl⟩,by rw[au];exact hM,λs Y=>by rw[au]at Y;rw[S];exact Y⟩
  . cases e:G j b with
    |none=>rfl
    | some y'=>
      rcases z i b y M with⟨rfl,_,_,_,_,h5⟩|⟨rfl,f,_⟩
      . rcases z j b y' e with⟨rfl,_⟩|⟨rfl,h6,_⟩
        . exact absurd rfl bA
        . exact absurd h6 h5
      . rcases z j b y' e with⟨rfl,_,_,_,_,h5⟩|⟨rfl,_⟩
        . exact absurd f h5
        . exact absurd rfl bA
  . rcases h with⟨_,h,_⟩|⟨_,h,_⟩<;>exact h.elim
 have e7:A.gb<w.heap.size:=(Array.getElem?_eq_some_iff.1 Q).1
 have o:∀i b,(b=A.cF\/b=A.fb\/b=A.gb)->G i b=none:=λi b hb=>by
  cases e:G i b with
  |none=>rfl
  | some y=>
    rcases z i b y e with⟨_,_,f,h2,h3,_⟩|⟨_,f,_⟩
    . rcases hb with rfl|rfl|rfl
      . exact absurd rfl f
      . exact absurd rfl h2
      . exact absurd rfl h3
    . rcases hb with rfl|rfl|rfl
      . exact absurd f A.d3
      . exact absurd f A.d5
      . exact absurd f A.d6
 have d:∀i b n,k.cell b n=none->(L i).cell b n=none:=λi b n h=>by
  cases e:(L i).cell b n with
  |none=>rfl
  |some v=>rw[dx i b n v e]at h;cases h
 have hP:=dy.rE (λl=>∃c:Addr,l=.cell c/\c.spot=none/\c.block=A.gb/\(c.off=0\/c.off=1)) (λc ⟨c',e,_,f,_⟩=>by cases e;rw[f];exact⟨e7,λi=>⟨dY (o i _ (.inr (.inr rfl))),d i _ _ (b0 _)⟩⟩) (λr ⟨c',e,_⟩=>by cases e)
 obtain⟨Z,hZ⟩:∃Z:Base,Z=⟨λl=>Z0.Shun l\/∃c:Addr,l=.cell c/\c.spot=none/\c.block=A.gb/\(c.off=0\/c.off=1),Z0.N0,Z0.lk,Z0.la,Z0.W0⟩:=⟨_,rfl⟩
 rw[<-hZ]at hP;have K:Z.lk=lk:=by rw[hZ];exact z2
 have ea:Z.N0=t.size:=by rw[hZ];exact z1
 have bB:Z.W0=W0:=by rw[hZ];exact z4
 have av:B.b+B.n+1<=Z.lk:=by rw[K,hB];show gs.size+A.n+1<=lk;omega
 have H:∀m b,touchAt t m=some b->b.loc.isMemory=true->b.kind≠.atomic->Knows t 0 m:=λm b hb hm hk=>by
  rcases b6 m b hb hm with h|⟨_,h⟩
  . exact h
  . exact absurd h hk
 have a7:∀l,Lc B l->l.isMemory=true:=λl hl=>by cases l<;>first|rfl|exact hl.elim
 have I:∀i,bU P B (MS.start P A.n) i↔i=0:=λi=>by
  constructor
  . rintro(h|⟨l,f,_⟩|⟨_,f⟩)
    . exact h
    . exact absurd f (Nat.not_lt_zero _)
    . exact absurd rfl f
  . exact λh=>.inl h
 have ec:w.cell? ⟨A.gb,0,none⟩=some (.int .u64 (eC (0:Nat) 0)):=by rw[show eC ((0:Nat):Int) 0=0 by simp[eC]];exact qC Q cb
 have c5:bS A.fo A.fo=some (.int .i32 0):=by simp[bS]
 have c6:bS A.fo (A.fo+1)=some (.int .u32 0):=by unfold bS;rw[if_neg (by omega),if_pos rfl]
 have ee:dt P B Z (MS.start P A.n) L G (λ_=>False) (λ_=>False) gs.size w t:=by
  rw[hB]at I a7 ⊢
  refine⟨IA P A.n,rfl,⟨xF,tm,dr⟩,⟨qC a9 (b8 _ _ c5),qC a9 (b8 _ _ c6),λi=>oU a9⟩,⟨ec,qC Q cm,λi=>oU Q⟩,⟨_,_,a9⟩,⟨_,_,Q⟩,λi=>⟨o i _ (.inl rfl),o i _ (.inr (.inr rfl))⟩,
   λi=>⟨d i _ _ (b7 _ (.inl rfl)),d i _ _ (b7 _ (.inr rfl)),d i _ _ (b0 _),d i _ _ (b0 _)⟩,λi y M=>?_,λj _ h=>(by cases h),λ_=>⟨x,a,?_,?_,dd⟩,λc hc=>⟨?_,λj _=>rfl⟩,λi=>⟨λh=>h.elim,?_⟩,λp hp=>hp.elim,λh=>(by cases h),λm b hb Y hk i D=>?_,λm b hb Y hk=>?_,λi D m b hm hb c7 hz=>?_,λm c hm h=>?_,λi f h2=>?_,λl hl h=>?_,λc hc h=>?_,by rw[bB];exact⟨ax _ _ hF,ax _ _ hL,ax _ _ hG⟩,?_,?_⟩
  . have M:G i A.fb=some y:=M
    rw[o i A.fb (.inr (.inl rfl))]at M;cases M
  . show G Z.lk A.mb=some x
    rw[K,bq];simp[ai.set]
  . rw[K,S];exact cv
  . rw[K]at hc
    cases e:G lk c with
    |none=>exact absurd e hc
    | some y=>
      rcases z lk c y e with⟨h,_⟩|⟨_,h,_⟩
      . omega
      . exact h
  . rintro(⟨j,_,_,h⟩|⟨_,h⟩)<;>cases h
  . rw[(I i).1 D]
    exact H m b hb (a7 _ Y) (by rw[hk];simp)
  . exact H m b hb (a7 _ Y) (by rw[hk];simp)
  . rw[(I i).1 D]
    rcases b6 m b hb c7 with h|⟨h,_⟩
    . exact h
    . exact absurd (by rw[hZ];exact .inl h) hz
  . have:=lt_of_act? h
    omega
  . have c8:i≠0:=λe=>h2 ((I i).2 e)
    exact⟨ad i c8 (by rw[<-K];exact f),bz i c8 (by rw[<-K];exact f)⟩
  . obtain⟨c,rfl,ca⟩:=h
    obtain⟨Y,hl⟩:=hl;rw[hZ];refine .inr ⟨c,rfl,Y,ca,?_⟩
    rcases hl with⟨f,_⟩|⟨_,h2⟩
    . exact absurd (ca.symm.trans f).symm A.d4
    . exact h2
  . rw[hZ]at h
    rcases h with h|⟨c',e,_,h,_⟩
    . have:=(a8.kB c h).2 0
      rw[au]at this;exact this.1 (by rw[hc.1];exact N _ hc.2)
    . cases e
      exact A.d4 (hc.1.symm.trans h)
  . rw[hZ];exact z3
  . rw[ea];exact Nat.le_refl _
 have ej:B.b=gs.size:=by rw[hB];rfl
 have b4:∀i,i≠0 -> ¬dH P B (MS.start P A.n) i/\¬fE P B (MS.start P A.n) i/\¬eM P B (MS.start P A.n) i:=λi D=>by
  refine⟨?_,?_,?_⟩
  . rintro(⟨h,_⟩|⟨_,_,_,h⟩|⟨_,h⟩)
    . exact D h
    . exact h
    . exact h
  . rintro(⟨h,_⟩|⟨_,_,_,h⟩|⟨_,h⟩)
    . exact D h
    . exact h
    . exact h
  . rintro(⟨h,_⟩|⟨_,_,_,h⟩)
    . exact D h
    . cases h
 have hC:bJ (cB P B Fin Z av) Z (MS.start P A.n) (λ_=>⟨_,_,_,_,tr⟩) q L G (λ_=>False) (λ_=>False) gs w t:=by
  refine⟨rfl,hP,λi hl=>?_,λi hw=>?_,λi hh=>?_,λi y M n1 n2 n3=>?_,b5.above,ee⟩
  . have D:i=0:=Classical.byContradiction λh=>(b4 i h).1 hl
    subst D;exact⟨by show 0<B.b+B.n+1;omega,h0,(by show Ag P B Fin A.n=bP P B Fin (MS.start P A.n) 0;rfl),R.symm,b9.symm,tr.running,dj,.inl rfl,DI⟩
  . have D:i=0:=Classical.byContradiction λh=>(b4 i h).2.1 hw
    subst D;exact absurd hw (Al (s:=MS.start P A.n) (m:=A.n) rfl)
  . have D:i=0:=Classical.byContradiction λh=>(b4 i h).2.2 hh
    subst D;exact absurd hh (mV (by simp[MS.start]))
  . have D:i≠0:=λe=>n1 (by subst e;exact tk (s:=MS.start P A.n) (m:=A.n) rfl)
    exact⟨D,b5.old i y (by omega) M⟩
 rw[<-bB];exact LB (by rw[hB];exact C) (by rw[hB];exact X) (by rw[hB];exact CM) (by rw[hB];exact XM) (by rw[hB];exact F) av hC sl
end
theorem runNT_add{P:Program}:∀(a b:Nat) (m m1:Machine) (t c:Trace),runNT P a m t=(.next m1,c)->runNT P (a+b) m t=runNT P b m1 c
 | 0,b,m,m1,t,c,h=>by
   simp only[runNT,Prod.mk.injEq,Stepped.next.injEq]at h;rw[Nat.zero_add,h.1,h.2]
 | a + 1,b,m,m1,t,c,h=>by
   have e:a+1+b=(a+b)+1:=by omega
   rw[e];simp only[runNT]at h ⊢;cases d:stepT P m with
   | mk r ops=>
     rw[d]at h;cases r with
     |next f=>simp only at h ⊢;exact runNT_add a b f m1 _ c h
     |ended o w=>simp at h
def Am(w w':World):Prop:=w.heap=w'.heap/\mD w.os w'.os/\w'.output=w.output
theorem Am.refl(w:World):Am w w:=⟨rfl,.refl _,rfl⟩
theorem cA.FI{Z:Base}{kk:Nat->ah}{g:Nat->ai}{J M:Nat->Prop}{w w':World}{t:Trace}(h:cA Z kk g J M w t)(d:Am w w'):cA Z kk g J M w' t:=by
 have e:=d.1.symm;have c:∀{k O},Sat k O w->Sat k O w':=λc=>⟨c.apart,λb i v x=>by rw[(qz e _).1];exact c.cell b i v x,λb s x=>by have:=c.sh b s x;simpa[World.shape?,e]using this,λb o x=>by rw[e];exact c.obj b o x,λb n x=>by rw[e];exact c.tail b n x,λb f x=>by rw[e];exact c.part b f x⟩
 exact⟨λi=>c (h.sat i),h.ju,h.nM,λi=>by rw[e];exact h.Bs i,h.clean,λop x=>by rw[e];exact h.seen op x,h.acc,h.n0,h.xu,λa x=>by rw[e];exact h.kB a x,λr x=>by rw[e];exact h.nN r x,h.yT.step d.2.1 d.2.2 (by rw[e];exact Nat.le_refl _) (λb _=>by rw[e]),h.mine⟩
structure eo(P:Program)(d:Nat)(k:ah)(O:ai)(g:Goroutine)(gs:Array Goroutine)(w:World)(t:Trace)(Z:Base)(q:Nat->Nat):Prop where
 lk:0≠Z.lk
 g0:gs[0]?=some g
 lv:Leavers P t gs q
 df:Deaf t 0=d
 cE:cA Z (bR (λ_=>ah.bot) 0 k) (bR (λ_=>ai.bot) 0 O) (λ_=>False) (λ_=>False) w t
def PL(P:Program)(k:ah)(O:ai)(g:Goroutine)(d:Nat)(N:ah->ai->Goroutine->Nat->Prop):Prop:=∀w,Sat k O w->∃g' w' es k' O',stepG P true g w=.go g' w' es/\(∃a:World,Am a w'/\Sat k' O' a/\(Eff k O w k' O' a es.toList\/(a=w/\k'=k/\O'=O/\(es=#[⟨.mark .disable,false,true⟩]\/es=#[⟨.mark .enable,false,true⟩]))))/\N k' O' g' (deafBehind d es)
section
variable{P:Program}{k k':ah}{O O':ai}{g g':Goroutine}{gs:Array Goroutine}{w w':World}{t:Trace}{Z:Base}{q:Nat->Nat}{d:Nat}
theorem eQ.VJ{W0:World}(h:eQ P W0 k O g gs w t):∃Z q,Z.W0=W0/\eo P 0 k O g gs w t Z q:=by
 obtain⟨Z,_,a,_,b,c,⟨q,d⟩,hd,e,_⟩:=cA.start h 1 ⟨0,0,none⟩ (by decide);exact⟨Z,q,b,by rw[a];decide,c,d,hd,e⟩
theorem eo.back(h:eo P 0 k O g gs w t Z q):eQ P Z.W0 k O g gs w t:=by have:=h.cE.finish (P:=P) h.g0 h.lv h.df;rw[au,au]at this;exact this
theorem eo.at(h:eo P d k O g gs w t Z q)(x:Nat):eo P d k O g gs (w.at x) t Z q:=⟨h.lk,h.g0,h.lv,h.df,h.cE.at x⟩
theorem eo.FI(h:eo P d k O g gs w t Z q)(e:Am w w'):eo P d k O g gs w' t Z q:=⟨h.lk,h.g0,h.lv,h.df,h.cE.FI e⟩
theorem eo.sat(h:eo P d k O g gs w t Z q):Sat k O w:=by have:=h.cE.sat 0;rwa [au,au]at this
theorem An{α:Type}(f:Nat->α)(i:Nat)(x y:α):bR (bR f i x) i y=bR f i y:=by
 funext j;by_cases e:j=i
 . subst e;rw[au,au]
 . rw[az _ _ e,az _ _ e,az _ _ e]
theorem eo.own(h:eo P d k O g gs w t Z q){es:Array Event}{fn:FuncId}{pos:String}(z:Sat k' O' w')(p:Eff k O w k' O' w' es.toList\/(w'=w/\k'=k/\O'=O/\(es=#[⟨.mark .disable,false,true⟩]\/es=#[⟨.mark .enable,false,true⟩]))):
 eo P (deafBehind d es) k' O' g' (gs.setIfInBounds 0 g') w' (t++MemOp.ofEvents 0 fn pos es) Z q:=by
 have r:=(Array.getElem?_eq_some_iff.1 h.g0).1;have l:∀op∈MemOp.ofEvents 0 fn pos es,op.g=0:=λop c=>by obtain⟨e,_,rfl⟩:=Go.Conc.mem_ofEvents c;rfl
 refine⟨h.lk,Array.getElem?_setIfInBounds_self_of_lt r,⟨λi x A u=>?_,λj y=>?_⟩,by rw[Deaf_own,h.df],?_⟩
 . rw[Array.getElem?_setIfInBounds_ne (by omega)]at u
   rw[Deaf_other t (by omega) _ l];exact h.lv.old i x A u
 . rw[Array.size_setIfInBounds]at y
   rw[Deaf_other t (by omega) _ l];exact h.lv.above j y
 . rcases p with p|⟨rfl,rfl,rfl,p⟩
   . have:=h.cE.own (i:=0) h.lk (.inl rfl) (k':=k') (O':=O') (fn:=fn) (pos:=pos) (by rw[au,au];exact p) z
     rwa [An,An]at this
   . have f:∀op∈MemOp.ofEvents 0 fn pos es,op.act.touch?=none/\op.act.low w'.heap.size:=λop c=>by
      obtain⟨e,s,rfl⟩:=Go.Conc.mem_ofEvents c
      rcases p with rfl|rfl<;>simp at s<;>subst s<;>exact⟨rfl,trivial⟩
     exact h.cE.tY (λa b=>a=b) rfl ⟨⟨.refl _,rfl⟩,λ_ _=>rfl⟩ (λb=>.inl rfl) (λop c=>(f op c).2) (λa b e n x _ _ _ B=>by subst e;exact B.app _) (λj b n v h=>⟨j,rfl,h⟩) (λj b n h=>⟨j,rfl,h⟩) (λj b x h=>⟨j,rfl,h,λ_ h=>h⟩) h.cE.ju
      (λsaid=>noRace_appendMute (h.cE.clean said) λop c=>(f op c).1) (λop c a o=>by rw[(f op c).1]at o;cases o) (λm op a c o=>by rw[(f op (Array.mem_of_getElem? c)).1]at o;cases o) (λn a o s h=>h.elim (λ⟨_,h,_⟩=>h.elim) (λ⟨_,h,_⟩=>h.elim))
theorem y7(d:Leavers P t gs q){a a' x:Goroutine}{w':World}:(gs.map (woken P a a' w')).setIfInBounds 0 x=gs.setIfInBounds 0 x:=by
 apply Array.ext_getElem?;intro j;by_cases c:0=j
 . subst c
   by_cases b:0<gs.size
   . rw[Array.getElem?_setIfInBounds_self_of_lt (by simpa using b),Array.getElem?_setIfInBounds_self_of_lt b]
   . rw[Array.getElem?_eq_none (by rw[Array.size_setIfInBounds,Array.size_map];omega),Array.getElem?_eq_none (by rw[Array.size_setIfInBounds];omega)]
 . rw[Array.getElem?_setIfInBounds_ne c,Array.getElem?_setIfInBounds_ne c,Array.getElem?_map]
   cases e:gs[j]? with
   |none=>rfl
   |some y=>simp only[Option.map_some,Option.some.injEq];exact woken_quitsD (d.old j y (by omega) e)
theorem Ao{N:ah->ai->Goroutine->Nat->Prop}(p:g.status=.running)(F:PL P k O g d N):
 ∀ (n:Nat) (gs:Array Goroutine) (w:World) (sl:Option (Nat × Nat)) (t:Trace) (q:Nat->Nat),sumTo gs.size q=n->eo P d k O g gs w t Z q ->
   ∃M gs' w' l T q' k' O' g' U,runNT P M (crowd gs w sl) t=(.next (crowd gs' w' l),T)/\eo P U k' O' g' gs' w' T Z q'/\N k' O' g' U:=by
 intro n
 induction n using Nat.strongRecOn with
 |ind n ih=>
 intro gs w sl t q hn o
 have a7:∀x∈gs,awake x:=by
  intro x hx;obtain⟨i,B,rfl⟩:=Array.mem_iff_getElem.1 hx
  rcases Nat.eq_zero_or_pos i with rfl|r
  . have:gs[0]=g:=by simpa[Array.getElem?_eq_getElem B]using o.g0
    rw[this];exact awake_of (.inl p)
  . exact awake_of ((o.lv.old i _ r (Array.getElem?_eq_getElem B)).status.elim .inl λx=>.inr (.inr x))
 obtain⟨i,x,C,l,B,V,J⟩:=crowd_pick (P:=P) (w:=w) (sl:=sl) a7 ⟨0,g,o.g0,p⟩;have K:=(Array.getElem?_eq_some_iff.1 B).1;have s:=o.at C
 rcases Nat.eq_zero_or_pos i with rfl|r
 . obtain rfl:x=g:=by rw[o.g0]at B;exact(Option.some.inj B).symm
   obtain⟨g',w',es,k',O',s1,⟨w2,s0,s2,s3⟩,s4⟩:=F (w.at C) s.sat;have c:=runT_crowd_go (P:=P) (sl:=l) (i:=0) B (show stepG P (0==0) x (w.at C)=_ from s1)
   rw[y7 o.lv]at c;exact⟨1,_,w',l,_,q,k',O',g',_,by simp only[runNT,J,c],(s.own (fn:=x.frame.fn) (pos:=x.frame.place) s2 s3).FI s0,s4⟩
 . have W :=o.lv.old i x r B
   have a8:(i==0)=false:=by simp;omega
   cases G:q i with
   |zero=>rw[G]at W;rw[W.1]at V;cases V
   | succ E=>
     rw[G]at W
     rcases W with⟨hf,_⟩|⟨_,g',es,hm,L,a9⟩
     . rw[hf]at V;cases V
     have c:=runT_crowd_go (P:=P) (sl:=l) (i:=i) B (by rw[a8];exact L (w.at C))
     have ax:sumTo gs.size (upd q i E)+(E+1)=sumTo gs.size q+E:=by have:=sumTo_upd q E id K;simpa[G]using this
     have A:∀op∈MemOp.ofEvents i x.frame.fn x.frame.place es,op.g=i:=λop f=>by obtain⟨e,_,rfl⟩:=Go.Conc.mem_ofEvents f;rfl
     have H:∀op∈MemOp.ofEvents i x.frame.fn x.frame.place es,op.act.touch?=none:=λop f=>by obtain⟨e,he,rfl⟩:=Go.Conc.mem_ofEvents f;exact touch_mute (hm e he)
     have Q:∀op∈MemOp.ofEvents i x.frame.fn x.frame.place es,op.act.low (w.at C).heap.size:=λop f=>by obtain⟨e,he,rfl⟩:=Go.Conc.mem_ofEvents f;exact low_mute (hm e he) _
     have hP:=s.cE.tY (w':=w.at C) (kk':=bR (λ_=>ah.bot) 0 k) (OO':=bR (λ_=>ai.bot) 0 O) (J':=λ_=>False) (M':=λ_=>False) (u:=MemOp.ofEvents i x.frame.fn x.frame.place es) (λa b=>a=b) rfl ⟨⟨.refl _,rfl⟩,λ_ _=>rfl⟩ (λb=>.inl rfl) Q (λa b e n y _ _ _ h=>by subst e;exact h.app _) (λj b n v h=>⟨j,rfl,h⟩) (λj b n h=>⟨j,rfl,h⟩) (λj b x h=>⟨j,rfl,h,λ_ h=>h⟩) s.cE.ju
      (λsaid=>noRace_appendMute (s.cE.clean said) H) (λop f a I=>by rw[H op f]at I;cases I) (λm op a f I=>by rw[H op (Array.mem_of_getElem? f)]at I;cases I) (λn a I hm h=>h.elim (λ⟨_,h,_⟩=>h.elim) (λ⟨_,h,_⟩=>h.elim))
     have ad:eo P d k O g ((gs.map (woken P x g' (w.at C))).setIfInBounds i g') (w.at C) (t++MemOp.ofEvents i x.frame.fn x.frame.place es) Z (upd q i E):=by
      refine⟨o.lk,?_,⟨λj y X Y=>?_,λj X=>?_⟩,?_,hP⟩
      . rw[Array.getElem?_setIfInBounds_ne (by omega),Array.getElem?_map,o.g0]
        simp[woken_run p]
      . by_cases D:i=j
        . subst D
          rw[Array.getElem?_setIfInBounds_self_of_lt (by simpa using K)]at Y
          obtain rfl:=Option.some.inj Y;rw[upd_same,Deaf_own];exact a9
        . rw[Array.getElem?_setIfInBounds_ne D,Array.getElem?_map]at Y
          obtain⟨z,hz,rfl⟩:=Option.map_eq_some_iff.1 Y;have R:=o.lv.old j z X hz;rw[woken_quitsD R,upd_ne q E (Ne.symm D),Deaf_other t D _ A];exact R
      . rw[Deaf_other t (g':=i) (by simp at X;omega) _ A]
        exact o.lv.above j (by simpa using X)
      . rw[Deaf_other t (by omega) _ A];exact o.df
     obtain⟨M,gs',al,S,T,q',k',O',av,U,e1,e2,e3⟩:=ih (sumTo gs.size (upd q i E)) (by omega) _ (w.at C) l _ (upd q i E) (by simp) ad
     exact⟨M+1,gs',al,S,T,q',k',O',av,U,by simp only[runNT,J,c];exact e1,e2,e3⟩
inductive iZ(P:Program)(N:ah->ai->Goroutine->Prop):ah->ai->Goroutine->Nat->Prop
 |done {k:ah}{O:ai}{g:Goroutine}:N k O g->iZ P N k O g 0
 |step {k:ah}{O:ai}{g:Goroutine}{d:Nat}(N':ah->ai->Goroutine->Nat->Prop):g.status=.running->PL P k O g d N'->(∀k' O' g' d',N' k' O' g' d'->iZ P N k' O' g' d')->iZ P N k O g d
theorem LC{N:ah->ai->Goroutine->Prop}(h:iZ P N k O g d):∀(gs:Array Goroutine) (w:World) (sl:Option (Nat × Nat)) (t:Trace) (q:Nat->Nat),eo P d k O g gs w t Z q ->
 ∃M gs' w' a j k' O' g',runNT P M (crowd gs w sl) t=(.next (crowd gs' w' a),j)/\eQ P Z.W0 k' O' g' gs' w' j/\N k' O' g':=by
 induction h with
 |done h=>exact λgs w sl t q b=>⟨0,gs,w,sl,t,_,_,_,rfl,b.back,h⟩
 |step F l m _ n=>intro gs w sl t q b;obtain⟨o,c,p,e,r,s,G,H,I,J,u,v,x⟩:=Ao l m _ gs w sl t q rfl b;obtain⟨M2,f,y,i,z,A,B,C,f1,D,E⟩:=n _ _ _ _ x c p e r s v;exact⟨o+M2,f,y,i,z,A,B,C,by rw[runNT_add _ _ _ _ _ _ u];exact f1,D,E⟩
theorem iZ.phase{N:ah->ai->Goroutine->Prop}(h:iZ P N k O g 0):AH P k O g N:=λW0 gs w sl t a=>by obtain⟨Z,q,rfl,b⟩:=a.VJ;exact LC h gs w sl t q b
theorem eQ.ghost{W0:World}(h:eQ P W0 k O g gs w t){k':ah}{O':ai}(c:lP k O k' O'):eQ P W0 k' O' g gs w t:=by
 obtain⟨Z,q,rfl,a⟩:=h.VJ;obtain⟨d,e⟩:=c w a.sat;have:=a.own (g':=g) (es:=#[]) (fn:=0) (pos:=  "") d (.inl e)
 have f:t++MemOp.ofEvents 0 0  "" #[]=t:=by rw[ofEvents_eq];simp
 have i:gs.setIfInBounds 0 g=gs:=by
  apply Array.ext_getElem?;intro j;by_cases b:0=j
  . subst b
    rw[Array.getElem?_setIfInBounds_self_of_lt (Array.getElem?_eq_some_iff.1 a.g0).1,a.g0]
  . rw[Array.getElem?_setIfInBounds_ne b]
 rw[f,i]at this;exact this.back
theorem LF{m:Mo}(I:m.main=true)(n:∀k O g N,¬m.dC k O g N){Q:ah->ai->Goroutine->Prop}(h:T P m Q k O g):
 ∀ (W0:World) (gs:Array Goroutine) (w:World) (sl:Option (Nat × Nat)) (t:Trace),eQ P W0 k O g gs w t ->
   ∃M gs' w' o F k' O' g',runNT P M (crowd gs w sl) t=(.next (crowd gs' w' o),F)/\eQ P W0 k' O' g' gs' w' F/\Q k' O' g':=by
 induction h with
 |stop h=>exact λW0 gs w sl t a=>⟨0,gs,w,sl,t,_,_,_,rfl,a,h⟩
 | step N i _ l j=>
   intro W0 gs w sl t a;rw[I]at l;obtain⟨Z,q,rfl,J⟩:=a.VJ
   obtain⟨p,b,r,c,s,q1,K,L,R,d1,u,v,rfl,x⟩:=Ao (N:=λk' O' g' S=>S=0/\N k' O' g') i (λw U=>by
    obtain⟨g',w',es,k',O',V,G,W,X⟩:=l w U;refine⟨g',w',es,k',O',V,⟨w',.refl _,W,.inl G⟩,?_,X⟩;have H:=cy (t:=#[]) (xw (λe Y=>G.evs e Y) 0 0  "") 0
    rw[Deaf_own]at H;exact H) _ gs w sl t q rfl J
   obtain⟨M2,d,y,f,z,A,B,C,f1,D,E⟩:=j _ _ _ x _ b r c s v.back;exact⟨p+M2,d,y,f,z,A,B,C,by rw[runNT_add _ _ _ _ _ _ u];exact f1,D,E⟩
 |ghost i _ j=>exact λW0 gs w sl t a=>j W0 gs w sl t (a.ghost i)
 |phase N i _ l j=>intro W0 gs w sl t a;obtain⟨p,b,r,c,s,K,L,R,u,v,x⟩:=l W0 gs w sl t a;obtain⟨M2,d,y,f,z,A,B,C,f1,D,E⟩:=j _ _ _ x W0 b r c s v;exact⟨p+M2,d,y,f,z,A,B,C,by rw[runNT_add _ _ _ _ _ _ u];exact f1,D,E⟩
 |dC N h0 i _ _=>exact absurd i (n _ _ _ _)
end
def fX(fo:Nat)(s:Mu.Sh):Nat->Option Value:=λi=>if i=fo then some (.int .i32 (enc s.w.L s.w.K s.w.S s.w.N))else if i=fo+1 then some (.int .u32 s.ms)else none
def kZ:Mu.Sh:=⟨.zero,0⟩
def pY:Mu.Sh:=⟨{Mu.Wd.zero with L:=true},0⟩
theorem xZ(fo:Nat):fX fo kZ=bS fo:=by
 funext i;simp[fX,bS,kZ,enc,Mu.Wd.zero]
def iA(fo:Nat):Nat->Option Value:=fX fo pY
section
variable{P:Program}{k:ah}{O:ai}{b o:Nat}{w w':World}{s s':Mu.Sh}
theorem vQ(f:Sat k O w)(g:O b=some (.part (fX o s))):ShM b o w s:=by
 obtain⟨c,e,a,h,d⟩:=f.part _ _ g;refine⟨?_,?_,λi=>?_⟩
 . exact qC a (d o _ (by simp[fX]))
 . exact qC a (d (o+1) _ (by simp[fX]))
 . exact oU a
theorem heap_set{w:World}{b i:Nat}{v:Value}{c:Array Value}{e:TypeId}{z:Nat × Nat}(h:w.heap[b]?=some (.cells c e z)):(w.setCell ⟨b,i,none⟩ v).heap[b]?=some (.cells (c.setIfInBounds i v) e z):=by have a:=(Array.getElem?_eq_some_iff.1 h).1;simp[World.setCell,Array.getElem?_modify,h]
theorem DO{w:World}{b i d:Nat}{v:Value}(h:d≠b):(w.setCell ⟨b,i,none⟩ v).heap[d]?=w.heap[d]?:=by simp[World.setCell,Array.getElem?_modify,Ne.symm h]
theorem LG{es : Array Event}(A:Sat k O w)(J:O b=some (.part (fX o s)))(M:MW b o w w')(P:ShM b o w' s')(Q:EvM b o es)(R:∀e∈es,∀m,e.loc≠.mark m):
 ∃Z:World,Am Z w'/\Sat k (O.set b (.part (fX o s'))) Z/\Eff k O w k (O.set b (.part (fX o s'))) Z es.toList:=by
 obtain⟨c,e,E,h2,h3⟩:=A.part _ _ J;have a7:=(Array.getElem?_eq_some_iff.1 E).1
 have key:∃C,w'.heap[b]?=some (.cells C e (0,0))/\C.size=c.size/\(∀i,i≠o->i≠o+1->C[i]?=c[i]?)/\(∀d,d≠b->w'.heap[d]?=w.heap[d]?)/\w'.heap.size=w.heap.size:=by
  rcases M.2 with F|⟨i,v,g,X,F⟩
  . exact⟨c,by rw[F];exact E,rfl,λ_ _ _=>rfl,λd _=>by rw[F],by rw[F]⟩
  . refine⟨c.setIfInBounds i v,by rw[F];exact heap_set E,by simp,λj hj ad=>?_,λd hd=>by rw[F];exact DO hd,by rw[F];simp[World.setCell]⟩
    exact Array.getElem?_setIfInBounds_ne (by rcases g with rfl|rfl<;>omega)
 obtain⟨C,G,Y,k3,B,k5⟩:=key;have a8:C[o]?=some (.int .i32 (enc s'.w.L s'.w.K s'.w.S s'.w.N)):=by have:=P.cw;simpa[World.cell?,G]using this
 have a9:C[o+1]?=some (.int .u32 s'.ms):=by have:=P.cs;simpa[World.cell?,G]using this
 have t:∀i,(i=o\/i=o+1)->aY O b i:=λi g=>.inr (.inr ⟨_,J,by rcases g with rfl|rfl<;>simp[fX]⟩)
 have r:∀d y,(O.set b (.part (fX o s'))) d=some y->(d=b/\y=.part (fX o s'))\/(d≠b/\O d=some y):=λd y h=>by
  by_cases hd:d=b
  . subst hd;simp[ai.set]at h;exact .inl ⟨rfl,h.symm⟩
  . simp[ai.set,hd]at h;exact .inr ⟨hd,h⟩
 have u:∀i v,k.cell b i=some v->i≠o/\i≠o+1:=λi v x=>⟨λe=>A.apart _ _ _ x (t i (.inl e)),λe=>A.apart _ _ _ x (t i (.inr e))⟩
 refine⟨{w with heap:=w'.heap},⟨rfl,M.1⟩,⟨λd i v x hc=>?_,λd i v x=>?_,λd z hz=>?_,λd y H=>?_,λd n H=>?_,λd f H=>?_⟩,⟨.refl k,?_,λd hd D=>?_,λd n hd D c2 e2 T=>?_,λd f hd D c2 e2 T=>?_,λd hd=>?_,λd y H=>?_,λd i v x=>.inl x,λd z hz=>.inl hz,λU l=>?_,rfl,rfl,rfl,λU l=>?_,λd f X=>?_⟩⟩
 . by_cases hd:d=b
   . subst hd
     obtain⟨V,W⟩:=u i v x;rcases hc with⟨_,q⟩|⟨_,q,_⟩|⟨f,q,X⟩
     . simp[ai.set]at q
     . simp[ai.set]at q
     . simp[ai.set]at q;subst q
       simp[fX,V,W]at X
   . exact A.apart d i v x (by simpa[aY,ai.set,hd]using hc)
 . have I:=A.cell d i v x
   by_cases hd:d=b
   . subst hd
     obtain⟨V,W⟩:=u i v x;simp only[World.cell?,E,G]at I ⊢;rw[k3 i V W];exact I
   . simpa[World.cell?,B d hd]using I
 . have I:=A.sh d z hz
   by_cases hd:d=b
   . subst hd
     simp only[World.shape?,E,G,Y]at I ⊢;exact I
   . simpa[World.shape?,B d hd]using I
 . rcases r d _ H with⟨_,q⟩|⟨hd,p⟩
   . cases q
   . rw[show({w with heap:=w'.heap}:World).heap[d]?=w.heap[d]? from B d hd];exact A.obj d y p
 . rcases r d _ H with⟨_,q⟩|⟨hd,p⟩
   . cases q
   . rw[show({w with heap:=w'.heap}:World).heap[d]?=w.heap[d]? from B d hd];exact A.tail d n p
 . rcases r d _ H with⟨rfl,q⟩|⟨hd,p⟩
   . cases q
     refine⟨C,e,G,by rw[Y];exact h2,λi v g=>?_⟩;unfold fX at g;split at g
     . next q=>subst q;rw[a8];exact g
     . split at g
       . next q=>subst q;rw[a9];exact g
       . cases g
   . rw[show({w with heap:=w'.heap}:World).heap[d]?=w.heap[d]? from B d hd];exact A.part d f p
 . exact Nat.le_of_eq k5.symm
 . have a:d≠b:=λq=>by rw[q,J]at D;cases D
   exact B d a
 . have a:d≠b:=λq=>by rw[q,J]at D;cases D
   exact⟨c2,(B d a).trans T,rfl,λ_ _=>rfl⟩
 . by_cases a:d=b
   . subst a
     rw[J]at D;cases D;rw[E]at T;cases T;exact⟨C,G,Y,λi g=>k3 i (λq=>by subst q;simp[fX]at g) (λq=>by subst q;simp[fX]at g)⟩
   . exact⟨c2,(B d a).trans T,rfl,λ_ _=>rfl⟩
 . by_cases a:d=b
   . subst a
     simp only[World.shape?,E,G,Y]
   . simp[World.shape?,B d a]
 . rcases r d _ H with⟨rfl,rfl⟩|⟨a,p⟩
   . refine .inl ⟨_,J,λi g=>?_⟩
     unfold fX at g ⊢;split
     . simp
     . next V => split
                 . simp
                 . next W=>simp[V,W]at g
   . exact .inl ⟨y,p,.refl y⟩
 . rcases Q U (by simpa using l)with q|⟨i,g,q,_⟩
   . rcases q with q|q<;>exact absurd q (R U (by simpa using l) _)
   . simp only[jc,q];exact .inl (t i g)
 . rcases Q U (by simpa using l)with q|⟨i,g,q,_⟩
   . rcases q with q|q<;>exact absurd q (R U (by simpa using l) _)
   . simp only[jF,q];rw[show({w with heap:=w'.heap}:World).heap.size=w.heap.size from k5];exact a7
 . by_cases a:d=b
   . subst a;exact⟨fX o s',by simp[ai.set]⟩
   . exact⟨f,by simp[ai.set,a,X]⟩
variable{n:Ae}(C:iT P n)(X:iU P n){kind:CallKind}{Wd:World->Prop}{cs:List Frame}{g:Goroutine}{main:Bool}
def TH(b o:Nat):Array Event:=#[⟨.cell ⟨b,o,none⟩,false,true⟩,⟨.cell ⟨b,o,none⟩,true,true⟩]
theorem QJ(b o:Nat):EvM b o (TH b o)/\(∀e∈TH b o,∀m,e.loc≠.mark m)/\∀d,deafBehind d (TH b o)=d:=by
 refine⟨kV (.inl rfl),λe a m h=>?_,λd=>rfl⟩;simp[TH]at a;rcases a with rfl|rfl<;>cases h
include C X in
theorem LH(a:ShM b o w kZ)(h:nY P n b o kind .ig cs g):∃e w',stepG P main g w=.go e w' (TH b o)/\MW b o w w'/\ShM b o w' pY/\Next P n b o kind Wd cs .le e:=by
 obtain⟨c,y,fr,j,rfl,k,f,d,rfl⟩:=h;have l:(ui P n b o kind).1.kind≠.early:=by simp[ui,mP]
 have i:=a.cw;rw[show enc kZ.w.L kZ.w.K kZ.w.S kZ.w.N=0 from rfl]at i;exact⟨_,_,gT f (C.o2 b o kind) l X.kQ (v:=0) (n:=1) (λx h=>h) (λx h=>h) i (a.fz o),vB rfl,a.aO {Mu.Wd.zero with L:=true},nxt (C.e2 _ b o kind) k f d rfl (.inl rfl)⟩
include C X in
theorem LI(i:ShM b o w pY)(h:nY P n b o kind .held cs g):∃r w' es,stepG P main g w=.go r w' es/\MW b o w w'/\ShM b o w' kZ/\EvM b o es/\(∀e∈es,∀m,e.loc≠.mark m)/\(∀d,deafBehind d es=d)/\Next P n b o kind Wd cs .ue r:=by
 obtain⟨c,y,fr,j,rfl,u,s,k,rfl⟩:=h;have l:({y with N:=0}:Sy).ok:=⟨⟨by simp,by simp⟩,u.2⟩;have p:=s.re (y':={y with N:=0}) (.inr rfl) (.inl rfl) (.inl rfl) (.inl rfl);have a:=k.gL (y':={y with N:=0}) (by simpa[rI,o6]using(C.p3 b o kind).1);have f:=pS (main:=main) (cs:=j++cs) (w:=w) s (C.Vi b o kind) (by simp[rI,o6]) X.add (λx h=>h) i.cw (i.fz _);have e:IntKind.i32.wrap (enc pY.w.L pY.w.K pY.w.S pY.w.N+-1)=enc false false false 0:=by decide
 rw[e]at f;have q:=i.aO Mu.Wd.zero;have v:SR {y with N:=0} (.word false false false 0) (.int .i32 (enc false false false 0)):=qA rfl;have key:=C.u5 (Fl.of {y with N:=0}) b o kind true false (by rfl);exact⟨_,_,_,f,vB rfl,q,kV (.inl rfl),(λe t m h=>(by simp at t;rcases t with rfl|rfl<;>cases h)),(λd=>rfl),nxt (y:={y with N:=0}) key l p a v rfl⟩
theorem iZ.zZ{N:ah->ai->Goroutine->Prop}{Wd:World->Prop}{a:Goroutine}{d:Nat}(j:∀w,Sat k O w->Wd w){m:Nat}:∀{g:Goroutine},kD P Wd m g a->iZ P N k O a d->iZ P N k O g d:=by
 induction m with
 |zero=>intro g h b;obtain rfl:g=a:=h;exact b
 | succ m l=>
   intro g h b;obtain⟨c,e,n⟩:=h;refine .step (λk' O' g' f=>k=k'/\O=O'/\c=g'/\d=f) e.1 (λw i=>⟨c,w,#[],k,O,e.2 true w (j w i),⟨w,.refl _,i,.inl (.refl ..)⟩,rfl,rfl,rfl,rfl⟩) ?_;rintro k' O' g' f ⟨rfl,rfl,rfl,rfl⟩;exact l n b
theorem iZ.next{N:ah->ai->Goroutine->Prop}{p:sS}{c:Goroutine}{d:Nat}(e:∀w,Sat k O w->Wd w)(h:Next P n b o kind Wd cs p c)(f:∀a,nY P n b o kind p cs a->iZ P N k O a d):iZ P N k O c d:=by obtain⟨_,a,⟨m,g⟩,i⟩:=h;exact iZ.zZ e g (f a i)
variable{N:ah->ai->Goroutine->Prop}
theorem DQ{e:Event}(g:Sat k O w)(h:O b=some (.part (fX o s)))(f:e.loc=.mark (.acquire ⟨b,o,none⟩)\/e.loc=.mark (.releaseMerge ⟨b,o,none⟩)):Eff k O w k O w [e]:=by
 have a:=Eff.refl k O w;have d:=g.pr h;refine⟨a.le,a.size,a.keep,a.tail,a.part,a.shape,a.own,a.cell,a.sh,λx c=>?_,rfl,rfl,rfl,λx c=>?_,a.tok⟩
 . rw[List.mem_singleton]at c;subst c
   rcases f with q|q<;>simp[jc,q,jX]
 . rw[List.mem_singleton]at c;subst c
   rcases f with q|q<;>simp only[jF,q]<;>exact d
theorem BR(a:O b=some (.part (fX o s))):∀w,Sat k O w->∃v,w.cell? ⟨b,o,none⟩=some v:=λw c=>⟨_,(vQ c a).cw⟩
include C X in
theorem FJ(F:rK P n){c:Frame}{rest:List Frame}(u:kind≠.early)(q:O b=some (.part (bS o)))(x:N k (O.set b (.part (iA o))) (kR kind c rest (.tuple #[]))):iZ P N k O (G (Frame.enter P n.lock #[.pointer (some ⟨b,o,none⟩)] kind) (c::rest)) 0:=by
 rw[<-xZ]at q;have p:(O.set b (.part (iA o))) b=some (.part (fX o pY)):=by simp[ai.set,iA]
 have t:=BR (k:=k) q;have e:=BR (k:=k) p;obtain⟨r,⟨m,s⟩,a⟩:=qU (P:=P) (n:=n) (b:=b) (o:=o) (kind:=kind) (Wd:=λw=>∃v,w.cell? ⟨b,o,none⟩=some v) (cs:=c::rest) F;refine iZ.zZ t s ?_;refine .step (λk' O' g' g=>k=k'/\O=O'/\g=1/\Next P n b o kind (λw=>∃v,w.cell? ⟨b,o,none⟩=some v) (c::rest) .ig g') a.running.1 (λw f=>?_) ?_
 . obtain⟨d,i,j⟩:=By (main:=true) (w:=w) C X a
   exact⟨d,w,_,k,O,i,⟨w,.refl _,f,.inr ⟨rfl,rfl,rfl,.inl rfl⟩⟩,rfl,rfl,rfl,j⟩
 rintro _ _ d _ ⟨rfl,rfl,rfl,l⟩;refine iZ.next t l λr a=>?_
 refine .step (λk' O' g' g=>k=k'/\O.set b (.part (iA o))=O'/\g=1/\Next P n b o kind (λw=>∃v,w.cell? ⟨b,o,none⟩=some v) (c::rest) .le g') a.running.1 (λw f=>?_) ?_
 . obtain⟨d,w',i,j,y,z⟩:=LH (main:=true) (w:=w) C X (vQ f q) a
   obtain⟨A,B,D⟩:=QJ b o;obtain⟨E,H,I,J⟩:=LG f q j y A B;exact⟨d,w',_,k,_,i,⟨E,H,I,.inl J⟩,rfl,rfl,D 1,z⟩
 rintro _ _ d _ ⟨rfl,rfl,rfl,l⟩;refine iZ.next e l λr a=>?_
 refine .step (λk' O' g' g=>k=k'/\O.set b (.part (iA o))=O'/\g=0/\Next P n b o kind (λw=>∃v,w.cell? ⟨b,o,none⟩=some v) (c::rest) .la g') a.running.1 (λw f=>?_) ?_
 . obtain⟨d,i,j⟩:=GV (main:=true) (w:=w) C X (λw h=>h) a
   exact⟨d,w,_,k,_,i,⟨w,.refl _,f,.inr ⟨rfl,rfl,rfl,.inr rfl⟩⟩,rfl,rfl,rfl,j⟩
 rintro _ _ d _ ⟨rfl,rfl,rfl,l⟩;refine iZ.next e l λr a=>?_
 refine .step (λk' O' g' g=>k=k'/\O.set b (.part (iA o))=O'/\g=0/\Next P n b o kind (λw=>∃v,w.cell? ⟨b,o,none⟩=some v) (c::rest) .back g') a.running.1 (λw f=>?_) ?_
 . obtain⟨d,i,j⟩:=GU (main:=true) (w:=w) C X a
   exact⟨d,w,_,k,_,i,⟨w,.refl _,f,.inl (DQ f p (.inl rfl))⟩,rfl,rfl,rfl,j⟩
 rintro _ _ d _ ⟨rfl,rfl,rfl,l⟩;refine iZ.next e l λr a=>?_
 obtain⟨m,s⟩:=sW (Wd:=λw=>∃v,w.cell? ⟨b,o,none⟩=some v) F a u;exact iZ.zZ e s (.done x)
include C X in
theorem BS(F:rK P n){c:Frame}{rest:List Frame}(x:kind≠.early)(p:O b=some (.part (iA o)))(u:N k (O.set b (.part (bS o))) (kR kind c rest (.tuple #[]))):iZ P N k O (G (Frame.enter P n.unlock #[.pointer (some ⟨b,o,none⟩)] kind) (c::rest)) 0:=by
 rw[<-xZ]at u;have s:(O.set b (.part (fX o kZ))) b=some (.part (fX o kZ)):=by simp[ai.set]
 have r:=BR (k:=k) p;have l:=BR (k:=k) s;obtain⟨q,⟨m,t⟩,a⟩:=pe (P:=P) (n:=n) (b:=b) (o:=o) (kind:=kind) (Wd:=λw=>∃v,w.cell? ⟨b,o,none⟩=some v) (cs:=c::rest) F;refine iZ.zZ r t ?_;refine .step (λk' O' g' f=>k=k'/\O=O'/\f=0/\Next P n b o kind (λw=>∃v,w.cell? ⟨b,o,none⟩=some v) (c::rest) .ur g') a.running.1 (λw e=>?_) ?_
 . obtain⟨d,g,i⟩:=xA (main:=true) (w:=w) C X (λw h=>h) (vQ e p).cw a
   exact⟨d,w,_,k,O,g,⟨w,.refl _,e,.inl (.refl ..)⟩,rfl,rfl,rfl,i⟩
 rintro _ _ d _ ⟨rfl,rfl,rfl,j⟩;refine iZ.next r j λq a=>?_
 refine .step (λk' O' g' f=>k=k'/\O=O'/\f=0/\Next P n b o kind (λw=>∃v,w.cell? ⟨b,o,none⟩=some v) (c::rest) .ud g') a.running.1 (λw e=>?_) ?_
 . obtain⟨d,g,i⟩:=GR (main:=true) (w:=w) C X a
   exact⟨d,w,_,k,_,g,⟨w,.refl _,e,.inl (DQ e p (.inr rfl))⟩,rfl,rfl,rfl,i⟩
 rintro _ _ d _ ⟨rfl,rfl,rfl,j⟩;refine iZ.next r j λq a=>?_
 refine .step (λk' O' g' f=>k=k'/\O=O'/\f=1/\Next P n b o kind (λw=>∃v,w.cell? ⟨b,o,none⟩=some v) (c::rest) .held g') a.running.1 (λw e=>?_) ?_
 . obtain⟨d,g,i⟩:=GP (main:=true) (w:=w) C X a
   exact⟨d,w,_,k,_,g,⟨w,.refl _,e,.inr ⟨rfl,rfl,rfl,.inl rfl⟩⟩,rfl,rfl,rfl,i⟩
 rintro _ _ d _ ⟨rfl,rfl,rfl,j⟩;refine iZ.next r j λq a=>?_
 refine .step (λk' O' g' f=>k=k'/\O.set b (.part (fX o kZ))=O'/\f=1/\Next P n b o kind (λw=>∃v,w.cell? ⟨b,o,none⟩=some v) (c::rest) .ue g') a.running.1 (λw e=>?_) ?_
 . obtain⟨d,w',es,g,i,y,z,A,B,D⟩:=LI (main:=true) (w:=w) C X (vQ e p) a
   obtain⟨E,H,I,J⟩:=LG e p i y z A;exact⟨d,w',_,k,_,g,⟨E,H,I,.inl J⟩,rfl,rfl,B 1,D⟩
 rintro _ _ d _ ⟨rfl,rfl,rfl,j⟩;refine iZ.next l j λq a=>?_
 refine .step (λk' O' g' f=>k=k'/\O.set b (.part (fX o kZ))=O'/\f=0/\Next P n b o kind (λw=>∃v,w.cell? ⟨b,o,none⟩=some v) (c::rest) .Dh g') a.running.1 (λw e=>?_) ?_
 . obtain⟨d,g,i⟩:=GQ (main:=true) (w:=w) C X a
   exact⟨d,w,_,k,_,g,⟨w,.refl _,e,.inr ⟨rfl,rfl,rfl,.inr rfl⟩⟩,rfl,rfl,rfl,i⟩
 rintro _ _ d _ ⟨rfl,rfl,rfl,j⟩;refine iZ.next l j λq a=>?_
 obtain⟨m,t⟩:=pU (Wd:=λw=>∃v,w.cell? ⟨b,o,none⟩=some v) F a x;exact iZ.zZ l t (.done u)
theorem Rel.Hg{σ:aa}{f:Nat->Option Value}(a:Rel k O σ)(h:σ b=some (.part f)):O b=some (.part f):=by
 obtain⟨x,c,d⟩:=a.1 b _ h (by simp);cases d;exact c
def rQ(b o:Nat)(a:AV):Prop:=∀k v,V k v a->v=.pointer (some ⟨b,o,none⟩)
theorem Ap(b o:Nat)(l:List AV)(h:List Nat):rQ b o (.kp b l h o):=λk v a=>by cases a;rfl
theorem Vs.one{a:AV}{c:List Value}(h:Vs k c [a]):∃v,c=[v]/\V k v a:=by
 obtain⟨b,d⟩:=h
 match c with
 |[v]=>exact⟨v,rfl,d 0 v a rfl rfl⟩
 |[]=>simp at b
 |_::_::_=>simp at b
include C X in
theorem IB(F:rK P n){m:Mo}(j:m.solo=true){a:AV}(l:rQ b o a){σ:aa}{f:dV->aa->Prop}(d:σ b=some (.part (bS o)))(h:f (.val (.bG [])) (σ.set b (.part (iA o)))):aB P m n.lock [a] σ f:=by
 intro Q k O e c rest kind p q g r t;obtain⟨v,rfl,s⟩:=q.one;obtain rfl:=l _ _ s;refine .phase (λk' O' g'=>T P m Q k' O' g') j (λ_ _ _ h=>h) (iZ.phase (FJ C X F p (g.Hg d) ?_));exact r k _ (.tuple #[]) (.bG []) _ (.refl k) (.bG _ _ rfl λi v a h=>by simp at h) (g.set (.part _)) h
include C X in
theorem DR(F:rK P n){m:Mo}(j:m.solo=true){a:AV}(l:rQ b o a){σ:aa}{f:dV->aa->Prop}(d:σ b=some (.part (iA o)))(h:f (.val (.bG [])) (σ.set b (.part (bS o)))):aB P m n.unlock [a] σ f:=by
 intro Q k O e c rest kind p q g r t;obtain⟨v,rfl,s⟩:=q.one;obtain rfl:=l _ _ s;refine .phase (λk' O' g'=>T P m Q k' O' g') j (λ_ _ _ h=>h) (iZ.phase (BS C X F p (g.Hg d) ?_));exact r k _ (.tuple #[]) (.bG []) _ (.refl k) (.bG _ _ rfl λi v a h=>by simp at h) (g.set (.part _)) h
theorem Rel.del{σ:aa}(h:Rel k O σ)(r:Nat):Rel k (O.del r) (σ.del r):=⟨λb a e c=>by
 by_cases hb:b=r
 . subst hb;simp[aa.del]at e
 . simp only[aa.del,hb,if_false]at e
   obtain⟨x,d,f⟩:=h.1 b a e c;exact⟨x,by simp[ai.del,hb,d],f⟩,λb a e c=>by
 by_cases hb:b=r
 . subst hb;simp[aa.del]at e
 . simp only[aa.del,hb,if_false]at e
   obtain⟨d,f⟩:=h.2 b a e c;exact⟨by simp[ai.del,hb,d],f⟩⟩
theorem Rel.kg{σ:aa}(h:Rel k O σ)(r:Nat)(d:∃s,k.sh r=some s):Rel k (O.del r) (σ.set r .kg):=⟨λb a e c=>by
 by_cases hb:b=r
 . subst hb;simp[aa.set]at e;subst e;cases c
 . simp only[aa.set,hb,if_false]at e
   obtain⟨x,f,g⟩:=h.1 b a e c;exact⟨x,by simp[ai.del,hb,f],g⟩,λb a e c=>by
 by_cases hb:b=r
 . subst hb;simp[aa.set]at e;exact⟨by simp[ai.del],d,λl q=>by rw[<-e]at q;cases q⟩
 . simp only[aa.set,hb,if_false]at e
   obtain⟨f,g⟩:=h.2 b a e c;exact⟨by simp[ai.del,hb,f],g⟩⟩
theorem T.sat{m:Mo}{Q:ah->ai->Goroutine->Prop}(b:g.status=.running)(h:(∃w,Sat k O w)->T P m Q k O g):T P m Q k O g:=by
 by_cases a:∃w,Sat k O w
 . exact h a
 . exact .step (λ_ _ _=>False) b (λ_ _ _ h=>h.elim) λw c=>absurd ⟨w,c⟩ a
variable{A:eu}{j:Nat}
theorem IC{a:AV}(r:rQ A.fb A.fo a){σ:aa}{p:dV->aa->Prop}(d:σ A.fb=some .kg)(h:∀x,A.GI x->(∀y,σ A.mb=some y->y.gone=true)->p (.val (.bG [])) ((σ.set A.mb x).set A.fb (.part sX))):aB P (lC P A j) A.nm.lock [a] σ p:=by
 intro Q k O f c rest kind s t g u E;obtain⟨v,rfl,w⟩:=t.one;obtain rfl:=r _ _ w;obtain⟨B,⟨e,C⟩,_⟩:=g.2 _ _ d rfl;refine .dC (λk' O' g'=>T P (lC P A j) Q k' O' g') rfl (.inl ⟨kind,c,rest,e,s,rfl,B,C,λk' x y b l m n=>?_⟩) (λ_ _ _ h=>h);refine u k' _ (.tuple #[]) (.bG []) _ b (.bG _ _ rfl λi v a h=>by simp at h) (((g.mono b).set l).set (.part _)) (h y m λz D=>?_);cases o:z.gone with
 |true=>rfl
 |false=>obtain⟨F,q,_⟩:=g.1 _ z D o;rw[n]at q;cases q
theorem DT{a:AV}(p:rQ A.fb A.fo a){σ:aa}{n:dV->aa->Prop}{f:Nat->Option Value}{y:jB}(b:σ A.fb=some (.part f))(q:σ A.mb=some y)(r:A.GI y)(d:y.gone=false)(h:n (.val (.bG [])) ((σ.del A.mb).set A.fb .kg)):aB P (lC P A j) A.nm.unlock [a] σ n:=by
 intro Q k O e c rest kind s t g u D;obtain⟨v,rfl,z⟩:=t.one;obtain rfl:=p _ _ z;obtain⟨x,B,l⟩:=g.1 _ _ q d;have o:=g.Hg b;refine T.sat rfl λ⟨w,C⟩=>?_
 obtain⟨E,F,_,m,_⟩:=C.part _ _ o;refine .dC (λk' O' g'=>T P (lC P A j) Q k' O' g') rfl (.inr (.inl ⟨kind,c,rest,f,x,y,s,rfl,o,B,l,r,?_⟩)) (λ_ _ _ h=>h);exact u k _ (.tuple #[]) (.bG []) _ (.refl k) (.bG _ _ rfl λi v a h=>by simp at h) ((g.del A.mb).kg A.fb ⟨_,m⟩) h
end
end Go.bd
