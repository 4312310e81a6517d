import Derived.Test.YtkcceaplmgdnfaaGreatDoorC22
set_option linter.all false
namespace Go.bQ
open Go.Conc
open Go.ConcN (sumTo upd sumTo_upd upd_ne upd_same)
theorem xE{F:acs}:∀{n:Nat},(∀i,i<n->F i=0)->sumTo n F=0
 |0,_=>rfl
 |n+1,h=>by simp only[sumTo,xE (n:=n) λi a=>h i (by omega),h n (by omega)]
theorem Ii(n:Nat):Mu.Inv n (λ_=>.out) ⟨.zero,0⟩:=by
 have a:∀(F:Mu.Pc->Nat),F .out=0->Mu.fB n (λ_=>F .out)=0:=λF b=>by rw[b];exact Mu.Be n
 refine⟨⟨λi _=>trivial,?_,λ_=>⟨?_,?_,?_⟩,λh=>(by cases h),λ_ _ _ h=>absurd rfl h⟩,λh=>(by cases h),λi _ old sv h=>(by cases h)⟩
 . rw[a Mu.cd rfl];rfl
 . rw[a Mu.fI rfl,a Mu.cK rfl,a Mu.m5 rfl];rfl
 . rw[a Mu.dg rfl]
 . rw[a Mu.cJ rfl,a Mu.cK rfl];rfl
def MS.start(P:acD)(d:Bool)(n:Nat):MS P:=⟨d,.add n,0,λ_=>.idle,.none,⟨.zero,0⟩,0,0,0⟩
theorem Ij(P:acD)(d:Bool)(n:Nat):bO n (MS.start P d n):=by
 refine⟨?_,Nat.zero_le _,λh=>(by cases h),λj _ h=>(by rcases h with h|h<;>cases h),λi j _ _ h=>(by cases h),λj _ h=>(by cases h),⟨Nat.zero_le _,λh=>(by cases h)⟩,λh=>(by cases h),λh=>(by cases h),λh=>(by cases h),λk h=>(by cases h),λj _=>rfl,rfl,Nat.zero_le _,λj _=>⟨λ_=>Nat.zero_le _,λ_=>rfl⟩,⟨aaz _,rfl⟩,λ_ _ j _=>rfl,Ii n⟩;show 0=sumTo n (λ_=>0)+0;rw[xE λ_ _=>rfl]
structure gO where
 n:Nat
 dir:Bool
 cF:Nat
 fb:Nat
 fo:Nat
 gb:Nat
 mb:Nat
 GI:ga->Prop
 res:Nat->AV
 val:acj
 nm:yV
 ng:HV
 hn:n<=900
 d1:cF≠fb
 d2:cF≠gb
 d3:cF≠mb
 d4:fb≠gb
 d5:fb≠mb
 d6:gb≠mb
def gO.at(A:gO)(b:Nat)(hb:0<b):bJ:=⟨b,A.n,if A.dir then 0 else b+A.n,A.cF,A.fb,A.fo,A.gb,A.mb,A.GI,A.res,A.val,A.nm,A.ng,⟨hb,by split<;>simp⟩,A.hn,A.d1,A.d2,A.d3,A.d4,A.d5,A.d6⟩
theorem gO.xH(A:gO)(b:Nat)(hb:0<b):(A.at b hb).dir=A.dir:=by
 show((if A.dir=true then 0 else b+A.n)==0)=A.dir
 grind
def gO.rest(A:gO)(O:aj):aj:=λb=>if(A.dir=false/\b=A.cF)\/b=A.fb\/b=A.gb\/b=A.mb then none else O b
section
variable{P:acD}{Fin:abz}
theorem kR{w:World}{b i:Nat}{c:abY}{e:TypeId}(h:w.heap[b]?=some (.cells c e (0,0))):w.frozen? ⟨b,i,none⟩=false:=by simp[World.frozen?,h]
theorem mM{w:World}{b i:Nat}{c:abY}{e:TypeId}{v:Value}(h:w.heap[b]?=some (.cells c e (0,0)))(a:c[i]?=some v):w.cell? ⟨b,i,none⟩=some v:=by simp[World.cell?,h,a]
theorem Fa(A:gO)(C:gM P A.ng)(X:iD P A.ng)(CM:gn P A.nm)(XM:gq P A.nm)(F:mc P A.nm){k:ah}{O:aj}{g:aco}{cg:abY}{eg:TypeId}{x:Own}{a:ga}{lp:Nat->abV}
 (hF:A.dir=false->∃xF tm,O A.cF=some (.obj (.chan 0 #[] false xF xF tm))) (hG:O A.gb=some (.obj (.cells cg eg (0,0)))) (bm:cg[0]?=some (.int .u64 0)) (bw:cg[1]?=some (.int .u32 0)) (hL:O A.fb=some (.part lp)) (bx:lp A.fo=some (.int .i32 0)) (bA:lp (A.fo+1)=some (.int .u32 0)) (dr:A.dir=true->∀j,j<A.n->lp (A.fo+2+j)≠none) (bB:∀(n:Nat) (k:ah) (O:aj) (g gB:aco),jb P (λ_=>True) n g gB->Fin k O gB->Fin k O g)
 (hM:O A.mb=some x) (dx:kq k x a) (c5:A.GI a) (ht:∀b (hb:0<b),T P (oZ P (A.at b hb) Fin A.n) gN k (A.rest O) g):AJ P k O g Fin:=by
 intro W0 gs w sl t hS;have al:∀b x,O b=some x->W0.heap.size<=b:=by obtain⟨_,_,_,_,_,_,_,_,_,h⟩:=hS;exact h
 have hb:0<gs.size:=by
  obtain⟨_,_,h0,_⟩:=hS
  grind
 obtain⟨B,L⟩:∃B,B=A.at gs.size hb:=⟨_,rfl⟩;obtain⟨lk,dy⟩:∃lk,lk=gs.size+A.n+1:=⟨_,rfl⟩;obtain⟨Z0,z1,z2,z3,z4,h0,⟨q,b2⟩,c6,U,c7⟩:=cA.start hS lk ⟨A.fb,A.fo,none⟩ (by omega)
 have z:Sat k O w:=by have:=U.sat 0;rwa [ao,ao]at this
 obtain⟨tr⟩:=T.tree (Df (P:=P) (A:=B) (Fin:=Fin) A.n) (by rw[L];exact ht gs.size hb)
 have Y:(0:Nat)≠lk:=by omega
 have av:∀i,aS O A.gb i:=λi=>.inl ⟨_,hG⟩
 have ax:∀i,k.cell A.gb i=none:=λi=>by
  cases e:k.cell A.gb i with
  |none=>rfl
  |some v=>exact absurd (av i) (z.apart _ _ _ e)
 have M:∀i,(i=A.fo\/i=A.fo+1\/(A.dir=true/\∃j,j<A.n/\i=A.fo+2+j))->aS O A.fb i:=λi D=>.inr (.inr ⟨_,hL,by grind⟩)
 have ay:∀i,(i=A.fo\/i=A.fo+1\/(A.dir=true/\∃j,j<A.n/\i=A.fo+2+j))->k.cell A.fb i=none:=λi D=>by
  cases e:k.cell A.fb i with
  |none=>rfl
  |some v=>exact absurd (M i D) (z.apart _ _ _ e)
 have N:=z.obj _ _ hG;obtain⟨cl,el,V,_,b3⟩:=z.part _ _ hL
 have c9:∀b y,A.rest O b=some y->O b=some y/\(A.dir=false->b≠A.cF)/\b≠A.fb/\b≠A.gb/\b≠A.mb:=λb y h=>by
  unfold gO.rest at h
  simp_all
 obtain⟨J,aC⟩:∃J,J=bS (bS (λ_=>ah.bot) 0 k) lk k:=⟨_,rfl⟩
 obtain⟨E,aE⟩:∃E,E=bS (bS (λ_=>aj.bot) 0 (A.rest O)) lk (aj.bot.set A.mb x):=⟨_,rfl⟩
 have aL:J 0=k:=by rw[aC,au _ _ Y,ao]
 have b4:J lk=k:=by rw[aC,ao]
 have aO:∀i,i≠0->i≠lk->J i=ah.bot:=λi o h2=>by rw[aC,au _ _ h2,au _ _ o]
 have b5:E 0=A.rest O:=by rw[aE,au _ _ Y,ao]
 have b6:E lk=aj.bot.set A.mb x:=by rw[aE,ao]
 have ca:∀i,i≠0->i≠lk->E i=aj.bot:=λi o h2=>by rw[aE,au _ _ h2,au _ _ o]
 have H:∀i b y,E i b=some y->(i=0/\O b=some y/\(A.dir=false->b≠A.cF)/\b≠A.fb/\b≠A.gb/\b≠A.mb)\/(i=lk/\b=A.mb/\y=x):=λi b y h=>by
  by_cases R:i=0
  . subst R;rw[b5]at h;grind
  . by_cases S:i=lk
    . subst S
      rw[b6]at h
      by_cases eb:b=A.mb
      . subst eb;simp only[aj.set,if_true,kn]at h;grind
      . simp only[aj.set,if_neg eb]at h;cases h
    . rw[ca i R S]at h;cases h
 have e7:∀i b n v,(J i).cell b n=some v->k.cell b n=some v:=λi b n v h=>by
  by_cases R:i=0
  . grind
  . by_cases S:i=lk
    . grind
    . rw[aO i R S]at h;cases h
 have cb:cA Z0 J E (λ_=>False) (λ_=>False) w t:=by
  have h:=U.tR (u:=#[]) (w':=w) (kk':=J) (OO':=E) (J':=λ_=>False) (M':=λ_=>False) (λa b=>a=b\/(a=0/\b=lk)) rfl ⟨⟨.refl _,rfl⟩,λ_ _=>rfl⟩ (λb=>.inl rfl) (λop h=>by simp at h) (λi j e n y K hm hz hk=>?_) (λj b n v I=>?_) (λj b s I=>?_) (λj b y K=>?_) (λi j b y ea K=>?_)
   (λsaid=>by rw[qz];exact U.clean said) (λop Q=>by simp at Q) (λm op a Q=>by simp at Q) (λn a ha hm h=>?_)
  . grind
  . rw[qz]
    rcases e with rfl|⟨rfl,rfl⟩
    . exact hk
    . unfold HH
      rw[z2,if_pos rfl,z1];obtain⟨op,Q,_⟩:=touch_of K
      grind
  . by_cases R:j=0
    . subst R;rw[aL]at I;exact⟨0,.inl rfl,by rw[ao];exact I⟩
    . by_cases S:j=lk
      . subst S;rw[b4]at I;exact⟨0,.inr ⟨rfl,rfl⟩,by rw[ao];exact I⟩
      . rw[aO j R S]at I;cases I
  . by_cases R:j=0
    . subst R;rw[aL]at I;exact⟨0,.inl rfl,by rw[ao];exact I⟩
    . by_cases S:j=lk
      . subst S;rw[b4]at I;exact⟨0,.inr ⟨rfl,rfl⟩,by rw[ao];exact I⟩
      . rw[aO j R S]at I;cases I
  . rcases H j b y K with⟨rfl,o,_⟩|⟨rfl,rfl,rfl⟩
    . exact⟨0,.inl rfl,by rw[ao];exact o,λs hs=>by rw[ao]at hs;grind⟩
    . exact⟨0,.inr ⟨rfl,rfl⟩,by rw[ao];exact hM,λs hs=>by rw[ao]at hs;grind⟩
  . cases e:E j b with
    |none=>rfl
    | some y'=>
      rcases H i b y K with⟨rfl,_,_,_,_,h5⟩|⟨rfl,o,_⟩
      . grind
      grind
  grind
 have cm:A.gb<w.heap.size:=(Array.getElem?_eq_some_iff.1 N).1
 have f:∀i b,((A.dir=false/\b=A.cF)\/b=A.fb\/b=A.gb)->E i b=none:=λi b hb=>by
  cases e:E i b with
  |none=>rfl
  | some y=>
    rcases H i b y e with⟨_,_,o,h2,h3,_⟩|⟨_,o,_⟩
    . grind
    . rcases hb with⟨_,rfl⟩|rfl|rfl
      . exact absurd o A.d3
      . exact absurd o A.d5
      . exact absurd o A.d6
 have d:∀i b n,k.cell b n=none->(J i).cell b n=none:=λi b n h=>by
  cases e:(J i).cell b n with
  |none=>rfl
  |some v=>grind
 have hP:=cb.sA (λl=>∃c:Addr,l=.cell c/\c.spot=none/\c.block=A.gb/\(c.off=0\/c.off=1)) (λc ⟨c',e,_,o,_⟩=>by cases e;rw[o];exact⟨cm,λi=>⟨dT (f i _ (.inr (.inr rfl))),d i _ _ (ax _)⟩⟩) (λr ⟨c',e,_⟩=>by cases e)
 obtain⟨Z,hZ⟩:∃Z:Base,Z=⟨λl=>Z0.Shun l\/∃c:Addr,l=.cell c/\c.spot=none/\c.block=A.gb/\(c.off=0\/c.off=1),Z0.N0,Z0.lk,Z0.la,Z0.W0⟩:=⟨_,rfl⟩
 rw[<-hZ]at hP;have b0:Z.lk=lk:=by grind
 have ec:Z.N0=t.size:=by grind
 have b7:Z.W0=W0:=by grind
 have a7:B.b+B.n+1<=Z.lk:=by rw[b0,L];show gs.size+A.n+1<=lk;omega
 have W:∀m b,touchAt t m=some b->b.loc.isMemory=true->b.kind≠.atomic->Knows t 0 m:=λm b hb hm hk=>by grind
 have a8:∀l,yK B l->l.isMemory=true:=λl hl=>by cases l<;>first|rfl|exact hl.elim
 have a9:∀i,bT P B (MS.start P A.dir A.n) i↔i=0:=λi=>by
  constructor
  . rintro(h|⟨l,o,_⟩|⟨_,o⟩)
    . exact h
    . exact absurd o (Nat.not_lt_zero _)
    . exact absurd rfl o
  . exact λh=>.inl h
 have cv:w.cell? ⟨A.gb,0,none⟩=some (.int .u64 (ew (0:Nat) 0)):=by rw[show ew ((0:Nat):Int) 0=0 by simp[ew]];exact mM N bm
 have G:B.dir=A.dir:=by rw[L];exact A.xH _ _
 have dj:c8 P B Z (MS.start P A.dir A.n) J E (λ_=>False) (λ_=>False) gs.size w t:=by
  have dm:B.fo=A.fo/\B.fb=A.fb/\B.n=A.n:=by rw[L];exact⟨rfl,rfl,rfl⟩
  rw[L]at a9 a8 G dm ⊢
  refine⟨Ij P A.dir A.n,rfl,G.symm,⟨λ_ h=>absurd rfl h,λ_=>by simp[MS.start],λ_=>by simp[MS.start]⟩,λhd j hj=>⟨λ_=>⟨λi=>d i _ _ (ay _ (.inr (.inr ⟨G ▸ hd,j,hj,rfl⟩))),λm a ad ha _ _=>?_⟩,λh=>(by cases h)⟩,λhd=>?_,⟨mM V (b3 _ _ bx),mM V (b3 _ _ bA),λi=>kR V⟩,⟨cv,mM N bw,λi=>kR N⟩,⟨_,_,V⟩,⟨_,_,N⟩,λi=>⟨λhd=>f i _ (.inl ⟨G ▸ hd,rfl⟩),f i _ (.inr (.inr rfl))⟩,
   λi=>⟨d i _ _ (ay _ (.inl rfl)),d i _ _ (ay _ (.inr (.inl rfl))),d i _ _ (ax _),d i _ _ (ax _)⟩,λi y K=>?_,λj _ h=>(by cases h),λ_=>⟨x,a,?_,?_,c5⟩,λc hc=>⟨?_,λj _=>rfl⟩,λi=>⟨λh=>h.elim,?_⟩,λp hp=>hp.elim,λh=>(by cases h),λm b hb hs hk i D=>?_,λm b hb hs hk=>?_,λi D m b hm hb b8 hz=>?_,λm c hm h=>?_,λi o h2=>?_,λl hl h=>?_,λc hc h=>?_,by rw[b7];exact⟨λhd=>(by obtain⟨_,_,h⟩:=hF (G ▸ hd);exact al _ _ h),al _ _ hL,al _ _ hG⟩,?_,?_⟩
  . obtain⟨op,Q,_⟩:=touch_of ha
    grind
  . obtain⟨xF,tm,h⟩:=hF (G ▸ hd)
    exact⟨xF,tm,z.obj _ _ h⟩
  . have K:E i A.fb=some y:=K
    rw[f i A.fb (.inr (.inl rfl))]at K;cases K
  . show E Z.lk A.mb=some x
    rw[b0,b6];simp[aj.set]
  . grind
  . rw[b0]at hc
    cases e:E lk c with
    |none=>grind
    | some y=>
      rcases H lk c y e with⟨h,_⟩|⟨_,h,_⟩
      . omega
      . exact h
  . rintro(⟨j,_,_,h⟩|⟨_,h⟩)<;>cases h
  . grind
  . exact W m b hb (a8 _ hs) (by grind)
  . rw[(a9 i).1 D]
    rcases c7 m b hb b8 with h|⟨h,_⟩
    . exact h
    . exact absurd (by rw[hZ];exact .inl h) hz
  . have:=lt_of_act? h
    omega
  . grind
  . obtain⟨c,rfl,b9⟩:=h
    obtain⟨hs,hl⟩:=hl;rw[hZ];refine .inr ⟨c,rfl,hs,b9,?_⟩
    rcases hl with⟨o,_⟩|⟨_,h2⟩
    . exact absurd (b9.symm.trans o).symm A.d4
    . exact h2
  . rw[hZ]at h
    rcases h with h|⟨c',e,_,h,_⟩
    . have:=(U.lF c h).2 0
      rw[ao]at this;exact this.1 (by rw[hc.1];exact M _ (hc.2.imp id (·.imp id λh=>⟨G ▸ h.1,h.2⟩)))
    grind
  . grind
  omega
 have ed:B.b=gs.size:=by rw[L];rfl
 have b1:∀i,i≠0 -> ¬dA P B (MS.start P A.dir A.n) i/\¬gu P B (MS.start P A.dir A.n) i/\¬fq P B (MS.start P A.dir A.n) i:=λi D=>by
  refine⟨?_,?_,?_⟩
  . rintro(⟨h,_⟩|⟨_,_,_,h⟩|⟨_,h⟩)
    . exact D h
    . exact h
    . exact h
  . rintro(⟨h,_⟩|⟨_,_,_,h⟩|⟨_,h⟩)
    . exact D h
    . exact h
    . exact h
  . rintro(⟨h,_⟩|⟨_,_,_,h⟩)
    . exact D h
    . cases h
 have hC:bF (bY P B Fin Z a7) Z (MS.start P A.dir A.n) (λ_=>⟨_,_,_,_,tr⟩) q J E (λ_=>False) (λ_=>False) gs w t:=by
  refine⟨rfl,hP,λi hl=>?_,λi hw=>?_,λi hh=>?_,λi y K n1 n2 n3=>?_,b2.above,dj⟩
  . have D:i=0:=aaa λh=>(b1 i h).1 hl
    subst D;exact⟨by show 0<B.b+B.n+1;omega,h0,(by show oZ P B Fin A.n=ck P B Fin (MS.start P A.dir A.n) 0;rfl),aL.symm,b5.symm,tr.running,c6,.inl rfl,Dc⟩
  . have D:i=0:=aaa λh=>(b1 i h).2.1 hw
    subst D;exact absurd hw (zZ (s:=MS.start P A.dir A.n) (m:=A.n) rfl rfl)
  . have D:i=0:=aaa λh=>(b1 i h).2.2 hh
    subst D;exact absurd hh (mJ (by simp[MS.start]))
  . have D:i≠0:=λe=>n1 (by subst e;exact pP (s:=MS.start P A.dir A.n) (m:=A.n) rfl)
    exact⟨D,b2.old i y (by omega) K⟩
 rw[<-b7];exact Ln (by rw[L];exact C) (by rw[L];exact X) (by rw[L];exact CM) (by rw[L];exact XM) (by rw[L];exact F) bB a7 hC sl
end
theorem runNT_add{P:acD}:∀(a b:Nat) (m m1:Machine) (t c:Trace),runNT P a m t=(.next m1,c)->runNT P (a+b) m t=runNT P b m1 c
 | 0,b,m,m1,t,c,h=>by
   simp only[runNT,zG,Stepped.next.injEq]at h
   simp_all
 | a + 1,b,m,m1,t,c,h=>by
   have e:a+1+b=(a+b)+1:=by omega
   rw[e];simp only[runNT]at h ⊢;cases d:stepT P m with
   | mk r ops=>
     rw[d]at h;cases r with
     |next f=>simp only at h ⊢;exact runNT_add a b f m1 _ c h
     |ended o w=>simp at h
def xI(w w':World):Prop:=w.heap=w'.heap/\mn w.os w'.os/\w'.output=w.output
theorem xI.refl(w:World):xI w w:=⟨rfl,.refl _,rfl⟩
theorem cA.Fb{Z:Base}{kk:acy}{g:acx}{J M:ack}{w w':World}{t:Trace}(h:cA Z kk g J M w t)(d:xI w w'):cA Z kk g J M w' t:=by
 have e:=d.1.symm;have c:∀{k O},Sat k O w->Sat k O w':=λc=>⟨c.apart,λb i v x=>by rw[(qu e _).1];exact c.cell b i v x,λb s x=>by have:=c.sh b s x;simpa[World.shape?,e]using this,λb o x=>by rw[e];exact c.obj b o x,λb n x=>by rw[e];exact c.tail b n x,λb f x=>by rw[e];exact c.part b f x⟩
 exact⟨λi=>c (h.sat i),h.jl,h.nE,λi=>by rw[e];exact h.Bb i,h.clean,λop x=>by rw[e];exact h.seen op x,h.acc,h.n0,h.xc,λa x=>by rw[e];exact h.lF a x,λr x=>by rw[e];exact h.oW r x,h.yS.step d.2.1 d.2.2 (by simp_all) (λb _=>by rw[e]),h.mine⟩
structure eh(P:acD)(d:Nat)(k:ah)(O:aj)(g:aco)(gs:abH)(w:World)(t:Trace)(Z:Base)(q:acs):Prop where
 lk:0≠Z.lk
 g0:gs[0]?=some g
 lv:Leavers P t gs q
 df:Deaf t 0=d
 cO:cA Z (bS (λ_=>ah.bot) 0 k) (bS (λ_=>aj.bot) 0 O) (λ_=>False) (λ_=>False) w t
def Qe(P:acD)(k:ah)(O:aj)(g:aco)(d:Nat)(N:abx):Prop:=∀w,Sat k O w->∃g' w' es k' O',stepG P true g w=.go g' w' es/\(∃a:World,xI a w'/\Sat k' O' a/\(Eff k O w k' O' a es.toList\/(a=w/\k'=k/\O'=O/\(es=#[⟨.mark .disable,false,true⟩]\/es=#[⟨.mark .enable,false,true⟩]))))/\N k' O' g' (deafBehind d es)
section
variable{P:acD}{k k':ah}{O O':aj}{g g':aco}{gs:abH}{w w':World}{t:Trace}{Z:Base}{q:acs}{d:Nat}
theorem dM.V6{W0:World}(h:dM P W0 k O g gs w t):∃Z q,Z.W0=W0/\eh P 0 k O g gs w t Z q:=by
 obtain⟨Z,_,e,_,a,b,⟨q,c⟩,hd,d,_⟩:=cA.start h 1 ⟨0,0,none⟩ (by decide);exact⟨Z,q,a,by omega,b,c,hd,d⟩
theorem eh.back(h:eh P 0 k O g gs w t Z q):dM P Z.W0 k O g gs w t:=by have:=h.cO.finish (P:=P) h.g0 h.lv h.df;rw[ao,ao]at this;exact this
theorem eh.at(h:eh P d k O g gs w t Z q)(x:Nat):eh P d k O g gs (w.at x) t Z q:=⟨h.lk,h.g0,h.lv,h.df,h.cO.at x⟩
theorem eh.Fb(h:eh P d k O g gs w t Z q)(e:xI w w'):eh P d k O g gs w' t Z q:=⟨h.lk,h.g0,h.lv,h.df,h.cO.Fb e⟩
theorem eh.sat(h:eh P d k O g gs w t Z q):Sat k O w:=by have:=h.cO.sat 0;rwa [ao,ao]at this
theorem z7{α:Type}(f:Nat->α)(i:Nat)(x y:α):bS (bS f i x) i y=bS f i y:=by
 funext j;by_cases e:j=i
 . subst e;rw[ao,ao]
 . rw[au _ _ e,au _ _ e,au _ _ e]
theorem eh.own(h:eh P d k O g gs w t Z q){es:aca}{fn:FuncId}{pos:String}(z:Sat k' O' w')(l:Eff k O w k' O' w' es.toList\/(w'=w/\k'=k/\O'=O/\(es=#[⟨.mark .disable,false,true⟩]\/es=#[⟨.mark .enable,false,true⟩]))):
 eh P (deafBehind d es) k' O' g' (gs.setIfInBounds 0 g') w' (t++MemOp.ofEvents 0 fn pos es) Z q:=by
 have p:=(Array.getElem?_eq_some_iff.1 h.g0).1;have f:∀op∈MemOp.ofEvents 0 fn pos es,op.g=0:=λop c=>by obtain⟨e,_,rfl⟩:=Go.Conc.mem_ofEvents c;rfl
 refine⟨h.lk,zH p,⟨λi x A s=>?_,λj u=>?_⟩,by rw[Deaf_own,h.df],?_⟩
 . rw[LK (by omega)]at s
   rw[Deaf_other t (by omega) _ f];exact h.lv.old i x A s
 . rw[aac]at u
   rw[Deaf_other t (by omega) _ f];exact h.lv.above j u
 . rcases l with l|⟨rfl,rfl,rfl,l⟩
   . have:=h.cO.own (i:=0) h.lk (.inl rfl) (k':=k') (O':=O') (fn:=fn) (pos:=pos) (by rw[ao,ao];exact l) z
     rwa [z7,z7]at this
   . have o:∀op∈MemOp.ofEvents 0 fn pos es,op.act.touch?=none/\op.act.low w'.heap.size:=λop c=>by
      obtain⟨e,r,rfl⟩:=Go.Conc.mem_ofEvents c
      rcases l with rfl|rfl<;>simp at r<;>subst r<;>exact⟨rfl,trivial⟩
     exact h.cO.tR (λa b=>a=b) rfl ⟨⟨.refl _,rfl⟩,λ_ _=>rfl⟩ (λb=>.inl rfl) (λop c=>(o op c).2) (λa b e n x _ _ _ B=>by subst e;exact B.app _) (λj b n v h=>⟨j,rfl,h⟩) (λj b n h=>⟨j,rfl,h⟩) (λj b x h=>⟨j,rfl,h,λ_ h=>h⟩) h.cO.jl
      (λsaid=>noRace_appendMute (h.cO.clean said) λop c=>(o op c).1) (λop c a y=>by simp_all) (λm op a c y=>by grind) (λn a y r h=>h.elim (λ⟨_,h,_⟩=>h.elim) (λ⟨_,h,_⟩=>h.elim))
theorem zd(c:Leavers P t gs q){a a' x:aco}{w':World}:(gs.map (woken P a a' w')).setIfInBounds 0 x=gs.setIfInBounds 0 x:=by
 apply abi;intro j;by_cases b:0=j
 . grind
 . rw[LK b,LK b,aaq]
   cases d:gs[j]? with
   |none=>rfl
   |some y=>simp only[ZR,kn];exact woken_quitsD (c.old j y (by omega) d)
theorem z8{N:abx}(p:g.status=.running)(F:Qe P k O g d N):
 ∀ (n:Nat) (gs:abH) (w:World) (sl:abC) (t:Trace) (q:acs),sumTo gs.size q=n->eh P d k O g gs w t Z q ->
   ∃M gs' w' l Q q' k' O' g' d',runNT P M (crowd gs w sl) t=(.next (crowd gs' w' l),Q)/\eh P d' k' O' g' gs' w' Q Z q'/\N k' O' g' d':=by
 intro n
 induction n using Nat.strongRecOn with
 |ind n ih=>
 intro gs w sl t q hn o
 have T:∀x∈gs,awake x:=by
  intro x hx;obtain⟨i,D,rfl⟩:=Array.mem_iff_getElem.1 hx
  rcases Nat.eq_zero_or_pos i with rfl|r
  . have:gs[0]=g:=by simpa[ZJ D]using o.g0
    rw[this];exact awake_of (.inl p)
  . exact awake_of ((o.lv.old i _ r (ZJ D)).status.elim .inl λx=>.inr (.inr x))
 obtain⟨i,x,B,l,D,hg,H⟩:=crowd_pick (P:=P) (w:=w) (sl:=sl) T ⟨0,g,o.g0,p⟩;have U:=(Array.getElem?_eq_some_iff.1 D).1;have s:=o.at B
 rcases Nat.eq_zero_or_pos i with rfl|r
 . obtain rfl:x=g:=by rw[o.g0]at D;grind
   obtain⟨g',w',es,k',O',s1,⟨w2,s0,s2,s3⟩,s4⟩:=F (w.at B) s.sat;have c:=runT_crowd_go (P:=P) (sl:=l) (i:=0) D (show stepG P (0==0) x (w.at B)=_ from s1)
   rw[zd o.lv]at c;exact⟨1,_,w',l,_,q,k',O',g',_,by simp only[runNT,H,c],(s.own (fn:=x.frame.fn) (pos:=x.frame.place) s2 s3).Fb s0,s4⟩
 . have R :=o.lv.old i x r D
   have V:(i==0)=false:=by simp;omega
   cases G:q i with
   |zero=>rw[G]at R;rw[R.1]at hg;cases hg
   | succ E=>
     rw[G]at R
     rcases R with⟨hf,_⟩|⟨_,g',es,W,I,X⟩
     . grind
     have c:=runT_crowd_go (P:=P) (sl:=l) (i:=i) D (by rw[V];exact I (w.at B))
     have ad:sumTo gs.size (upd q i E)+(E+1)=sumTo gs.size q+E:=by have:=sumTo_upd q E id U;simpa[G]using this
     have A:∀op∈MemOp.ofEvents i x.frame.fn x.frame.place es,op.g=i:=λop f=>by obtain⟨e,_,rfl⟩:=Go.Conc.mem_ofEvents f;rfl
     have Y:∀op∈MemOp.ofEvents i x.frame.fn x.frame.place es,op.act.touch?=none:=λop f=>by obtain⟨e,he,rfl⟩:=Go.Conc.mem_ofEvents f;exact touch_mute (W e he)
     have J:∀op∈MemOp.ofEvents i x.frame.fn x.frame.place es,op.act.low (w.at B).heap.size:=λop f=>by obtain⟨e,he,rfl⟩:=Go.Conc.mem_ofEvents f;exact low_mute (W e he) _
     have hP:=s.cO.tR (w':=w.at B) (kk':=bS (λ_=>ah.bot) 0 k) (OO':=bS (λ_=>aj.bot) 0 O) (J':=λ_=>False) (M':=λ_=>False) (u:=MemOp.ofEvents i x.frame.fn x.frame.place es) (λa b=>a=b) rfl ⟨⟨.refl _,rfl⟩,λ_ _=>rfl⟩ (λb=>.inl rfl) J (λa b e n y _ _ _ h=>by subst e;exact h.app _) (λj b n v h=>⟨j,rfl,h⟩) (λj b n h=>⟨j,rfl,h⟩) (λj b x h=>⟨j,rfl,h,λ_ h=>h⟩) s.cO.jl
      (λsaid=>noRace_appendMute (s.cO.clean said) Y) (λop f a ha=>by grind) (λm op a f ha=>by grind) (λn a ha W h=>h.elim (λ⟨_,h,_⟩=>h.elim) (λ⟨_,h,_⟩=>h.elim))
     have a7:eh P d k O g ((gs.map (woken P x g' (w.at B))).setIfInBounds i g') (w.at B) (t++MemOp.ofEvents i x.frame.fn x.frame.place es) Z (upd q i E):=by
      refine⟨o.lk,?_,⟨λj y hj S=>?_,λj hj=>?_⟩,?_,hP⟩
      . rw[LK (by omega),aaq,o.g0]
        simp[woken_run p]
      . by_cases C:i=j
        . subst C
          rw[zH (by grind)]at S
          obtain rfl:=ZM S;rw[upd_same,Deaf_own];exact X
        . rw[LK C,aaq]at S
          obtain⟨z,hz,rfl⟩:=Option.map_eq_some_iff.1 S;have K:=o.lv.old j z hj hz;rw[woken_quitsD K,upd_ne q E (za C),Deaf_other t C _ A];exact K
      . rw[Deaf_other t (g':=i) (by grind) _ A]
        exact o.lv.above j (by grind)
      . rw[Deaf_other t (by omega) _ A];exact o.df
     obtain⟨M,gs',a8,L,Q,q',k',O',a9,d',e1,e2,e3⟩:=ih (sumTo gs.size (upd q i E)) (by omega) _ (w.at B) l _ (upd q i E) (by simp) a7
     exact⟨M+1,gs',a8,L,Q,q',k',O',a9,d',by simp only[runNT,H,c];exact e1,e2,e3⟩
inductive iH(P:acD)(N:abz):abx
 |done {k:ah}{O:aj}{g:aco}:N k O g->iH P N k O g 0
 |step {k:ah}{O:aj}{g:aco}{d:Nat}(N':abx):g.status=.running->Qe P k O g d N'->(∀k' O' g' d',N' k' O' g' d'->iH P N k' O' g' d')->iH P N k O g d
theorem Lp{N:abz}(h:iH P N k O g d):∀(gs:abH) (w:World) (sl:abC) (t:Trace) (q:acs),eh P d k O g gs w t Z q ->
 ∃M gs' w' a j k' O' g',runNT P M (crowd gs w sl) t=(.next (crowd gs' w' a),j)/\dM P Z.W0 k' O' g' gs' w' j/\N k' O' g':=by
 induction h with
 |done h=>exact λgs w sl t q b=>⟨0,gs,w,sl,t,_,_,_,rfl,b.back,h⟩
 |step F l m _ n=>intro gs w sl t q b;obtain⟨o,c,p,e,r,s,G,H,I,J,u,v,x⟩:=z8 l m _ gs w sl t q rfl b;obtain⟨M2,f,y,i,z,A,B,C,f1,D,E⟩:=n _ _ _ _ x c p e r s v;exact⟨o+M2,f,y,i,z,A,B,C,by rw[runNT_add _ _ _ _ _ _ u];exact f1,D,E⟩
theorem iH.phase{N:abz}(h:iH P N k O g 0):AJ P k O g N:=λW0 gs w sl t a=>by obtain⟨Z,q,rfl,b⟩:=a.V6;exact Lp h gs w sl t q b
theorem dM.ghost{W0:World}(h:dM P W0 k O g gs w t){k':ah}{O':aj}(b:kH k O k' O'):dM P W0 k' O' g gs w t:=by
 obtain⟨Z,q,rfl,a⟩:=h.V6;obtain⟨c,d⟩:=b w a.sat;have:=a.own (g':=g) (es:=#[]) (fn:=0) (pos:=  "") c (.inl d)
 have e:t++MemOp.ofEvents 0 0  "" #[]=t:=by rw[ofEvents_eq];simp
 have f:gs.setIfInBounds 0 g=gs:=by
  apply abi;intro j;by_cases i:0=j
  . subst i
    rw[zH (Array.getElem?_eq_some_iff.1 a.g0).1,a.g0]
  simp_all
 rw[e,f]at this;exact this.back
theorem Lq{m:Mo}(H:m.main=true)(I:∀k O g N,¬m.de k O g N){Q:abz}(h:T P m Q k O g):
 ∀ (W0:World) (gs:abH) (w:World) (sl:abC) (t:Trace),dM P W0 k O g gs w t ->
   ∃M gs' w' n E k' O' g',runNT P M (crowd gs w sl) t=(.next (crowd gs' w' n),E)/\dM P W0 k' O' g' gs' w' E/\Q k' O' g':=by
 induction h with
 |stop h=>exact λW0 gs w sl t a=>⟨0,gs,w,sl,t,_,_,_,rfl,a,h⟩
 | step N i _ l j=>
   intro W0 gs w sl t a;rw[H]at l;obtain⟨Z,q,rfl,J⟩:=a.V6
   obtain⟨o,b,p,c,r,q1,K,L,R,d1,s,u,rfl,v⟩:=z8 (N:=λk' O' g' S=>S=0/\N k' O' g') i (λw U=>by
    obtain⟨g',w',es,k',O',V,F,W,X⟩:=l w U;refine⟨g',w',es,k',O',V,⟨w',.refl _,W,.inl F⟩,?_,X⟩;have G:=cj (t:=#[]) (xf (λe Y=>F.evs e Y) 0 0  "") 0
    rw[Deaf_own]at G;exact G) _ gs w sl t q rfl J
   obtain⟨M2,d,x,f,y,z,A,B,f1,C,D⟩:=j _ _ _ v _ b p c r u.back;exact⟨o+M2,d,x,f,y,z,A,B,by rw[runNT_add _ _ _ _ _ _ s];exact f1,C,D⟩
 |ghost i _ j=>exact λW0 gs w sl t a=>j W0 gs w sl t (a.ghost i)
 |phase N i _ l j=>intro W0 gs w sl t a;obtain⟨o,b,p,c,r,K,L,R,s,u,v⟩:=l W0 gs w sl t a;obtain⟨M2,d,x,f,y,z,A,B,f1,C,D⟩:=j _ _ _ v W0 b p c r u;exact⟨o+M2,d,x,f,y,z,A,B,by rw[runNT_add _ _ _ _ _ _ s];exact f1,C,D⟩
 |de N h0 i _ _=>simp_all
end
def iW(fo:Nat)(s:Mu.Sh):Nat->abV:=λi=>if i=fo then some (.int .i32 (enc s.w.L s.w.K s.w.S s.w.N))else if i=fo+1 then some (.int .u32 s.ms)else none
def gh:Mu.Sh:=⟨.zero,0⟩
def dV:Mu.Sh:=⟨{Mu.Wd.zero with L:=true},0⟩
theorem xJ(fo:Nat):iW fo gh=bH fo:=by
 funext i;simp[iW,bH,gh,enc,Mu.Wd.zero]
def xK(fo:Nat):Nat->abV:=iW fo dV
section
variable{P:acD}{k:ah}{O:aj}{b o:Nat}{w w':World}{s s':Mu.Sh}
theorem O5(f:Sat k O w)(g:O b=some (.part (iW o s))):ShM b o w s:=by
 obtain⟨c,e,a,h,d⟩:=f.part _ _ g;refine⟨?_,?_,λi=>?_⟩
 . exact mM a (d o _ (by simp[iW]))
 . exact mM a (d (o+1) _ (by simp[iW]))
 . exact kR a
theorem heap_set{w:World}{b i:Nat}{v:Value}{c:abY}{e:TypeId}{z:Nat × Nat}(h:w.heap[b]?=some (.cells c e z)):(w.setCell ⟨b,i,none⟩ v).heap[b]?=some (.cells (c.setIfInBounds i v) e z):=by have a:=(Array.getElem?_eq_some_iff.1 h).1;simp[World.setCell,ZX,h]
theorem vi{w:World}{b i d:Nat}{v:Value}(h:d≠b):(w.setCell ⟨b,i,none⟩ v).heap[d]?=w.heap[d]?:=by simp[World.setCell,ZX,za h]
theorem Q8{es:aca}(u:Sat k O w)(M:O b=some (.part (iW o s)))(G:MW b o w w')(H:ShM b o w' s')(I:EvM b o es)(a7:∀e∈es,∀m,e.loc≠.mark m):
 ∃R:World,xI R w'/\Sat k (O.set b (.part (iW o s'))) R/\Eff k O w k (O.set b (.part (iW o s'))) R es.toList:=by
 obtain⟨c,e,D,h2,h3⟩:=u.part _ _ M;have a8:=(Array.getElem?_eq_some_iff.1 D).1
 have key:∃x,w'.heap[b]?=some (.cells x e (0,0))/\x.size=c.size/\(∀i,i≠o->i≠o+1->x[i]?=c[i]?)/\(∀d,d≠b->w'.heap[d]?=w.heap[d]?)/\w'.heap.size=w.heap.size:=by
  rcases G.2 with T|⟨i,v,p,P,T⟩
  . simp_all
  . refine⟨c.setIfInBounds i v,by rw[T];exact heap_set D,by simp,λj hj a9=>?_,λd hd=>by rw[T];exact vi hd,by simp_all⟩
    grind
 obtain⟨x,B,U,k3,E,k5⟩:=key;have ad:x[o]?=some (.int .i32 (enc s'.w.L s'.w.K s'.w.S s'.w.N)):=by have:=H.cw;simpa[World.cell?,B]using this
 have al:x[o+1]?=some (.int .u32 s'.ms):=by have:=H.cs;simpa[World.cell?,B]using this
 have A:∀i,(i=o\/i=o+1)->aS O b i:=λi p=>.inr (.inr ⟨_,M,by rcases p with rfl|rfl<;>simp[iW]⟩)
 have l:∀d y,(O.set b (.part (iW o s'))) d=some y->(d=b/\y=.part (iW o s'))\/(d≠b/\O d=some y):=λd y h=>by
  by_cases hd:d=b
  . subst hd;simp[aj.set]at h;simp_all
  . simp[aj.set,hd]at h;simp_all
 have r:∀i v,k.cell b i=some v->i≠o/\i≠o+1:=λi v t=>⟨λe=>u.apart _ _ _ t (A i (.inl e)),λe=>u.apart _ _ _ t (A i (.inr e))⟩
 refine⟨{w with heap:=w'.heap},⟨rfl,G.1⟩,⟨λd i v t Y=>?_,λd i v t=>?_,λd z V=>?_,λd y C=>?_,λd n C=>?_,λd f C=>?_⟩,⟨.refl k,?_,λd hd Q=>?_,λd n hd Q c2 e2 W=>?_,λd f hd Q c2 e2 W=>?_,λd hd=>?_,λd y C=>?_,λd i v t=>.inl t,λd z V=>.inl V,λX J=>?_,rfl,rfl,rfl,λX J=>?_,λd f P=>?_⟩⟩
 . by_cases hd:d=b
   . subst hd
     obtain⟨Z,n2⟩:=r i v t;rcases Y with⟨_,q⟩|⟨_,q,_⟩|⟨f,q,P⟩
     . grind
     . grind
     . simp[aj.set]at q;subst q
       simp[iW,Z,n2]at P
   . exact u.apart d i v t (by simpa[aS,aj.set,hd]using Y)
 . have F:=u.cell d i v t
   by_cases hd:d=b
   . subst hd
     obtain⟨Z,n2⟩:=r i v t;simp only[World.cell?,D,B]at F ⊢
     simp_all
   . simpa[World.cell?,E d hd]using F
 . have F:=u.sh d z V
   by_cases hd:d=b
   . subst hd
     simp only[World.shape?,D,B,U]at F ⊢;exact F
   . simpa[World.shape?,E d hd]using F
 . rcases l d _ C with⟨_,q⟩|⟨hd,g⟩
   . cases q
   . rw[show({w with heap:=w'.heap}:World).heap[d]?=w.heap[d]? from E d hd];exact u.obj d y g
 . rcases l d _ C with⟨_,q⟩|⟨hd,g⟩
   . cases q
   . rw[show({w with heap:=w'.heap}:World).heap[d]?=w.heap[d]? from E d hd];exact u.tail d n g
 . rcases l d _ C with⟨rfl,q⟩|⟨hd,g⟩
   . cases q
     refine⟨x,e,B,by simp_all,λi v p=>?_⟩;unfold iW at p
     grind
   . rw[show({w with heap:=w'.heap}:World).heap[d]?=w.heap[d]? from E d hd];exact u.part d f g
 . simp_all
 . grind
 . grind
 . by_cases a:d=b
   . subst a
     rw[M]at Q;cases Q;rw[D]at W;cases W;exact⟨x,B,U,λi p=>k3 i (λq=>by subst q;simp[iW]at p) (λq=>by subst q;simp[iW]at p)⟩
   grind
 . by_cases a:d=b
   . subst a
     simp only[World.shape?,D,B,U]
   . simp[World.shape?,E d a]
 . rcases l d _ C with⟨rfl,rfl⟩|⟨a,g⟩
   . refine .inl ⟨_,M,λi p=>?_⟩
     unfold iW at p ⊢
     grind
   . exact .inl ⟨y,g,.refl y⟩
 . rcases I X (by simp_all)with q|⟨i,p,q,_⟩
   . simp_all
   . simp only[iY,q];grind
 . rcases I X (by simp_all)with q|⟨i,p,q,_⟩
   . simp_all
   . simp only[iT,q];omega
 . by_cases a:d=b
   . subst a;exact⟨iW o s',by simp[aj.set]⟩
   . exact⟨f,by simp[aj.set,a,P]⟩
theorem aj.set_set(O:aj)(b:Nat)(x y:Own):(O.set b x).set b y=O.set b y:=by funext d;by_cases h:d=b<;>simp[aj.set,h]
theorem aj.ak(O:aj)(b:Nat)(x:Own):(O.set b x) b=some x:=by simp[aj.set]
theorem aj.BD{O:aj}{b:Nat}{x:Own}(h:O b=some x):O.set b x=O:=by
 funext d;by_cases e:d=b
 . subst e;simp[aj.set,h]
 . simp[aj.set,e]
structure Lk(k:ah)(b o:Nat)(f:Mu.Sh->aj):Prop where
 sat:∀{s w},Sat k (f s) w->ShM b o w s
 Vj:∀{s s' w w' es},Sat k (f s) w->MW b o w w'->ShM b o w' s'->EvM b o es->(∀e∈es,∀m,e.loc≠.mark m)->∃w2:World,xI w2 w'/\Sat k (f s') w2/\Eff k (f s) w k (f s') w2 es.toList
 has:∀s,∃x,f s b=some x
theorem Lk.part(O:aj):Lk k b o λs=>O.set b (.part (iW o s)) where
 sat h:=O5 h (aj.ak O b _)
 Vj a c d e f:=by
  have:=Q8 a (aj.ak O b _) c d e f
  rwa [aj.set_set]at this
 has s:=⟨_,aj.ak O b _⟩
def lP(c:abY)(o:Nat)(s:Mu.Sh):abY:=(c.setIfInBounds o (.int .i32 (enc s.w.L s.w.K s.w.S s.w.N))).setIfInBounds (o+1) (.int .u32 s.ms)
theorem lg{c:abY}{i:Nat}(a:i≠o)(b:i≠o+1):(lP c o s)[i]?=c[i]?:=by
 unfold lP
 grind
theorem sV{c:abY}(h:o+1<c.size):(lP c o s)[o]?=some (.int .i32 (enc s.w.L s.w.K s.w.S s.w.N)):=by
 unfold lP
 grind
theorem sW{c:abY}(h:o+1<c.size):(lP c o s)[o+1]?=some (.int .u32 s.ms):=by
 unfold lP
 simp_all
theorem lQ{c:abY}:(lP c o s).size=c.size:=by simp[lP]
theorem Lk.obj(O:aj){c:abY}{e:TypeId}(hc:o+1<c.size):Lk k b o λs=>O.set b (.obj (.cells (lP c o s) e (0,0))) where
 sat h:=by have a:=h.obj b _ (aj.ak O b _);exact⟨mM a (sV hc),mM a (sW hc),λi=>kR a⟩
 Vj {s s' w w' es} hs t u A Q:=by
  have a:=hs.obj b _ (aj.ak O b _);have R:=(Array.getElem?_eq_some_iff.1 a).1;have D:(O.set b (.obj (.cells (lP c o s) e (0,0)))) b=some (.obj (.cells (lP c o s) e (0,0))):=by simp[aj.set]
  have T:∀d x,d≠b->(O.set b x) d=O d:=λd x h=>by simp[aj.set,h]
  have key:w'.heap[b]?=some (.cells (lP c o s') e (0,0))/\(∀d,d≠b->w'.heap[d]?=w.heap[d]?)/\w'.heap.size=w.heap.size:=by
   have key:∃p,w'.heap[b]?=some (.cells p e (0,0))/\p.size=c.size/\(∀i,i≠o->i≠o+1->p[i]?=c[i]?)/\(∀d,d≠b->w'.heap[d]?=w.heap[d]?)/\w'.heap.size=w.heap.size:=by
    rcases t.2 with r|⟨i,v,M,hf,r⟩
    . exact⟨_,by rw[r];exact a,lQ,λ_ U V=>lg U V,λd _=>by rw[r],by rw[r]⟩
    . refine⟨_,by rw[r];exact heap_set a,by rw[aac,lQ],λj W E=>?_,λd hd=>by rw[r];exact vi hd,by simp_all⟩
      rw[LK (by omega)];exact lg W E
   obtain⟨p,k1,Z,X,l,P⟩:=key;refine⟨?_,l,P⟩;rw[k1];have F:p[o]?=some (.int .i32 (enc s'.w.L s'.w.K s'.w.S s'.w.N)):=by have:=u.cw;simpa[World.cell?,k1]using this
   have G:p[o+1]?=some (.int .u32 s'.ms):=by have:=u.cs;simpa[World.cell?,k1]using this
   have:p=lP c o s':=by
    apply abi;intro i;by_cases e1:i=o
    . subst e1;rw[F,sV hc]
    . by_cases e2:i=o+1
      . subst e2;rw[G,sW hc]
      . rw[X i e1 e2,lg e1 e2]
   rw[this]
  obtain⟨k1,l,P⟩:=key
  have B:∀d i x y,aS (O.set b (.obj x)) d i->aS (O.set b (.obj y)) d i:=λd i x y hc=>by
   by_cases hd:d=b
   . subst hd;exact .inl ⟨y,by simp[aj.set]⟩
   . simpa[aS,aj.set,hd]using hc
  have H:∀d i v,k.cell d i=some v->d≠b:=λd i v m e=>hs.apart _ _ _ m (by subst e;exact .inl ⟨_,D⟩)
  refine⟨{w with heap:=w'.heap},⟨rfl,t.1⟩,⟨λd i v m hc=>hs.apart d i v m (B _ _ _ _ hc),λd i v m=>?_,λd z I=>?_,λd y hy=>?_,λd n hy=>?_,λd f hy=>?_⟩,⟨.refl k,?_,λd hd hn=>?_,λd n hd hn c2 e2 Y=>?_,λd f hd hn c2 e2 Y=>?_,λd hd=>?_,λd y hy=>?_,λd i v m=>.inl m,λd z I=>.inl I,λJ C=>?_,rfl,rfl,rfl,λJ C=>?_,λd f hf=>?_⟩⟩
  . have h0:=hs.cell d i v m
    simpa[World.cell?,l d (H d i v m)]using h0
  . have h0:=hs.sh d z I
    by_cases hd:d=b
    . subst hd
      simp only[World.shape?,a,k1,lQ]at h0 ⊢;exact h0
    . simpa[World.shape?,l d hd]using h0
  . by_cases hd:d=b
    . subst hd
      simp only[aj.set,if_true,kn,Own.obj.injEq]at hy
      simp_all
    . rw[show({w with heap:=w'.heap}:World).heap[d]?=w.heap[d]? from l d hd]
      exact hs.obj d y (by simp_all)
  . have hd:d≠b:=λq=>by subst q;simp[aj.set]at hy
    rw[show({w with heap:=w'.heap}:World).heap[d]?=w.heap[d]? from l d hd];exact hs.tail d n (by simp_all)
  . have hd:d≠b:=λq=>by subst q;simp[aj.set]at hy
    rw[show({w with heap:=w'.heap}:World).heap[d]?=w.heap[d]? from l d hd];exact hs.part d f (by simp_all)
  . simp_all
  . grind
  . grind
  . grind
  . by_cases g:d=b
    . subst g
      simp only[World.shape?,a,k1,lQ]
    . simp[World.shape?,l d g]
  . by_cases g:d=b
    . subst g;exact .inl ⟨_,D,trivial⟩
    . exact .inl ⟨y,by simp_all,.refl y⟩
  . rcases A J (by simp_all)with q|⟨i,M,q,_⟩
    . simp_all
    . simp only[iY,q];exact .inl (.inl ⟨_,D⟩)
  . rcases A J (by simp_all)with q|⟨i,M,q,_⟩
    . simp_all
    . simp only[iT,q];omega
  grind
 has s:=⟨_,aj.ak O b _⟩
variable{n:yV}(C:gn P n)(X:gq P n){kind:acv}{Wd:abZ}{cs:acb}{g:aco}{main:Bool}
def T6(b o:Nat):aca:=#[⟨.cell ⟨b,o,none⟩,false,true⟩,⟨.cell ⟨b,o,none⟩,true,true⟩]
theorem Q9(b o:Nat):EvM b o (T6 b o)/\(∀e∈T6 b o,∀m,e.loc≠.mark m)/\∀d,deafBehind d (T6 b o)=d:=by
 refine⟨kA (.inl rfl),λe a m h=>?_,λd=>rfl⟩;simp[T6]at a
 grind
include C X in
theorem Lr(a:ShM b o w gh)(h:nT P n b o kind .iq cs g):∃e w',stepG P main g w=.go e w' (T6 b o)/\MW b o w w'/\ShM b o w' dV/\Next P n b o kind Wd cs .le e:=by
 obtain⟨c,y,fr,j,rfl,k,f,d,rfl⟩:=h;have l:(tZ P n b o kind).1.kind≠.early:=by simp[tZ,mD]
 have i:=a.cw;rw[show enc gh.w.L gh.w.K gh.w.S gh.w.N=0 from rfl]at i;exact⟨_,_,hQ f (C.o2 b o kind) l X.ko (v:=0) (n:=1) (λx h=>h) (λx h=>h) i (a.fz o),vE rfl,a.aT {Mu.Wd.zero with L:=true},nxt (C.e2 _ b o kind) k f d rfl (.inl rfl)⟩
include C X in
theorem Ls(i:ShM b o w dV)(h:nT P n b o kind .held cs g):∃r w' es,stepG P main g w=.go r w' es/\MW b o w w'/\ShM b o w' gh/\EvM b o es/\(∀e∈es,∀m,e.loc≠.mark m)/\(∀d,deafBehind d es=d)/\Next P n b o kind Wd cs .ue r:=by
 obtain⟨c,y,fr,j,rfl,u,s,k,rfl⟩:=h;have l:({y with N:=0}:Sy).ok:=⟨⟨by simp,by simp⟩,u.2⟩;have p:=s.re (y':={y with N:=0}) (.inr rfl) (.inl rfl) (.inl rfl) (.inl rfl);have a:=k.gL (y':={y with N:=0}) (by simpa[rK,oX]using(C.p3 b o kind).1);have f:=pH (main:=main) (cs:=j++cs) (w:=w) s (C.VH b o kind) (by simp[rK,oX]) X.add (λx h=>h) i.cw (i.fz _);have e:IntKind.i32.wrap (enc dV.w.L dV.w.K dV.w.S dV.w.N+-1)=enc false false false 0:=by decide
 rw[e]at f;have q:=i.aT Mu.Wd.zero;have v:SR {y with N:=0} (.word false false false 0) (.int .i32 (enc false false false 0)):=qv rfl;have key:=C.u5 (Fl.of {y with N:=0}) b o kind true false (by rfl);exact⟨_,_,_,f,vE rfl,q,kA (.inl rfl),(λe t m h=>(by simp at t;rcases t with rfl|rfl<;>cases h)),(λd=>rfl),nxt (y:={y with N:=0}) key l p a v rfl⟩
theorem iH.zK{N:abz}{Wd:abZ}{a:aco}{d:Nat}(i:∀w,Sat k O w->Wd w){m:Nat}:∀{g:aco},jb P Wd m g a->iH P N k O a d->iH P N k O g d:=by
 induction m with
 |zero=>intro g h b;obtain rfl:g=a:=h;exact b
 | succ m l=>
   intro g h b;obtain⟨c,e,n⟩:=h;refine .step (λk' O' g' j=>k=k'/\O=O'/\c=g'/\d=j) e.1 (λw f=>⟨c,w,#[],k,O,e.2 true w (i w f),⟨w,.refl _,f,.inl (.refl ..)⟩,rfl,rfl,rfl,rfl⟩) ?_
   grind
theorem iH.next{N:abz}{p:sE}{c:aco}{d:Nat}(e:∀w,Sat k O w->Wd w)(h:Next P n b o kind Wd cs p c)(f:∀a,nT P n b o kind p cs a->iH P N k O a d):iH P N k O c d:=by obtain⟨_,a,⟨m,g⟩,i⟩:=h;exact iH.zK e g (f a i)
variable{N:abz}
theorem Dh{e:Event}(g:Sat k O w){x:Own}(h:O b=some x)(f:e.loc=.mark (.acquire ⟨b,o,none⟩)\/e.loc=.mark (.releaseMerge ⟨b,o,none⟩)):Eff k O w k O w [e]:=by
 have a:=Eff.refl k O w;have d:=g.tH h;refine⟨a.le,a.size,a.keep,a.tail,a.part,a.shape,a.own,a.cell,a.sh,λx c=>?_,rfl,rfl,rfl,λx c=>?_,a.tok⟩
 . rw[lb]at c;subst c
   rcases f with q|q<;>simp[iY,q,jT]
 . rw[lb]at c;subst c
   rcases f with q|q<;>simp only[iT,q]<;>exact d
theorem Lk.wd{f:Mu.Sh->aj}(L:Lk k b o f)(s:Mu.Sh):∀w,Sat k (f s) w->∃v,w.cell? ⟨b,o,none⟩=some v:=λw a=>⟨_,(L.sat a).cw⟩
include C X in
theorem xL(F:mc P n){c:Frame}{rest:acb}(u:kind≠.early){f:Mu.Sh->aj}(L:Lk k b o f)(x:N k (f dV) (jW kind c rest (.tuple #[]))):iH P N k (f gh) (G (Frame.enter P n.lock #[.pointer (some ⟨b,o,none⟩)] kind) (c::rest)) 0:=by
 have t:=L.wd gh;have e:=L.wd dV;obtain⟨_,r⟩:=L.has dV;obtain⟨q,⟨m,s⟩,a⟩:=q8 (P:=P) (n:=n) (b:=b) (o:=o) (kind:=kind) (Wd:=λw=>∃v,w.cell? ⟨b,o,none⟩=some v) (cs:=c::rest) F;refine iH.zK t s ?_;refine .step (λk' O' g' i=>k=k'/\f gh=O'/\i=1/\Next P n b o kind (λw=>∃v,w.cell? ⟨b,o,none⟩=some v) (c::rest) .iq g') a.running.1 (λw g=>?_) ?_
 . obtain⟨d,j,l⟩:=Bj (main:=true) (w:=w) C X a
   exact⟨d,w,_,k,f gh,j,⟨w,.refl _,g,.inr ⟨rfl,rfl,rfl,.inl rfl⟩⟩,rfl,rfl,rfl,l⟩
 rintro _ _ d _ ⟨rfl,rfl,rfl,p⟩;refine iH.next t p λq a=>?_
 refine .step (λk' O' g' i=>k=k'/\f dV=O'/\i=1/\Next P n b o kind (λw=>∃v,w.cell? ⟨b,o,none⟩=some v) (c::rest) .le g') a.running.1 (λw g=>?_) ?_
 . obtain⟨d,w',j,l,y,z⟩:=Lr (main:=true) (w:=w) C X (L.sat g) a
   obtain⟨A,B,D⟩:=Q9 b o;obtain⟨E,H,I,J⟩:=L.Vj g l y A B;exact⟨d,w',_,k,_,j,⟨E,H,I,.inl J⟩,rfl,rfl,D 1,z⟩
 rintro _ _ d _ ⟨rfl,rfl,rfl,p⟩;refine iH.next e p λq a=>?_
 refine .step (λk' O' g' i=>k=k'/\f dV=O'/\i=0/\Next P n b o kind (λw=>∃v,w.cell? ⟨b,o,none⟩=some v) (c::rest) .la g') a.running.1 (λw g=>?_) ?_
 . obtain⟨d,j,l⟩:=GD (main:=true) (w:=w) C X (λw h=>h) a
   exact⟨d,w,_,k,_,j,⟨w,.refl _,g,.inr ⟨rfl,rfl,rfl,.inr rfl⟩⟩,rfl,rfl,rfl,l⟩
 rintro _ _ d _ ⟨rfl,rfl,rfl,p⟩;refine iH.next e p λq a=>?_
 refine .step (λk' O' g' i=>k=k'/\f dV=O'/\i=0/\Next P n b o kind (λw=>∃v,w.cell? ⟨b,o,none⟩=some v) (c::rest) .back g') a.running.1 (λw g=>?_) ?_
 . obtain⟨d,j,l⟩:=GC (main:=true) (w:=w) C X a
   exact⟨d,w,_,k,_,j,⟨w,.refl _,g,.inl (Dh g r (.inl rfl))⟩,rfl,rfl,rfl,l⟩
 rintro _ _ d _ ⟨rfl,rfl,rfl,p⟩;refine iH.next e p λq a=>?_
 obtain⟨m,s⟩:=sI (Wd:=λw=>∃v,w.cell? ⟨b,o,none⟩=some v) F a u;exact iH.zK e s (.done x)
include C X in
theorem sX(F:mc P n){c:Frame}{rest:acb}(t:kind≠.early){f:Mu.Sh->aj}(L:Lk k b o f)(u:N k (f gh) (jW kind c rest (.tuple #[]))):iH P N k (f dV) (G (Frame.enter P n.unlock #[.pointer (some ⟨b,o,none⟩)] kind) (c::rest)) 0:=by
 have r:=L.wd dV;have p:=L.wd gh;obtain⟨_,x⟩:=L.has dV;obtain⟨q,⟨m,s⟩,a⟩:=oY (P:=P) (n:=n) (b:=b) (o:=o) (kind:=kind) (Wd:=λw=>∃v,w.cell? ⟨b,o,none⟩=some v) (cs:=c::rest) F;refine iH.zK r s ?_;refine .step (λk' O' g' g=>k=k'/\f dV=O'/\g=0/\Next P n b o kind (λw=>∃v,w.cell? ⟨b,o,none⟩=some v) (c::rest) .ur g') a.running.1 (λw e=>?_) ?_
 . obtain⟨d,i,j⟩:=xk (main:=true) (w:=w) C X (λw h=>h) (L.sat e).cw a
   exact⟨d,w,_,k,f dV,i,⟨w,.refl _,e,.inl (.refl ..)⟩,rfl,rfl,rfl,j⟩
 rintro _ _ d _ ⟨rfl,rfl,rfl,l⟩;refine iH.next r l λq a=>?_
 refine .step (λk' O' g' g=>k=k'/\f dV=O'/\g=0/\Next P n b o kind (λw=>∃v,w.cell? ⟨b,o,none⟩=some v) (c::rest) .ud g') a.running.1 (λw e=>?_) ?_
 . obtain⟨d,i,j⟩:=GB (main:=true) (w:=w) C X a
   exact⟨d,w,_,k,_,i,⟨w,.refl _,e,.inl (Dh e x (.inr rfl))⟩,rfl,rfl,rfl,j⟩
 rintro _ _ d _ ⟨rfl,rfl,rfl,l⟩;refine iH.next r l λq a=>?_
 refine .step (λk' O' g' g=>k=k'/\f dV=O'/\g=1/\Next P n b o kind (λw=>∃v,w.cell? ⟨b,o,none⟩=some v) (c::rest) .held g') a.running.1 (λw e=>?_) ?_
 . obtain⟨d,i,j⟩:=GA (main:=true) (w:=w) C X a
   exact⟨d,w,_,k,_,i,⟨w,.refl _,e,.inr ⟨rfl,rfl,rfl,.inl rfl⟩⟩,rfl,rfl,rfl,j⟩
 rintro _ _ d _ ⟨rfl,rfl,rfl,l⟩;refine iH.next r l λq a=>?_
 refine .step (λk' O' g' g=>k=k'/\f gh=O'/\g=1/\Next P n b o kind (λw=>∃v,w.cell? ⟨b,o,none⟩=some v) (c::rest) .ue g') a.running.1 (λw e=>?_) ?_
 . obtain⟨d,w',es,i,j,y,z,A,B,D⟩:=Ls (main:=true) (w:=w) C X (L.sat e) a
   obtain⟨E,H,I,J⟩:=L.Vj e j y z A;exact⟨d,w',_,k,_,i,⟨E,H,I,.inl J⟩,rfl,rfl,B 1,D⟩
 rintro _ _ d _ ⟨rfl,rfl,rfl,l⟩;refine iH.next p l λq a=>?_
 refine .step (λk' O' g' g=>k=k'/\f gh=O'/\g=0/\Next P n b o kind (λw=>∃v,w.cell? ⟨b,o,none⟩=some v) (c::rest) .CO g') a.running.1 (λw e=>?_) ?_
 . obtain⟨d,i,j⟩:=Bl (main:=true) (w:=w) C X a
   exact⟨d,w,_,k,_,i,⟨w,.refl _,e,.inr ⟨rfl,rfl,rfl,.inr rfl⟩⟩,rfl,rfl,rfl,j⟩
 rintro _ _ d _ ⟨rfl,rfl,rfl,l⟩;refine iH.next p l λq a=>?_
 obtain⟨m,s⟩:=lL (Wd:=λw=>∃v,w.cell? ⟨b,o,none⟩=some v) F a t;exact iH.zK p s (.done u)
theorem Rel.z9{σ:aa}{f:Nat->abV}(a:Rel k O σ)(h:σ b=some (.part f)):O b=some (.part f):=by
 obtain⟨x,c,d⟩:=a.1 b _ h (by simp);cases d;exact c
def jv(b o:Nat)(a:AV):Prop:=∀k v,V k v a->v=.pointer (some ⟨b,o,none⟩)
theorem qA(b o:Nat)(l:acw)(h:acr):jv b o (.kp b l h o):=λk v a=>by cases a;rfl
theorem oA(b o:Nat):jv b o (.ref b o):=λk v a=>by cases a;rfl
theorem Vs.one{a:AV}{c:acg}(h:Vs k c [a]):∃v,c=[v]/\V k v a:=by
 obtain⟨b,d⟩:=h
 match c with
 |[v]=>exact⟨v,rfl,d 0 v a rfl rfl⟩
 |[]=>simp at b
 |_::_::_=>simp at b
include C X in
theorem Ik(F:mc P n){m:Mo}(j:m.solo=true){a:AV}(l:jv b o a){σ:aa}{f:abT}(d:σ b=some (.part (bH o)))(h:f (.val (.cB [])) (σ.set b (.part (xK o)))):aA P m n.lock [a] σ f:=by
 intro Q k O e c rest kind p q g r t;obtain⟨v,rfl,s⟩:=q.one;obtain rfl:=l _ _ s;refine .phase (λk' O' g'=>T P m Q k' O' g') j (λ_ _ _ h=>h) (iH.phase ?_);have L:=Lk.part (k:=k) (b:=b) (o:=o) O;have:=xL (P:=P) (N:=λk' O' g'=>T P m Q k' O' g') C X F p L (c:=c) (rest:=rest) ?_
 . simp only[xJ]at this
   rwa [aj.BD (g.z9 d)]at this
 exact r k _ (.tuple #[]) (.cB []) _ (.refl k) (.cB _ _ rfl λi v a h=>by simp at h) (g.set (.part _)) h
include C X in
theorem Di(F:mc P n){m:Mo}(l:m.solo=true){a:AV}(p:jv b o a){σ:aa}{g:abT}(d:σ b=some (.part (xK o)))(h:g (.val (.cB [])) (σ.set b (.part (bH o)))):aA P m n.unlock [a] σ g:=by
 intro Q k O f c rest kind q r j s u;obtain⟨v,rfl,t⟩:=r.one;obtain rfl:=p _ _ t;refine .phase (λk' O' g'=>T P m Q k' O' g') l (λ_ _ _ h=>h) (iH.phase ?_);have L:=Lk.part (k:=k) (b:=b) (o:=o) O;have:=sX (P:=P) (N:=λk' O' g'=>T P m Q k' O' g') C X F q L (c:=c) (rest:=rest) ?_
 . have e:O.set b (.part (iW o dV))=O:=aj.BD (j.z9 d)
   simp only[e]at this;exact this
 simp only[xJ];exact s k _ (.tuple #[]) (.cB []) _ (.refl k) (.cB _ _ rfl λi v a h=>by simp at h) (j.set (.part _)) h
theorem Rel.vW{σ:aa}{l:acw}(d:Rel k O σ)(h:σ b=some (.cells l)):∃c e,O b=some (.obj (.cells c e (0,0)))/\c.size=l.length/\(∀(i:Nat) v a,c[i]?=some v->l[i]?=some a->V k v a)/\∀(i:Nat) v,c[i]?=some v->flat v=true:=by
 obtain⟨x,g,f⟩:=d.1 b _ h (by simp);cases f with
 |cells c e l j m n=>grind
theorem Aa{c:abY}{l:acw}{e:TypeId}(n:c.size=l.length)(p:∀(i:Nat) v a,c[i]?=some v->l[i]?=some a->V k v a)(q:∀(i:Nat) v,c[i]?=some v->flat v=true)(m:l[o+1]?=some (.lit (.int .u32 0)))(j:s.ms=0):kq k (.obj (.cells (lP c o s) e (0,0))) (.cells (l.set o (.lit (.int .i32 (enc s.w.L s.w.K s.w.S s.w.N))))):=by
 have d:o+1<c.size:=by grind
 refine .cells _ _ _ (by rw[lQ];simp_all) (λi v a b g=>?_) (λi v b=>?_)
 . by_cases f:i=o
   . subst f
     rw[sV d]at b;rw[aap (by omega)]at g;cases b;cases g;exact .lit _
   . rw[aak (za f)]at g
     by_cases h:i=o+1
     . subst h
       rw[sW d,j]at b;rw[m]at g;cases b;cases g;exact .lit _
     . rw[lg f h]at b
       grind
 . by_cases f:i=o
   . subst f
     rw[sV d]at b;cases b;rfl
   . by_cases h:i=o+1
     . subst h
       rw[sW d]at b;cases b;rfl
     . rw[lg f h]at b
       grind
theorem xN{c:abY}{l:acw}{n:Int}(p:c.size=l.length)(e:∀(i:Nat) v a,c[i]?=some v->l[i]?=some a->V k v a)(h:l[o]?=some (.lit (.int .i32 n)))(j:n=enc s.w.L s.w.K s.w.S s.w.N)(m:l[o+1]?=some (.lit (.int .u32 0)))(d:s.ms=0):lP c o s=c:=by
 have b:o+1<c.size:=by grind
 apply abi;intro i;by_cases f:i=o
 . subst f
   rw[sV b,<-j,ZJ (by omega)];have:=e i c[i] _ (ZJ (by omega)) h;generalize c[i]=u at this;cases this;rfl
 . by_cases g:i=o+1
   . subst g
     rw[sW b,d,ZJ b];have:=e _ _ _ (ZJ b) m;generalize c[o+1]=u at this;cases this;rfl
   . rw[lg f g]
include C X in
theorem Fc(F:mc P n){m:Mo}(u:m.solo=true){a:AV}(w:jv b o a){σ:aa}{q:abT}{l:acw}(d:σ b=some (.cells l))(x:l[o]?=some (.lit (.int .i32 0)))(f:l[o+1]?=some (.lit (.int .u32 0)))(h:q (.val (.cB [])) (σ.set b (.cells (l.set o (.lit (.int .i32 1)))))):aA P m n.lock [a] σ q:=by
 intro Q k O g c rest kind y z r A I;obtain⟨v,rfl,B⟩:=z.one;obtain rfl:=w _ _ B;obtain⟨D,E,G,j,t,H⟩:=r.vW d;refine .phase (λk' O' g'=>T P m Q k' O' g') u (λ_ _ _ h=>h) (iH.phase ?_)
 have p:o+1<D.size:=by rw[j];exact(List.getElem?_eq_some_iff.1 f).1
 have L:=Lk.obj (k:=k) (b:=b) (o:=o) O (e:=E) p;have:=xL (P:=P) (N:=λk' O' g'=>T P m Q k' O' g') C X F y L (c:=c) (rest:=rest) ?_
 . simp only[xN (s:=gh) j t x rfl f rfl]at this
   rwa [aj.BD G]at this
 exact A k _ (.tuple #[]) (.cB []) _ (.refl k) (.cB _ _ rfl λi v a h=>by simp at h) (r.set (Aa (s:=dV) j t H f rfl)) h
include C X in
theorem BE(F:mc P n){m:Mo}(u:m.solo=true){a:AV}(w:jv b o a){σ:aa}{q:abT}{l:acw}(d:σ b=some (.cells l))(x:l[o]?=some (.lit (.int .i32 1)))(f:l[o+1]?=some (.lit (.int .u32 0)))(h:q (.val (.cB [])) (σ.set b (.cells (l.set o (.lit (.int .i32 0)))))):aA P m n.unlock [a] σ q:=by
 intro Q k O g c rest kind y z r A I;obtain⟨v,rfl,B⟩:=z.one;obtain rfl:=w _ _ B;obtain⟨D,E,G,j,t,H⟩:=r.vW d;refine .phase (λk' O' g'=>T P m Q k' O' g') u (λ_ _ _ h=>h) (iH.phase ?_)
 have p:o+1<D.size:=by rw[j];exact(List.getElem?_eq_some_iff.1 f).1
 have L:=Lk.obj (k:=k) (b:=b) (o:=o) O (e:=E) p;have:=sX (P:=P) (N:=λk' O' g'=>T P m Q k' O' g') C X F y L (c:=c) (rest:=rest) ?_
 . simp only[xN (s:=dV) j t x rfl f rfl]at this
   rwa [aj.BD G]at this
 exact A k _ (.tuple #[]) (.cB []) _ (.refl k) (.cB _ _ rfl λi v a h=>by simp at h) (r.set (Aa (s:=gh) j t H f rfl)) h
theorem Rel.del{σ:aa}(h:Rel k O σ)(r:Nat):Rel k (O.del r) (σ.del r):=⟨λb a e c=>by
 by_cases hb:b=r
 . subst hb;simp[aa.del]at e
 . simp only[aa.del,hb,if_false]at e
   obtain⟨x,d,f⟩:=h.1 b a e c;exact⟨x,by simp[aj.del,hb,d],f⟩,λb a e c=>by
 by_cases hb:b=r
 . subst hb;simp[aa.del]at e
 . simp only[aa.del,hb,if_false]at e
   obtain⟨d,f⟩:=h.2 b a e c;exact⟨by simp[aj.del,hb,d],f⟩⟩
theorem Rel.gX{σ:aa}(h:Rel k O σ)(r:Nat)(d:∃s,k.sh r=some s):Rel k (O.del r) (σ.set r .gX):=⟨λb a e c=>by
 by_cases hb:b=r
 . subst hb;simp[aa.set]at e;subst e;cases c
 . simp only[aa.set,hb,if_false]at e
   obtain⟨x,f,g⟩:=h.1 b a e c;exact⟨x,by simp[aj.del,hb,f],g⟩,λb a e c=>by
 by_cases hb:b=r
 . subst hb;simp[aa.set]at e;exact⟨by simp[aj.del],d,λl q=>by simp_all⟩
 . simp only[aa.set,hb,if_false]at e
   obtain⟨f,g⟩:=h.2 b a e c;exact⟨by simp[aj.del,hb,f],g⟩⟩
theorem T.sat{m:Mo}{Q:abz}(b:g.status=.running)(h:(∃w,Sat k O w)->T P m Q k O g):T P m Q k O g:=by
 by_cases a:∃w,Sat k O w
 . exact h a
 . exact .step (λ_ _ _=>False) b (λ_ _ _ h=>h.elim) λw c=>absurd ⟨w,c⟩ a
variable{A:bJ}{j:Nat}
theorem Il(hd:A.dir=false){a:AV}(r:jv A.fb A.fo a){σ:aa}{p:abT}(d:σ A.fb=some .gX)(h:∀x,A.GI x->(∀y,σ A.mb=some y->y.gone=true)->p (.val (.cB [])) ((σ.set A.mb x).set A.fb (.part KT))):aA P (iu P A j) A.nm.lock [a] σ p:=by
 intro Q k O g c rest kind s t l u G;obtain⟨v,rfl,w⟩:=t.one;obtain rfl:=r _ _ w;obtain⟨B,⟨e,C⟩,_⟩:=l.2 _ _ d rfl;refine .de (λk' O' g'=>T P (iu P A j) Q k' O' g') rfl (.inl ⟨kind,c,rest,e,s,rfl,B,C,λq=>by simp_all,λk' x y f b m n D E=>?_⟩) (λ_ _ _ h=>h);rw[show f=KT by simpa[bJ.Tk,hd]using E];refine u k' _ (.tuple #[]) (.cB []) _ b (.cB _ _ rfl λi v a h=>by simp at h) (((l.mono b).set m).set (.part _)) (h y n λz F=>?_);cases o:z.gone with
 |true=>rfl
 | false=>
   obtain⟨H,I,_⟩:=l.1 _ z F o
   simp_all
theorem Dj(hd:A.dir=false){a:AV}(p:jv A.fb A.fo a){σ:aa}{n:abT}{f:Nat->abV}{y:ga}(b:σ A.fb=some (.part f))(r:σ A.mb=some y)(s:A.GI y)(d:y.gone=false)(h:n (.val (.cB [])) ((σ.del A.mb).set A.fb .gX)):aA P (iu P A j) A.nm.unlock [a] σ n:=by
 intro Q k O e c rest kind t u g z E;obtain⟨v,rfl,B⟩:=u.one;obtain rfl:=p _ _ B;obtain⟨x,C,l⟩:=g.1 _ _ r d;have o:=g.z9 b;refine T.sat rfl λ⟨w,D⟩=>?_
 obtain⟨F,G,_,m,_⟩:=D.part _ _ o;refine .de (λk' O' g'=>T P (iu P A j) Q k' O' g') rfl (.inr (.inl ⟨kind,c,rest,f,x,y,t,rfl,o,C,l,s,λq=>by simp_all,?_⟩)) (λ_ _ _ h=>h);rw[show Eu P A (λk' O' g'=>T P (iu P A j) Q k' O' g')=λk' O' g'=>T P (iu P A j) Q k' O' g' by simp[Eu,hd]];exact z k _ (.tuple #[]) (.cB []) _ (.refl k) (.cB _ _ rfl λi v a h=>by simp at h) ((g.del A.mb).gX A.fb ⟨_,m⟩) h
end
