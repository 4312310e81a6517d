import Derived.Test.YtkcceaplmgdnfaaGreatDoorC13
set_option linter.all false
namespace Go.cG
section
open Go.Conc
open Go.ConcN (sumTo upd sumTo_upd upd_ne upd_same)
def yi{F:adI}:∀{n:Nat},(∀i,i<n->F i=0)->sumTo n F=0
 |0,_=>rfl
 |n+1,h=>by simp only[sumTo,yi (n:=n) λi a=>h i (by omega),h n (by omega)]
def I7(n:Nat):Mu.Inv n (λ_=>.out) ⟨.zero,0⟩:=by
 have a:∀(F:Mu.Pc->Nat),F .out=0->Mu.fF n (λ_=>F .out)=0:=λF b=>by rw[b];exact Mu.BI n
 refine⟨⟨λi _=>trivial,?_,λ_=>⟨?_,?_,?_⟩,λh=>(by cases h),λ_ _ _ h=>absurd rfl h⟩,λh=>(by cases h),λi _ old sv h=>(by cases h)⟩
 . rw[a Mu.bZ rfl];rfl
 . rw[a Mu.fM rfl,a Mu.cI rfl,a Mu.nv rfl];rfl
 . rw[a Mu.di rfl]
 . rw[a Mu.cH rfl,a Mu.cI rfl];rfl
def MS.start(P:adS)(d:Bool)(n:Nat):MS P:=⟨d,.add n,0,λ_=>.idle,.none,⟨.zero,0⟩,0,0,0⟩
def I8(P:adS)(d:Bool)(n:Nat):bO n (MS.start P d n):=by
 refine⟨?_,Nat.zero_le _,λh=>(by cases h),λj _ h=>(by rcases h with h|h<;>cases h),λi j _ _ h=>(by cases h),λj _ h=>(by cases h),⟨Nat.zero_le _,λh=>(by cases h)⟩,λh=>(by cases h),λh=>(by cases h),λh=>(by cases h),λk h=>(by cases h),λj _=>rfl,rfl,Nat.zero_le _,λj _=>⟨λ_=>Nat.zero_le _,λ_=>rfl⟩,⟨abL _,rfl⟩,λ_ _ j _=>rfl,I7 n⟩;show 0=sumTo n (λ_=>0)+0;rw[yi λ_ _=>rfl]
structure gW where
 n:Nat
 dir:Bool
 cF:Nat
 fb:Nat
 fo:Nat
 gb:Nat
 mb:Nat
 GI:gn->Prop
 res:Nat->AV
 val:adA
 nm:zv
 ng:IL
 hn:n<=900
 d1:cF≠fb
 d2:cF≠gb
 d3:cF≠mb
 d4:fb≠gb
 d5:fb≠mb
 d6:gb≠mb
def gW.at(A:gW)(b:Nat)(hb:0<b):bH:=⟨b,A.n,if A.dir then 0 else b+A.n,A.cF,A.fb,A.fo,A.gb,A.mb,A.GI,A.res,A.val,A.nm,A.ng,⟨hb,by split<;>simp⟩,A.hn,A.d1,A.d2,A.d3,A.d4,A.d5,A.d6⟩
def gW.yj(A:gW)(b:Nat)(hb:0<b):(A.at b hb).dir=A.dir:=by
 show((if A.dir=true then 0 else b+A.n)==0)=A.dir
 grind
def gW.rest(A:gW)(O:ak):ak:=λb=>if(A.dir=false/\b=A.cF)\/b=A.fb\/b=A.gb\/b=A.mb then none else O b
section
variable{P:adS}{Fin:acP}
def lq{w:World}{b i:Nat}{c:adq}{e:TypeId}(h:w.heap[b]?=some (.cells c e (0,0))):w.frozen? ⟨b,i,none⟩=false:=by simp[World.frozen?,h]
def mZ{w:World}{b i:Nat}{c:adq}{e:TypeId}{v:Value}(h:w.heap[b]?=some (.cells c e (0,0)))(a:c[i]?=some v):w.cell? ⟨b,i,none⟩=some v:=by simp[World.cell?,h,a]
def F0(A:gW)(C:gT P A.ng)(X:iN P A.ng)(CM:gF P A.nm)(XM:gJ P A.nm)(F:mI P A.nm){k:aj}{O:ak}{g:adF}{cg:adq}{eg:TypeId}{x:Own}{a:gn}{lp:Nat->adn}
 (hF:A.dir=false->∃xF tm,O A.cF=some (.obj (.chan 0 #[] false xF xF tm))) (hG:O A.gb=some (.obj (.cells cg eg (0,0)))) (b9:cg[0]?=some (.int .u64 0)) (bm:cg[1]?=some (.int .u32 0)) (hL:O A.fb=some (.part lp)) (bw:lp A.fo=some (.int .i32 0)) (bA:lp (A.fo+1)=some (.int .u32 0)) (dm:A.dir=true->∀j,j<A.n->lp (A.fo+2+j)≠none) (bB:∀(n:Nat) (k:aj) (O:ak) (g gB:adF),jr P (λ_=>True) n g gB->Fin k O gB->Fin k O g)
 (hM:O A.mb=some x) (dr:kK k x a) (c5:A.GI a) (ht:∀b (hb:0<b),T P (pH P (A.at b hb) Fin A.n) gV k (A.rest O) g):Bn P k O g Fin:=by
 intro W0 gs w sl t hS;have ab:∀b x,O b=some x->W0.heap.size<=b:=by obtain⟨_,_,_,_,_,_,_,_,_,h⟩:=hS;exact h
 have hb:0<gs.size:=by
  obtain⟨_,_,h0,_⟩:=hS
  grind
 obtain⟨B,L⟩:∃B,B=A.at gs.size hb:=⟨_,rfl⟩;obtain⟨lk,dx⟩:∃lk,lk=gs.size+A.n+1:=⟨_,rfl⟩;obtain⟨Z0,z1,z2,z3,z4,h0,⟨q,b1⟩,c6,U,c7⟩:=cB.start hS lk ⟨A.fb,A.fo,none⟩ (by omega)
 have z:Sat k O w:=by have:=U.sat 0;rwa [au,au]at this
 obtain⟨tr⟩:=T.tree (DQ (P:=P) (A:=B) (Fin:=Fin) A.n) (by rw[L];exact ht gs.size hb)
 have Y:(0:Nat)≠lk:=by omega
 have al:∀i,aV O A.gb i:=λi=>.inl ⟨_,hG⟩
 have av:∀i,k.cell A.gb i=none:=λi=>by
  cases e:k.cell A.gb i with
  |none=>rfl
  |some v=>exact absurd (al i) (z.apart _ _ _ e)
 have M:∀i,(i=A.fo\/i=A.fo+1\/(A.dir=true/\∃j,j<A.n/\i=A.fo+2+j))->aV O A.fb i:=λi D=>.inr (.inr ⟨_,hL,by grind⟩)
 have ax:∀i,(i=A.fo\/i=A.fo+1\/(A.dir=true/\∃j,j<A.n/\i=A.fo+2+j))->k.cell A.fb i=none:=λi D=>by
  cases e:k.cell A.fb i with
  |none=>rfl
  |some v=>exact absurd (M i D) (z.apart _ _ _ e)
 have N:=z.obj _ _ hG;obtain⟨cl,el,V,_,b2⟩:=z.part _ _ hL
 have c9:∀b y,A.rest O b=some y->O b=some y/\(A.dir=false->b≠A.cF)/\b≠A.fb/\b≠A.gb/\b≠A.mb:=λb y h=>by
  unfold gW.rest at h
  simp_all
 obtain⟨J,ay⟩:∃J,J=bR (bR (λ_=>aj.bot) 0 k) lk k:=⟨_,rfl⟩
 obtain⟨E,aC⟩:∃E,E=bR (bR (λ_=>ak.bot) 0 (A.rest O)) lk (ak.bot.set A.mb x):=⟨_,rfl⟩
 have aE:J 0=k:=by rw[ay,az _ _ Y,au]
 have b3:J lk=k:=by rw[ay,au]
 have aL:∀i,i≠0->i≠lk->J i=aj.bot:=λi o h2=>by rw[ay,az _ _ h2,az _ _ o]
 have b4:E 0=A.rest O:=by rw[aC,az _ _ Y,au]
 have b5:E lk=ak.bot.set A.mb x:=by rw[aC,au]
 have ca:∀i,i≠0->i≠lk->E i=ak.bot:=λi o h2=>by rw[aC,az _ _ h2,az _ _ o]
 have H:∀i b y,E i b=some y->(i=0/\O b=some y/\(A.dir=false->b≠A.cF)/\b≠A.fb/\b≠A.gb/\b≠A.mb)\/(i=lk/\b=A.mb/\y=x):=λi b y h=>by
  by_cases R:i=0
  . subst R;rw[b4]at h;grind
  . by_cases S:i=lk
    . subst S
      rw[b5]at h
      by_cases eb:b=A.mb
      . subst eb;simp only[ak.set,aaA,kn]at h;grind
      . simp only[ak.set,aay eb]at h;cases h
    . rw[ca i R S]at h;cases h
 have dy:∀i b n v,(J i).cell b n=some v->k.cell b n=some v:=λi b n v h=>by
  by_cases R:i=0
  . grind
  . by_cases S:i=lk
    . grind
    . rw[aL i R S]at h;cases h
 have cb:cB Z0 J E (λ_=>False) (λ_=>False) w t:=by
  have h:=U.uH (u:=#[]) (w':=w) (kk':=J) (OO':=E) (J':=λ_=>False) (M':=λ_=>False) (λa b=>a=b\/(a=0/\b=lk)) rfl ⟨⟨.refl _,rfl⟩,λ_ _=>rfl⟩ (λb=>.inl rfl) (λop h=>by simp at h) (λi j e n y K hm hz hk=>?_) (λj b n v I=>?_) (λj b s I=>?_) (λj b y K=>?_) (λi j b y e7 K=>?_)
   (λsaid=>by rw[q8];exact U.clean said) (λop Q=>by simp at Q) (λm op a Q=>by simp at Q) (λn a ha hm h=>?_)
  . grind
  . rw[q8]
    rcases e with rfl|⟨rfl,rfl⟩
    . exact hk
    . unfold Iy
      rw[z2,aaB rfl,z1];obtain⟨op,Q,_⟩:=touch_of K
      grind
  . by_cases R:j=0
    . subst R;rw[aE]at I;exact⟨0,.inl rfl,by rw[au];exact I⟩
    . by_cases S:j=lk
      . subst S;rw[b3]at I;exact⟨0,.inr ⟨rfl,rfl⟩,by rw[au];exact I⟩
      . rw[aL j R S]at I;cases I
  . by_cases R:j=0
    . subst R;rw[aE]at I;exact⟨0,.inl rfl,by rw[au];exact I⟩
    . by_cases S:j=lk
      . subst S;rw[b3]at I;exact⟨0,.inr ⟨rfl,rfl⟩,by rw[au];exact I⟩
      . rw[aL j R S]at I;cases I
  . rcases H j b y K with⟨rfl,o,_⟩|⟨rfl,rfl,rfl⟩
    . exact⟨0,.inl rfl,by rw[au];exact o,λs hs=>by rw[au]at hs;grind⟩
    . exact⟨0,.inr ⟨rfl,rfl⟩,by rw[au];exact hM,λs hs=>by rw[au]at hs;grind⟩
  . cases e:E j b with
    |none=>rfl
    | some y'=>
      rcases H i b y K with⟨rfl,_,_,_,_,h5⟩|⟨rfl,o,_⟩
      . grind
      grind
  grind
 have cm:A.gb<w.heap.size:=(zs.1 N).1
 have f:∀i b,((A.dir=false/\b=A.cF)\/b=A.fb\/b=A.gb)->E i b=none:=λi b hb=>by
  cases e:E i b with
  |none=>rfl
  | some y=>
    rcases H i b y e with⟨_,_,o,h2,h3,_⟩|⟨_,o,_⟩
    . grind
    . rcases hb with⟨_,rfl⟩|rfl|rfl
      . exact absurd o A.d3
      . exact absurd o A.d5
      . exact absurd o A.d6
 have d:∀i b n,k.cell b n=none->(J i).cell b n=none:=λi b n h=>by
  cases e:(J i).cell b n with
  |none=>rfl
  |some v=>grind
 have hP:=cb.te (λl=>∃c:Addr,l=.cell c/\c.spot=none/\c.block=A.gb/\(c.off=0\/c.off=1)) (λc ⟨c',e,_,o,_⟩=>by cases e;rw[o];exact⟨cm,λi=>⟨dY (f i _ (.inr (.inr rfl))),d i _ _ (av _)⟩⟩) (λr ⟨c',e,_⟩=>by cases e)
 obtain⟨Z,hZ⟩:∃Z:Base,Z=⟨λl=>Z0.Shun l\/∃c:Addr,l=.cell c/\c.spot=none/\c.block=A.gb/\(c.off=0\/c.off=1),Z0.N0,Z0.lk,Z0.la,Z0.W0⟩:=⟨_,rfl⟩
 rw[<-hZ]at hP;have aO:Z.lk=lk:=by grind
 have ea:Z.N0=t.size:=by grind
 have b6:Z.W0=W0:=by grind
 have a7:B.b+B.n+1<=Z.lk:=by rw[aO,L];show gs.size+A.n+1<=lk;omega
 have W:∀m b,touchAt t m=some b->b.loc.isMemory=true->b.kind≠.atomic->Knows t 0 m:=λm b hb hm hk=>by grind
 have a8:∀l,zh B l->l.isMemory=true:=λl hl=>by cases l<;>first|rfl|exact hl.elim
 have a9:∀i,bS P B (MS.start P A.dir A.n) i↔i=0:=λi=>by
  constructor
  . rintro(h|⟨l,o,_⟩|⟨_,o⟩)
    . exact h
    . exact absurd o (Nat.not_lt_zero _)
    . exact absurd rfl o
  . exact λh=>.inl h
 have cr:w.cell? ⟨A.gb,0,none⟩=some (.int .u64 (eF (0:Nat) 0)):=by rw[show eF ((0:Nat):Int) 0=0 by simp[eF]];exact mZ N b9
 have G:B.dir=A.dir:=by rw[L];exact A.yj _ _
 have cv:de P B Z (MS.start P A.dir A.n) J E (λ_=>False) (λ_=>False) gs.size w t:=by
  have dj:B.fo=A.fo/\B.fb=A.fb/\B.n=A.n:=by rw[L];exact⟨rfl,rfl,rfl⟩
  rw[L]at a9 a8 G dj ⊢
  refine⟨I8 P A.dir A.n,rfl,G.symm,⟨λ_ h=>absurd rfl h,λ_=>by simp[MS.start],λ_=>by simp[MS.start]⟩,λhd j hj=>⟨λ_=>⟨λi=>d i _ _ (ax _ (.inr (.inr ⟨G ▸ hd,j,hj,rfl⟩))),λm a ad ha _ _=>?_⟩,λh=>(by cases h)⟩,λhd=>?_,⟨mZ V (b2 _ _ bw),mZ V (b2 _ _ bA),λi=>lq V⟩,⟨cr,mZ N bm,λi=>lq N⟩,⟨_,_,V⟩,⟨_,_,N⟩,λi=>⟨λhd=>f i _ (.inl ⟨G ▸ hd,rfl⟩),f i _ (.inr (.inr rfl))⟩,
   λi=>⟨d i _ _ (ax _ (.inl rfl)),d i _ _ (ax _ (.inr (.inl rfl))),d i _ _ (av _),d i _ _ (av _)⟩,λi y K=>?_,λj _ h=>(by cases h),λ_=>⟨x,a,?_,?_,c5⟩,λc hc=>⟨?_,λj _=>rfl⟩,λi=>⟨λh=>h.elim,?_⟩,λp hp=>hp.elim,λh=>(by cases h),λm b hb hs hk i D=>?_,λm b hb hs hk=>?_,λi D m b hm hb b7 hz=>?_,λm c hm h=>?_,λi o h2=>?_,λl hl h=>?_,λc hc h=>?_,by rw[b6];exact⟨λhd=>(by obtain⟨_,_,h⟩:=hF (G ▸ hd);exact ab _ _ h),ab _ _ hL,ab _ _ hG⟩,?_,?_⟩
  . obtain⟨op,Q,_⟩:=touch_of ha
    grind
  . obtain⟨xF,tm,h⟩:=hF (G ▸ hd)
    exact⟨xF,tm,z.obj _ _ h⟩
  . have K:E i A.fb=some y:=K
    rw[f i A.fb (.inr (.inl rfl))]at K;cases K
  . show E Z.lk A.mb=some x
    rw[aO,b5];simp[ak.set]
  . grind
  . rw[aO]at hc
    cases e:E lk c with
    |none=>grind
    | some y=>
      rcases H lk c y e with⟨h,_⟩|⟨_,h,_⟩
      . omega
      . exact h
  . rintro(⟨j,_,_,h⟩|⟨_,h⟩)<;>cases h
  . grind
  . exact W m b hb (a8 _ hs) (by grind)
  . rw[(a9 i).1 D]
    rcases c7 m b hb b7 with h|⟨h,_⟩
    . exact h
    . exact absurd (by rw[hZ];exact .inl h) hz
  . have:=lt_of_act? h
    omega
  . grind
  . obtain⟨c,rfl,b8⟩:=h
    obtain⟨hs,hl⟩:=hl;rw[hZ];refine .inr ⟨c,rfl,hs,b8,?_⟩
    rcases hl with⟨o,_⟩|⟨_,h2⟩
    . exact absurd (b8.symm.trans o).symm A.d4
    . exact h2
  . rw[hZ]at h
    rcases h with h|⟨c',e,_,h,_⟩
    . have:=(U.lT c h).2 0
      rw[au]at this;exact this.1 (by rw[hc.1];exact M _ (hc.2.imp id (·.imp id λh=>⟨G ▸ h.1,h.2⟩)))
    grind
  . grind
  omega
 have ec:B.b=gs.size:=by rw[L];rfl
 have b0:∀i,i≠0 -> ¬dE P B (MS.start P A.dir A.n) i/\¬gK P B (MS.start P A.dir A.n) i/\¬fD P B (MS.start P A.dir A.n) i:=λi D=>by
  refine⟨?_,?_,?_⟩
  . rintro(⟨h,_⟩|⟨_,_,_,h⟩|⟨_,h⟩)
    . exact D h
    . exact h
    . exact h
  . rintro(⟨h,_⟩|⟨_,_,_,h⟩|⟨_,h⟩)
    . exact D h
    . exact h
    . exact h
  . rintro(⟨h,_⟩|⟨_,_,_,h⟩)
    . exact D h
    . cases h
 have hC:bD (bX P B Fin Z a7) Z (MS.start P A.dir A.n) (λ_=>⟨_,_,_,_,tr⟩) q J E (λ_=>False) (λ_=>False) gs w t:=by
  refine⟨rfl,hP,λi hl=>?_,λi hw=>?_,λi hh=>?_,λi y K n1 n2 n3=>?_,b1.above,cv⟩
  . have D:i=0:=abk λh=>(b0 i h).1 hl
    subst D;exact⟨by show 0<B.b+B.n+1;omega,h0,(by show pH P B Fin A.n=cq P B Fin (MS.start P A.dir A.n) 0;rfl),aE.symm,b4.symm,tr.running,c6,.inl rfl,DL⟩
  . have D:i=0:=abk λh=>(b0 i h).2.1 hw
    subst D;exact absurd hw (Au (s:=MS.start P A.dir A.n) (m:=A.n) rfl rfl)
  . have D:i=0:=abk λh=>(b0 i h).2.2 hh
    subst D;exact absurd hh (mW (by simp[MS.start]))
  . have D:i≠0:=λe=>n1 (by subst e;exact qt (s:=MS.start P A.dir A.n) (m:=A.n) rfl)
    exact⟨D,b1.old i y (by omega) K⟩
 rw[<-b6];exact Mj (by rw[L];exact C) (by rw[L];exact X) (by rw[L];exact CM) (by rw[L];exact XM) (by rw[L];exact F) bB a7 hC sl
end
def runNT_add{P:adS}:∀(a b:Nat) (m m1:Machine) (t c:Trace),runNT P a m t=(.next m1,c)->runNT P (a+b) m t=runNT P b m1 c
 | 0,b,m,m1,t,c,h=>by
   simp only[runNT,zH,Stepped.next.injEq]at h
   simp_all
 | a + 1,b,m,m1,t,c,h=>by
   have e:a+1+b=(a+b)+1:=by omega
   rw[e];simp only[runNT]at h ⊢;cases d:stepT P m with
   | mk r ops=>
     rw[d]at h;cases r with
     |next f=>simp only at h ⊢;exact runNT_add a b f m1 _ c h
     |ended o w=>simp at h
def yk(w w':World):Prop:=w.heap=w'.heap/\mK w.os w'.os/\w'.output=w.output
def yk.refl(w:World):yk w w:=⟨rfl,.refl _,rfl⟩
def cB.F1{Z:Base}{kk:adN}{g:adM}{J M:adC}{w w':World}{t:Trace}(h:cB Z kk g J M w t)(d:yk w w'):cB Z kk g J M w' t:=by
 have e:=d.1.symm;have c:∀{k O},Sat k O w->Sat k O w':=λc=>⟨c.apart,λb i v x=>by rw[(qV e _).1];exact c.cell b i v x,λb s x=>by have:=c.sh b s x;simpa[World.shape?,e]using this,λb o x=>by rw[e];exact c.obj b o x,λb n x=>by rw[e];exact c.tail b n x,λb f x=>by rw[e];exact c.part b f x⟩
 exact⟨λi=>c (h.sat i),h.jA,h.nQ,λi=>by rw[e];exact h.BG i,h.clean,λop x=>by rw[e];exact h.seen op x,h.acc,h.n0,h.xI,λa x=>by rw[e];exact h.lT a x,λr x=>by rw[e];exact h.pD r x,h.zt.step d.2.1 d.2.2 (by simp_all) (λb _=>by rw[e]),h.mine⟩
structure eu(P:adS)(d:Nat)(k:aj)(O:ak)(g:adF)(gs:acX)(w:World)(t:Trace)(Z:Base)(q:adI):Prop where
 lk:0≠Z.lk
 g0:gs[0]?=some g
 lv:Leavers P t gs q
 df:Deaf t 0=d
 cN:cB Z (bR (λ_=>aj.bot) 0 k) (bR (λ_=>ak.bot) 0 O) (λ_=>False) (λ_=>False) w t
def Q'(P:adS)(k:aj)(O:ak)(g:adF)(d:Nat)(N:acN):Prop:=∀w,Sat k O w->∃g' w' es k' O',stepG P true g w=.go g' w' es/\(∃a:World,yk a w'/\Sat k' O' a/\(Eff k O w k' O' a es.toList\/(a=w/\k'=k/\O'=O/\(es=#[⟨.mark .disable,false,true⟩]\/es=#[⟨.mark .enable,false,true⟩]))))/\N k' O' g' (deafBehind d es)
section
variable{P:adS}{k k':aj}{O O':ak}{g g':adF}{gs:acX}{w w':World}{t:Trace}{Z:Base}{q:adI}{d:Nat}
def dO.Xm{W0:World}(h:dO P W0 k O g gs w t):∃Z q,Z.W0=W0/\eu P 0 k O g gs w t Z q:=by
 obtain⟨Z,_,e,_,a,b,⟨q,c⟩,hd,d,_⟩:=cB.start h 1 ⟨0,0,none⟩ (by decide);exact⟨Z,q,a,by omega,b,c,hd,d⟩
def eu.back(h:eu P 0 k O g gs w t Z q):dO P Z.W0 k O g gs w t:=by have:=h.cN.finish (P:=P) h.g0 h.lv h.df;rw[au,au]at this;exact this
def eu.at(h:eu P d k O g gs w t Z q)(x:Nat):eu P d k O g gs (w.at x) t Z q:=⟨h.lk,h.g0,h.lv,h.df,h.cN.at x⟩
def eu.F1(h:eu P d k O g gs w t Z q)(e:yk w w'):eu P d k O g gs w' t Z q:=⟨h.lk,h.g0,h.lv,h.df,h.cN.F1 e⟩
def eu.sat(h:eu P d k O g gs w t Z q):Sat k O w:=by have:=h.cN.sat 0;rwa [au,au]at this
def Av{α:Type}(f:Nat->α)(i:Nat)(x y:α):bR (bR f i x) i y=bR f i y:=by
 funext j;by_cases e:j=i
 . subst e;rw[au,au]
 . rw[az _ _ e,az _ _ e,az _ _ e]
def eu.own(h:eu P d k O g gs w t Z q){es:ads}{fn:FuncId}{pos:String}(z:Sat k' O' w')(l:Eff k O w k' O' w' es.toList\/(w'=w/\k'=k/\O'=O/\(es=#[⟨.mark .disable,false,true⟩]\/es=#[⟨.mark .enable,false,true⟩]))):
 eu P (deafBehind d es) k' O' g' (gs.setIfInBounds 0 g') w' (t++MemOp.ofEvents 0 fn pos es) Z q:=by
 have p:=(zs.1 h.g0).1;have f:∀op∈MemOp.ofEvents 0 fn pos es,op.g=0:=λop c=>by obtain⟨e,_,rfl⟩:=zR c;rfl
 refine⟨h.lk,LF p,⟨λi x A s=>?_,λj u=>?_⟩,by rw[Deaf_own,h.df],?_⟩
 . rw[aaz (by omega)]at s
   rw[Deaf_other t (by omega) _ f];exact h.lv.old i x A s
 . rw[abm]at u
   rw[Deaf_other t (by omega) _ f];exact h.lv.above j u
 . rcases l with l|⟨rfl,rfl,rfl,l⟩
   . have:=h.cN.own (i:=0) h.lk (.inl rfl) (k':=k') (O':=O') (fn:=fn) (pos:=pos) (by rw[au,au];exact l) z
     rwa [Av,Av]at this
   . have o:∀op∈MemOp.ofEvents 0 fn pos es,op.act.touch?=none/\op.act.low w'.heap.size:=λop c=>by
      obtain⟨e,r,rfl⟩:=zR c
      rcases l with rfl|rfl<;>simp at r<;>subst r<;>exact⟨rfl,trivial⟩
     exact h.cN.uH (λa b=>a=b) rfl ⟨⟨.refl _,rfl⟩,λ_ _=>rfl⟩ (λb=>.inl rfl) (λop c=>(o op c).2) (λa b e n x _ _ _ B=>by subst e;exact B.app _) (λj b n v h=>⟨j,rfl,h⟩) (λj b n h=>⟨j,rfl,h⟩) (λj b x h=>⟨j,rfl,h,λ_ h=>h⟩) h.cN.jA
      (λsaid=>noRace_appendMute (h.cN.clean said) λop c=>(o op c).1) (λop c a y=>by simp_all) (λm op a c y=>by grind) (λn a y r h=>h.elim (λ⟨_,h,_⟩=>h.elim) (λ⟨_,h,_⟩=>h.elim))
def zI(c:Leavers P t gs q){a a' x:adF}{w':World}:(gs.map (woken P a a' w')).setIfInBounds 0 x=gs.setIfInBounds 0 x:=by
 apply acw;intro j;by_cases b:0=j
 . grind
 . rw[aaz b,aaz b,abG]
   cases d:gs[j]? with
   |none=>rfl
   |some y=>simp only[aaX,kn];exact woken_quitsD (c.old j y (by omega) d)
def Aw{N:acN}(p:g.status=.running)(F:Q' P k O g d N):
 ∀ (n:Nat) (gs:acX) (w:World) (sl:acS) (t:Trace) (q:adI),sumTo gs.size q=n->eu P d k O g gs w t Z q ->
   ∃M gs' w' l Q q' k' O' g' d',runNT P M (crowd gs w sl) t=(.next (crowd gs' w' l),Q)/\eu P d' k' O' g' gs' w' Q Z q'/\N k' O' g' d':=by
 intro n
 induction n using Nat.strongRecOn with
 |ind n ih=>
 intro gs w sl t q hn o
 have T:∀x∈gs,awake x:=by
  intro x hx;obtain⟨i,D,rfl⟩:=Array.mem_iff_getElem.1 hx
  rcases Nat.eq_zero_or_pos i with rfl|r
  . have:gs[0]=g:=by simpa[aaM D]using o.g0
    rw[this];exact awake_of (.inl p)
  . exact awake_of ((o.lv.old i _ r (aaM D)).status.elim .inl λx=>.inr (.inr x))
 obtain⟨i,x,B,l,D,hg,H⟩:=crowd_pick (P:=P) (w:=w) (sl:=sl) T ⟨0,g,o.g0,p⟩;have U:=(zs.1 D).1;have s:=o.at B
 rcases Nat.eq_zero_or_pos i with rfl|r
 . obtain rfl:x=g:=by rw[o.g0]at D;grind
   obtain⟨g',w',es,k',O',s1,⟨w2,s0,s2,s3⟩,s4⟩:=F (w.at B) s.sat;have c:=runT_crowd_go (P:=P) (sl:=l) (i:=0) D (show stepG P (0==0) x (w.at B)=_ from s1)
   rw[zI o.lv]at c;exact⟨1,_,w',l,_,q,k',O',g',_,by simp only[runNT,H,c],(s.own (fn:=x.frame.fn) (pos:=x.frame.place) s2 s3).F1 s0,s4⟩
 . have R :=o.lv.old i x r D
   have V:(i==0)=false:=by simp;omega
   cases G:q i with
   |zero=>rw[G]at R;rw[R.1]at hg;cases hg
   | succ E=>
     rw[G]at R
     rcases R with⟨hf,_⟩|⟨_,g',es,W,I,X⟩
     . grind
     have c:=runT_crowd_go (P:=P) (sl:=l) (i:=i) D (by rw[V];exact I (w.at B))
     have ab:sumTo gs.size (upd q i E)+(E+1)=sumTo gs.size q+E:=by have:=sumTo_upd q E id U;simpa[G]using this
     have A:∀op∈MemOp.ofEvents i x.frame.fn x.frame.place es,op.g=i:=λop f=>by obtain⟨e,_,rfl⟩:=zR f;rfl
     have Y:∀op∈MemOp.ofEvents i x.frame.fn x.frame.place es,op.act.touch?=none:=λop f=>by obtain⟨e,he,rfl⟩:=zR f;exact touch_mute (W e he)
     have J:∀op∈MemOp.ofEvents i x.frame.fn x.frame.place es,op.act.low (w.at B).heap.size:=λop f=>by obtain⟨e,he,rfl⟩:=zR f;exact low_mute (W e he) _
     have hP:=s.cN.uH (w':=w.at B) (kk':=bR (λ_=>aj.bot) 0 k) (OO':=bR (λ_=>ak.bot) 0 O) (J':=λ_=>False) (M':=λ_=>False) (u:=MemOp.ofEvents i x.frame.fn x.frame.place es) (λa b=>a=b) rfl ⟨⟨.refl _,rfl⟩,λ_ _=>rfl⟩ (λb=>.inl rfl) J (λa b e n y _ _ _ h=>by subst e;exact h.app _) (λj b n v h=>⟨j,rfl,h⟩) (λj b n h=>⟨j,rfl,h⟩) (λj b x h=>⟨j,rfl,h,λ_ h=>h⟩) s.cN.jA
      (λsaid=>noRace_appendMute (s.cN.clean said) Y) (λop f a ha=>by grind) (λm op a f ha=>by grind) (λn a ha W h=>h.elim (λ⟨_,h,_⟩=>h.elim) (λ⟨_,h,_⟩=>h.elim))
     have a7:eu P d k O g ((gs.map (woken P x g' (w.at B))).setIfInBounds i g') (w.at B) (t++MemOp.ofEvents i x.frame.fn x.frame.place es) Z (upd q i E):=by
      refine⟨o.lk,?_,⟨λj y hj S=>?_,λj hj=>?_⟩,?_,hP⟩
      . rw[aaz (by omega),abG,o.g0]
        simp[woken_run p]
      . by_cases C:i=j
        . subst C
          rw[LF (by grind)]at S
          obtain rfl:=aaS S;rw[upd_same,Deaf_own];exact X
        . rw[aaz C,abG]at S
          obtain⟨z,hz,rfl⟩:=aaH.1 S;have K:=o.lv.old j z hj hz;rw[woken_quitsD K,upd_ne q E (za C),Deaf_other t C _ A];exact K
      . rw[Deaf_other t (g':=i) (by grind) _ A]
        exact o.lv.above j (by grind)
      . rw[Deaf_other t (by omega) _ A];exact o.df
     obtain⟨M,gs',a8,L,Q,q',k',O',a9,d',e1,e2,e3⟩:=ih (sumTo gs.size (upd q i E)) (by omega) _ (w.at B) l _ (upd q i E) (by simp) a7
     exact⟨M+1,gs',a8,L,Q,q',k',O',a9,d',by simp only[runNT,H,c];exact e1,e2,e3⟩
inductive iR(P:adS)(N:acP):acN
 |done {k:aj}{O:ak}{g:adF}:N k O g->iR P N k O g 0
 |step {k:aj}{O:ak}{g:adF}{d:Nat}(N':acN):g.status=.running->Q' P k O g d N'->(∀k' O' g' d',N' k' O' g' d'->iR P N k' O' g' d')->iR P N k O g d
def Mk{N:acP}(h:iR P N k O g d):∀(gs:acX) (w:World) (sl:acS) (t:Trace) (q:adI),eu P d k O g gs w t Z q ->
 ∃M gs' w' a j k' O' g',runNT P M (crowd gs w sl) t=(.next (crowd gs' w' a),j)/\dO P Z.W0 k' O' g' gs' w' j/\N k' O' g':=by
 induction h with
 |done h=>exact λgs w sl t q b=>⟨0,gs,w,sl,t,_,_,_,rfl,b.back,h⟩
 |step F l m _ n=>intro gs w sl t q b;obtain⟨o,c,p,e,r,s,G,H,I,J,u,v,x⟩:=Aw l m _ gs w sl t q rfl b;obtain⟨M2,f,y,i,z,A,B,C,f1,D,E⟩:=n _ _ _ _ x c p e r s v;exact⟨o+M2,f,y,i,z,A,B,C,by rw[runNT_add _ _ _ _ _ _ u];exact f1,D,E⟩
def iR.phase{N:acP}(h:iR P N k O g 0):Bn P k O g N:=λW0 gs w sl t a=>by obtain⟨Z,q,rfl,b⟩:=a.Xm;exact Mk h gs w sl t q b
def dO.ghost{W0:World}(h:dO P W0 k O g gs w t){k':aj}{O':ak}(b:kS k O k' O'):dO P W0 k' O' g gs w t:=by
 obtain⟨Z,q,rfl,a⟩:=h.Xm;obtain⟨c,d⟩:=b w a.sat;have:=a.own (g':=g) (es:=#[]) (fn:=0) (pos:=  "") c (.inl d)
 have e:t++MemOp.ofEvents 0 0  "" #[]=t:=by rw[ofEvents_eq];simp
 have f:gs.setIfInBounds 0 g=gs:=by
  apply acw;intro j;by_cases i:0=j
  . subst i
    rw[LF (zs.1 a.g0).1,a.g0]
  simp_all
 rw[e,f]at this;exact this.back
def Ml{m:Mo}(H:m.main=true)(I:∀k O g N,¬m.dh k O g N){Q:acP}(h:T P m Q k O g):
 ∀ (W0:World) (gs:acX) (w:World) (sl:acS) (t:Trace),dO P W0 k O g gs w t ->
   ∃M gs' w' n E k' O' g',runNT P M (crowd gs w sl) t=(.next (crowd gs' w' n),E)/\dO P W0 k' O' g' gs' w' E/\Q k' O' g':=by
 induction h with
 |stop h=>exact λW0 gs w sl t a=>⟨0,gs,w,sl,t,_,_,_,rfl,a,h⟩
 | step N i _ l j=>
   intro W0 gs w sl t a;rw[H]at l;obtain⟨Z,q,rfl,J⟩:=a.Xm
   obtain⟨o,b,p,c,r,q1,K,L,R,d1,s,u,rfl,v⟩:=Aw (N:=λk' O' g' S=>S=0/\N k' O' g') i (λw U=>by
    obtain⟨g',w',es,k',O',V,F,W,X⟩:=l w U;refine⟨g',w',es,k',O',V,⟨w',.refl _,W,.inl F⟩,?_,X⟩;have G:=cj (t:=#[]) (xK (λe Y=>F.evs e Y) 0 0  "") 0
    rw[Deaf_own]at G;exact G) _ gs w sl t q rfl J
   obtain⟨M2,d,x,f,y,z,A,B,f1,C,D⟩:=j _ _ _ v _ b p c r u.back;exact⟨o+M2,d,x,f,y,z,A,B,by rw[runNT_add _ _ _ _ _ _ s];exact f1,C,D⟩
 |ghost i _ j=>exact λW0 gs w sl t a=>j W0 gs w sl t (a.ghost i)
 |phase N i _ l j=>intro W0 gs w sl t a;obtain⟨o,b,p,c,r,K,L,R,s,u,v⟩:=l W0 gs w sl t a;obtain⟨M2,d,x,f,y,z,A,B,f1,C,D⟩:=j _ _ _ v W0 b p c r u;exact⟨o+M2,d,x,f,y,z,A,B,by rw[runNT_add _ _ _ _ _ _ s];exact f1,C,D⟩
 |dh N h0 i _ _=>simp_all
end
def ji(fo:Nat)(s:Mu.Sh):Nat->adn:=λi=>if i=fo then some (.int .i32 (enc s.w.L s.w.K s.w.S s.w.N))else if i=fo+1 then some (.int .u32 s.ms)else none
def gu:Mu.Sh:=⟨.zero,0⟩
def eh:Mu.Sh:=⟨{Mu.Wd.zero with L:=true},0⟩
def yl(fo:Nat):ji fo gu=bE fo:=by
 funext i;simp[ji,bE,gu,enc,Mu.Wd.zero]
def ym(fo:Nat):Nat->adn:=ji fo eh
section
variable{P:adS}{k:aj}{O:ak}{b o:Nat}{w w':World}{s s':Mu.Sh}
def PY(f:Sat k O w)(g:O b=some (.part (ji o s))):ShM b o w s:=by
 obtain⟨c,e,a,h,d⟩:=f.part _ _ g;refine⟨?_,?_,λi=>?_⟩
 . exact mZ a (d o _ (by simp[ji]))
 . exact mZ a (d (o+1) _ (by simp[ji]))
 . exact lq a
def heap_set{w:World}{b i:Nat}{v:Value}{c:adq}{e:TypeId}{z:Nat × Nat}(h:w.heap[b]?=some (.cells c e z)):(w.setCell ⟨b,i,none⟩ v).heap[b]?=some (.cells (c.setIfInBounds i v) e z):=by have a:=(zs.1 h).1;simp[World.setCell,abg,h]
def vQ{w:World}{b i d:Nat}{v:Value}(h:d≠b):(w.setCell ⟨b,i,none⟩ v).heap[d]?=w.heap[d]?:=by simp[World.setCell,abg,za h]
def Sb{es:ads}(u:Sat k O w)(M:O b=some (.part (ji o s)))(G:MW b o w w')(H:ShM b o w' s')(I:EvM b o es)(a7:∀e∈es,∀m,e.loc≠.mark m):
 ∃R:World,yk R w'/\Sat k (O.set b (.part (ji o s'))) R/\Eff k O w k (O.set b (.part (ji o s'))) R es.toList:=by
 obtain⟨c,e,D,h2,h3⟩:=u.part _ _ M;have a8:=(zs.1 D).1
 have key:∃x,w'.heap[b]?=some (.cells x e (0,0))/\x.size=c.size/\(∀i,i≠o->i≠o+1->x[i]?=c[i]?)/\(∀d,d≠b->w'.heap[d]?=w.heap[d]?)/\w'.heap.size=w.heap.size:=by
  rcases G.2 with T|⟨i,v,p,P,T⟩
  . simp_all
  . refine⟨c.setIfInBounds i v,by rw[T];exact heap_set D,by simp,λj hj a9=>?_,λd hd=>by rw[T];exact vQ hd,by simp_all⟩
    grind
 obtain⟨x,B,U,k3,E,k5⟩:=key;have ab:x[o]?=some (.int .i32 (enc s'.w.L s'.w.K s'.w.S s'.w.N)):=by have:=H.cw;simpa[World.cell?,B]using this
 have ad:x[o+1]?=some (.int .u32 s'.ms):=by have:=H.cs;simpa[World.cell?,B]using this
 have A:∀i,(i=o\/i=o+1)->aV O b i:=λi p=>.inr (.inr ⟨_,M,by rcases p with rfl|rfl<;>simp[ji]⟩)
 have l:∀d y,(O.set b (.part (ji o s'))) d=some y->(d=b/\y=.part (ji o s'))\/(d≠b/\O d=some y):=λd y h=>by
  by_cases hd:d=b
  . subst hd;simp[ak.set]at h;simp_all
  . simp[ak.set,hd]at h;simp_all
 have r:∀i v,k.cell b i=some v->i≠o/\i≠o+1:=λi v t=>⟨λe=>u.apart _ _ _ t (A i (.inl e)),λe=>u.apart _ _ _ t (A i (.inr e))⟩
 refine⟨{w with heap:=w'.heap},⟨rfl,G.1⟩,⟨λd i v t Y=>?_,λd i v t=>?_,λd z V=>?_,λd y C=>?_,λd n C=>?_,λd f C=>?_⟩,⟨.refl k,?_,λd hd Q=>?_,λd n hd Q c2 e2 W=>?_,λd f hd Q c2 e2 W=>?_,λd hd=>?_,λd y C=>?_,λd i v t=>.inl t,λd z V=>.inl V,λX J=>?_,rfl,rfl,rfl,λX J=>?_,λd f P=>?_⟩⟩
 . by_cases hd:d=b
   . subst hd
     obtain⟨Z,n2⟩:=r i v t;rcases Y with⟨_,q⟩|⟨_,q,_⟩|⟨f,q,P⟩
     . grind
     . grind
     . simp[ak.set]at q;subst q
       simp[ji,Z,n2]at P
   . exact u.apart d i v t (by simpa[aV,ak.set,hd]using Y)
 . have F:=u.cell d i v t
   by_cases hd:d=b
   . subst hd
     obtain⟨Z,n2⟩:=r i v t;simp only[World.cell?,D,B]at F ⊢
     simp_all
   . simpa[World.cell?,E d hd]using F
 . have F:=u.sh d z V
   by_cases hd:d=b
   . subst hd
     simp only[World.shape?,D,B,U]at F ⊢;exact F
   . simpa[World.shape?,E d hd]using F
 . rcases l d _ C with⟨_,q⟩|⟨hd,g⟩
   . cases q
   . rw[show({w with heap:=w'.heap}:World).heap[d]?=w.heap[d]? from E d hd];exact u.obj d y g
 . rcases l d _ C with⟨_,q⟩|⟨hd,g⟩
   . cases q
   . rw[show({w with heap:=w'.heap}:World).heap[d]?=w.heap[d]? from E d hd];exact u.tail d n g
 . rcases l d _ C with⟨rfl,q⟩|⟨hd,g⟩
   . cases q
     refine⟨x,e,B,by simp_all,λi v p=>?_⟩;unfold ji at p
     grind
   . rw[show({w with heap:=w'.heap}:World).heap[d]?=w.heap[d]? from E d hd];exact u.part d f g
 . simp_all
 . grind
 . grind
 . by_cases a:d=b
   . subst a
     rw[M]at Q;cases Q;rw[D]at W;cases W;exact⟨x,B,U,λi p=>k3 i (λq=>by subst q;simp[ji]at p) (λq=>by subst q;simp[ji]at p)⟩
   grind
 . by_cases a:d=b
   . subst a
     simp only[World.shape?,D,B,U]
   . simp[World.shape?,E d a]
 . rcases l d _ C with⟨rfl,rfl⟩|⟨a,g⟩
   . refine .inl ⟨_,M,λi p=>?_⟩
     unfold ji at p ⊢
     grind
   . exact .inl ⟨y,g,.refl y⟩
 . rcases I X (by simp_all)with q|⟨i,p,q,_⟩
   . simp_all
   . simp only[jm,q];grind
 . rcases I X (by simp_all)with q|⟨i,p,q,_⟩
   . simp_all
   . simp only[jf,q];omega
 . by_cases a:d=b
   . subst a;exact⟨ji o s',by simp[ak.set]⟩
   . exact⟨f,by simp[ak.set,a,P]⟩
def ak.set_set(O:ak)(b:Nat)(x y:Own):(O.set b x).set b y=O.set b y:=by funext d;by_cases h:d=b<;>simp[ak.set,h]
def ak.an(O:ak)(b:Nat)(x:Own):(O.set b x) b=some x:=by simp[ak.set]
def ak.B7{O:ak}{b:Nat}{x:Own}(h:O b=some x):O.set b x=O:=by
 funext d;by_cases e:d=b
 . subst e;simp[ak.set,h]
 . simp[ak.set,e]
structure Lk(k:aj)(b o:Nat)(f:Mu.Sh->ak):Prop where
 sat:∀{s w},Sat k (f s) w->ShM b o w s
 Wj:∀{s s' w w' es},Sat k (f s) w->MW b o w w'->ShM b o w' s'->EvM b o es->(∀e∈es,∀m,e.loc≠.mark m)->∃w2:World,yk w2 w'/\Sat k (f s') w2/\Eff k (f s) w k (f s') w2 es.toList
 has:∀s,∃x,f s b=some x
def Lk.part(O:ak):Lk k b o λs=>O.set b (.part (ji o s)) where
 sat h:=PY h (ak.an O b _)
 Wj a c d e f:=by
  have:=Sb a (ak.an O b _) c d e f
  rwa [ak.set_set]at this
 has s:=⟨_,ak.an O b _⟩
def me(c:adq)(o:Nat)(s:Mu.Sh):adq:=(c.setIfInBounds o (.int .i32 (enc s.w.L s.w.K s.w.S s.w.N))).setIfInBounds (o+1) (.int .u32 s.ms)
def lG{c:adq}{i:Nat}(a:i≠o)(b:i≠o+1):(me c o s)[i]?=c[i]?:=by
 unfold me
 grind
def tL{c:adq}(h:o+1<c.size):(me c o s)[o]?=some (.int .i32 (enc s.w.L s.w.K s.w.S s.w.N)):=by
 unfold me
 grind
def tN{c:adq}(h:o+1<c.size):(me c o s)[o+1]?=some (.int .u32 s.ms):=by
 unfold me
 simp_all
def mh{c:adq}:(me c o s).size=c.size:=by simp[me]
def Lk.obj(O:ak){c:adq}{e:TypeId}(hc:o+1<c.size):Lk k b o λs=>O.set b (.obj (.cells (me c o s) e (0,0))) where
 sat h:=by have a:=h.obj b _ (ak.an O b _);exact⟨mZ a (tL hc),mZ a (tN hc),λi=>lq a⟩
 Wj {s s' w w' es} hs t u A Q:=by
  have a:=hs.obj b _ (ak.an O b _);have R:=(zs.1 a).1;have D:(O.set b (.obj (.cells (me c o s) e (0,0)))) b=some (.obj (.cells (me c o s) e (0,0))):=by simp[ak.set]
  have T:∀d x,d≠b->(O.set b x) d=O d:=λd x h=>by simp[ak.set,h]
  have key:w'.heap[b]?=some (.cells (me c o s') e (0,0))/\(∀d,d≠b->w'.heap[d]?=w.heap[d]?)/\w'.heap.size=w.heap.size:=by
   have key:∃p,w'.heap[b]?=some (.cells p e (0,0))/\p.size=c.size/\(∀i,i≠o->i≠o+1->p[i]?=c[i]?)/\(∀d,d≠b->w'.heap[d]?=w.heap[d]?)/\w'.heap.size=w.heap.size:=by
    rcases t.2 with r|⟨i,v,M,hf,r⟩
    . exact⟨_,by rw[r];exact a,mh,λ_ U V=>lG U V,λd _=>by rw[r],by rw[r]⟩
    . refine⟨_,by rw[r];exact heap_set a,by rw[abm,mh],λj W E=>?_,λd hd=>by rw[r];exact vQ hd,by simp_all⟩
      rw[aaz (by omega)];exact lG W E
   obtain⟨p,k1,Z,X,l,P⟩:=key;refine⟨?_,l,P⟩;rw[k1];have F:p[o]?=some (.int .i32 (enc s'.w.L s'.w.K s'.w.S s'.w.N)):=by have:=u.cw;simpa[World.cell?,k1]using this
   have G:p[o+1]?=some (.int .u32 s'.ms):=by have:=u.cs;simpa[World.cell?,k1]using this
   have:p=me c o s':=by
    apply acw;intro i;by_cases e1:i=o
    . subst e1;rw[F,tL hc]
    . by_cases e2:i=o+1
      . subst e2;rw[G,tN hc]
      . rw[X i e1 e2,lG e1 e2]
   rw[this]
  obtain⟨k1,l,P⟩:=key
  have B:∀d i x y,aV (O.set b (.obj x)) d i->aV (O.set b (.obj y)) d i:=λd i x y hc=>by
   by_cases hd:d=b
   . subst hd;exact .inl ⟨y,by simp[ak.set]⟩
   . simpa[aV,ak.set,hd]using hc
  have H:∀d i v,k.cell d i=some v->d≠b:=λd i v m e=>hs.apart _ _ _ m (by subst e;exact .inl ⟨_,D⟩)
  refine⟨{w with heap:=w'.heap},⟨rfl,t.1⟩,⟨λd i v m hc=>hs.apart d i v m (B _ _ _ _ hc),λd i v m=>?_,λd z I=>?_,λd y hy=>?_,λd n hy=>?_,λd f hy=>?_⟩,⟨.refl k,?_,λd hd hn=>?_,λd n hd hn c2 e2 Y=>?_,λd f hd hn c2 e2 Y=>?_,λd hd=>?_,λd y hy=>?_,λd i v m=>.inl m,λd z I=>.inl I,λJ C=>?_,rfl,rfl,rfl,λJ C=>?_,λd f hf=>?_⟩⟩
  . have h0:=hs.cell d i v m
    simpa[World.cell?,l d (H d i v m)]using h0
  . have h0:=hs.sh d z I
    by_cases hd:d=b
    . subst hd
      simp only[World.shape?,a,k1,mh]at h0 ⊢;exact h0
    . simpa[World.shape?,l d hd]using h0
  . by_cases hd:d=b
    . subst hd
      simp only[ak.set,aaA,kn,Own.obj.injEq]at hy
      simp_all
    . rw[show({w with heap:=w'.heap}:World).heap[d]?=w.heap[d]? from l d hd]
      exact hs.obj d y (by simp_all)
  . have hd:d≠b:=λq=>by subst q;simp[ak.set]at hy
    rw[show({w with heap:=w'.heap}:World).heap[d]?=w.heap[d]? from l d hd];exact hs.tail d n (by simp_all)
  . have hd:d≠b:=λq=>by subst q;simp[ak.set]at hy
    rw[show({w with heap:=w'.heap}:World).heap[d]?=w.heap[d]? from l d hd];exact hs.part d f (by simp_all)
  . simp_all
  . grind
  . grind
  . grind
  . by_cases g:d=b
    . subst g
      simp only[World.shape?,a,k1,mh]
    . simp[World.shape?,l d g]
  . by_cases g:d=b
    . subst g;exact .inl ⟨_,D,trivial⟩
    . exact .inl ⟨y,by simp_all,.refl y⟩
  . rcases A J (by simp_all)with q|⟨i,M,q,_⟩
    . simp_all
    . simp only[jm,q];exact .inl (.inl ⟨_,D⟩)
  . rcases A J (by simp_all)with q|⟨i,M,q,_⟩
    . simp_all
    . simp only[jf,q];omega
  grind
 has s:=⟨_,ak.an O b _⟩
variable{n:zv}(C:gF P n)(X:gJ P n){kind:adK}{Wd:adr}{cs:adt}{g:adF}{main:Bool}
def Va(b o:Nat):ads:=#[⟨.cell ⟨b,o,none⟩,false,true⟩,⟨.cell ⟨b,o,none⟩,true,true⟩]
def Sc(b o:Nat):EvM b o (Va b o)/\(∀e∈Va b o,∀m,e.loc≠.mark m)/\∀d,deafBehind d (Va b o)=d:=by
 refine⟨kN (.inl rfl),λe a m h=>?_,λd=>rfl⟩;simp[Va]at a
 grind
include C X in
def Mm(a:ShM b o w gu)(h:oy P n b o kind .iC cs g):∃e w',stepG P main g w=.go e w' (Va b o)/\MW b o w w'/\ShM b o w' eh/\Next P n b o kind Wd cs .le e:=by
 obtain⟨c,y,fr,j,rfl,k,f,d,rfl⟩:=h;have l:(uN P n b o kind).1.kind≠.early:=by simp[uN,mQ]
 have i:=a.cw;rw[show enc gu.w.L gu.w.K gu.w.S gu.w.N=0 from rfl]at i;exact⟨_,_,il f (C.o2 b o kind) l X.kJ (v:=0) (n:=1) (λx h=>h) (λx h=>h) i (a.fz o),wv rfl,a.aW {Mu.Wd.zero with L:=true},nxt (C.e2 _ b o kind) k f d rfl (.inl rfl)⟩
include C X in
def Mn(i:ShM b o w eh)(h:oy P n b o kind .held cs g):∃r w' es,stepG P main g w=.go r w' es/\MW b o w w'/\ShM b o w' gu/\EvM b o es/\(∀e∈es,∀m,e.loc≠.mark m)/\(∀d,deafBehind d es=d)/\Next P n b o kind Wd cs .ue r:=by
 obtain⟨c,y,fr,j,rfl,u,s,k,rfl⟩:=h;have l:({y with N:=0}:Sy).ok:=⟨⟨by simp,by simp⟩,u.2⟩;have p:=s.re (y':={y with N:=0}) (.inr rfl) (.inl rfl) (.inl rfl) (.inl rfl);have a:=k.gS (y':={y with N:=0}) (by simpa[sm,pF]using(C.p3 b o kind).1);have f:=qe (main:=main) (cs:=j++cs) (w:=w) s (C.WQ b o kind) (by simp[sm,pF]) X.add (λx h=>h) i.cw (i.fz _);have e:IntKind.i32.wrap (enc eh.w.L eh.w.K eh.w.S eh.w.N+-1)=enc false false false 0:=by decide
 rw[e]at f;have q:=i.aW Mu.Wd.zero;have v:SR {y with N:=0} (.word false false false 0) (.int .i32 (enc false false false 0)):=qW rfl;have key:=C.u5 (Fl.of {y with N:=0}) b o kind true false (by rfl);exact⟨_,_,_,f,wv rfl,q,kN (.inl rfl),(λe t m h=>(by simp at t;rcases t with rfl|rfl<;>cases h)),(λd=>rfl),nxt (y:={y with N:=0}) key l p a v rfl⟩
def iR.Af{N:acP}{Wd:adr}{a:adF}{d:Nat}(i:∀w,Sat k O w->Wd w){m:Nat}:∀{g:adF},jr P Wd m g a->iR P N k O a d->iR P N k O g d:=by
 induction m with
 |zero=>intro g h b;obtain rfl:g=a:=h;exact b
 | succ m l=>
   intro g h b;obtain⟨c,e,n⟩:=h;refine .step (λk' O' g' j=>k=k'/\O=O'/\c=g'/\d=j) e.1 (λw f=>⟨c,w,#[],k,O,e.2 true w (i w f),⟨w,.refl _,f,.inl (.refl ..)⟩,rfl,rfl,rfl,rfl⟩) ?_
   grind
def iR.next{N:acP}{p:tj}{c:adF}{d:Nat}(e:∀w,Sat k O w->Wd w)(h:Next P n b o kind Wd cs p c)(f:∀a,oy P n b o kind p cs a->iR P N k O a d):iR P N k O c d:=by obtain⟨_,a,⟨m,g⟩,i⟩:=h;exact iR.Af e g (f a i)
variable{N:acP}
def DT{e:Event}(g:Sat k O w){x:Own}(h:O b=some x)(f:e.loc=.mark (.acquire ⟨b,o,none⟩)\/e.loc=.mark (.releaseMerge ⟨b,o,none⟩)):Eff k O w k O w [e]:=by
 have a:=Eff.refl k O w;have d:=g.uy h;refine⟨a.le,a.size,a.keep,a.tail,a.part,a.shape,a.own,a.cell,a.sh,λx c=>?_,rfl,rfl,rfl,λx c=>?_,a.tok⟩
 . rw[lb]at c;subst c
   rcases f with q|q<;>simp[jm,q,j9]
 . rw[lb]at c;subst c
   rcases f with q|q<;>simp only[jf,q]<;>exact d
def Lk.wd{f:Mu.Sh->ak}(L:Lk k b o f)(s:Mu.Sh):∀w,Sat k (f s) w->∃v,w.cell? ⟨b,o,none⟩=some v:=λw a=>⟨_,(L.sat a).cw⟩
include C X in
def yn(F:mI P n){c:Frame}{rest:adt}(u:kind≠.early){f:Mu.Sh->ak}(L:Lk k b o f)(x:N k (f eh) (ki kind c rest (.tuple #[]))):iR P N k (f gu) (G (Frame.enter P n.lock #[.pointer (some ⟨b,o,none⟩)] kind) (c::rest)) 0:=by
 have t:=L.wd gu;have e:=L.wd eh;obtain⟨_,r⟩:=L.has eh;obtain⟨q,⟨m,s⟩,a⟩:=rR (P:=P) (n:=n) (b:=b) (o:=o) (kind:=kind) (Wd:=λw=>∃v,w.cell? ⟨b,o,none⟩=some v) (cs:=c::rest) F;refine iR.Af t s ?_;refine .step (λk' O' g' i=>k=k'/\f gu=O'/\i=1/\Next P n b o kind (λw=>∃v,w.cell? ⟨b,o,none⟩=some v) (c::rest) .iC g') a.running.1 (λw g=>?_) ?_
 . obtain⟨d,j,l⟩:=BN (main:=true) (w:=w) C X a
   exact⟨d,w,_,k,f gu,j,⟨w,.refl _,g,.inr ⟨rfl,rfl,rfl,.inl rfl⟩⟩,rfl,rfl,rfl,l⟩
 rintro _ _ d _ ⟨rfl,rfl,rfl,p⟩;refine iR.next t p λq a=>?_
 refine .step (λk' O' g' i=>k=k'/\f eh=O'/\i=1/\Next P n b o kind (λw=>∃v,w.cell? ⟨b,o,none⟩=some v) (c::rest) .le g') a.running.1 (λw g=>?_) ?_
 . obtain⟨d,w',j,l,y,z⟩:=Mm (main:=true) (w:=w) C X (L.sat g) a
   obtain⟨A,B,D⟩:=Sc b o;obtain⟨E,H,I,J⟩:=L.Wj g l y A B;exact⟨d,w',_,k,_,j,⟨E,H,I,.inl J⟩,rfl,rfl,D 1,z⟩
 rintro _ _ d _ ⟨rfl,rfl,rfl,p⟩;refine iR.next e p λq a=>?_
 refine .step (λk' O' g' i=>k=k'/\f eh=O'/\i=0/\Next P n b o kind (λw=>∃v,w.cell? ⟨b,o,none⟩=some v) (c::rest) .la g') a.running.1 (λw g=>?_) ?_
 . obtain⟨d,j,l⟩:=Hy (main:=true) (w:=w) C X (λw h=>h) a
   exact⟨d,w,_,k,_,j,⟨w,.refl _,g,.inr ⟨rfl,rfl,rfl,.inr rfl⟩⟩,rfl,rfl,rfl,l⟩
 rintro _ _ d _ ⟨rfl,rfl,rfl,p⟩;refine iR.next e p λq a=>?_
 refine .step (λk' O' g' i=>k=k'/\f eh=O'/\i=0/\Next P n b o kind (λw=>∃v,w.cell? ⟨b,o,none⟩=some v) (c::rest) .back g') a.running.1 (λw g=>?_) ?_
 . obtain⟨d,j,l⟩:=Hx (main:=true) (w:=w) C X a
   exact⟨d,w,_,k,_,j,⟨w,.refl _,g,.inl (DT g r (.inl rfl))⟩,rfl,rfl,rfl,l⟩
 rintro _ _ d _ ⟨rfl,rfl,rfl,p⟩;refine iR.next e p λq a=>?_
 obtain⟨m,s⟩:=tv (Wd:=λw=>∃v,w.cell? ⟨b,o,none⟩=some v) F a u;exact iR.Af e s (.done x)
include C X in
def tO(F:mI P n){c:Frame}{rest:adt}(t:kind≠.early){f:Mu.Sh->ak}(L:Lk k b o f)(u:N k (f gu) (ki kind c rest (.tuple #[]))):iR P N k (f eh) (G (Frame.enter P n.unlock #[.pointer (some ⟨b,o,none⟩)] kind) (c::rest)) 0:=by
 have r:=L.wd eh;have p:=L.wd gu;obtain⟨_,x⟩:=L.has eh;obtain⟨q,⟨m,s⟩,a⟩:=pG (P:=P) (n:=n) (b:=b) (o:=o) (kind:=kind) (Wd:=λw=>∃v,w.cell? ⟨b,o,none⟩=some v) (cs:=c::rest) F;refine iR.Af r s ?_;refine .step (λk' O' g' g=>k=k'/\f eh=O'/\g=0/\Next P n b o kind (λw=>∃v,w.cell? ⟨b,o,none⟩=some v) (c::rest) .ur g') a.running.1 (λw e=>?_) ?_
 . obtain⟨d,i,j⟩:=xQ (main:=true) (w:=w) C X (λw h=>h) (L.sat e).cw a
   exact⟨d,w,_,k,f eh,i,⟨w,.refl _,e,.inl (.refl ..)⟩,rfl,rfl,rfl,j⟩
 rintro _ _ d _ ⟨rfl,rfl,rfl,l⟩;refine iR.next r l λq a=>?_
 refine .step (λk' O' g' g=>k=k'/\f eh=O'/\g=0/\Next P n b o kind (λw=>∃v,w.cell? ⟨b,o,none⟩=some v) (c::rest) .ud g') a.running.1 (λw e=>?_) ?_
 . obtain⟨d,i,j⟩:=Hw (main:=true) (w:=w) C X a
   exact⟨d,w,_,k,_,i,⟨w,.refl _,e,.inl (DT e x (.inr rfl))⟩,rfl,rfl,rfl,j⟩
 rintro _ _ d _ ⟨rfl,rfl,rfl,l⟩;refine iR.next r l λq a=>?_
 refine .step (λk' O' g' g=>k=k'/\f eh=O'/\g=1/\Next P n b o kind (λw=>∃v,w.cell? ⟨b,o,none⟩=some v) (c::rest) .held g') a.running.1 (λw e=>?_) ?_
 . obtain⟨d,i,j⟩:=Hv (main:=true) (w:=w) C X a
   exact⟨d,w,_,k,_,i,⟨w,.refl _,e,.inr ⟨rfl,rfl,rfl,.inl rfl⟩⟩,rfl,rfl,rfl,j⟩
 rintro _ _ d _ ⟨rfl,rfl,rfl,l⟩;refine iR.next r l λq a=>?_
 refine .step (λk' O' g' g=>k=k'/\f gu=O'/\g=1/\Next P n b o kind (λw=>∃v,w.cell? ⟨b,o,none⟩=some v) (c::rest) .ue g') a.running.1 (λw e=>?_) ?_
 . obtain⟨d,w',es,i,j,y,z,A,B,D⟩:=Mn (main:=true) (w:=w) C X (L.sat e) a
   obtain⟨E,H,I,J⟩:=L.Wj e j y z A;exact⟨d,w',_,k,_,i,⟨E,H,I,.inl J⟩,rfl,rfl,B 1,D⟩
 rintro _ _ d _ ⟨rfl,rfl,rfl,l⟩;refine iR.next p l λq a=>?_
 refine .step (λk' O' g' g=>k=k'/\f gu=O'/\g=0/\Next P n b o kind (λw=>∃v,w.cell? ⟨b,o,none⟩=some v) (c::rest) .Dj g') a.running.1 (λw e=>?_) ?_
 . obtain⟨d,i,j⟩:=BO (main:=true) (w:=w) C X a
   exact⟨d,w,_,k,_,i,⟨w,.refl _,e,.inr ⟨rfl,rfl,rfl,.inr rfl⟩⟩,rfl,rfl,rfl,j⟩
 rintro _ _ d _ ⟨rfl,rfl,rfl,l⟩;refine iR.next p l λq a=>?_
 obtain⟨m,s⟩:=l8 (Wd:=λw=>∃v,w.cell? ⟨b,o,none⟩=some v) F a t;exact iR.Af p s (.done u)
def Rel.Ax{σ:aa}{f:Nat->adn}(a:Rel k O σ)(h:σ b=some (.part f)):O b=some (.part f):=by
 obtain⟨x,c,d⟩:=a.1 b _ h (by simp);cases d;exact c
def jH(b o:Nat)(a:AV):Prop:=∀k v,V k v a->v=.pointer (some ⟨b,o,none⟩)
def rf(b o:Nat)(l:adL)(h:adH):jH b o (.kp b l h o):=λk v a=>by cases a;rfl
def o0(b o:Nat):jH b o (.ref b o):=λk v a=>by cases a;rfl
def Vs.one{a:AV}{c:adx}(h:Vs k c [a]):∃v,c=[v]/\V k v a:=by
 obtain⟨b,d⟩:=h
 match c with
 |[v]=>exact⟨v,rfl,d 0 v a rfl rfl⟩
 |[]=>simp at b
 |_::_::_=>simp at b
include C X in
def I9(F:mI P n){m:Mo}(j:m.solo=true){a:AV}(l:jH b o a){σ:aa}{f:adl}(d:σ b=some (.part (bE o)))(h:f (.val (.ck [])) (σ.set b (.part (ym o)))):aA P m n.lock [a] σ f:=by
 intro Q k O e c rest kind p q g r t;obtain⟨v,rfl,s⟩:=q.one;obtain rfl:=l _ _ s;refine .phase (λk' O' g'=>T P m Q k' O' g') j (λ_ _ _ h=>h) (iR.phase ?_);have L:=Lk.part (k:=k) (b:=b) (o:=o) O;have:=yn (P:=P) (N:=λk' O' g'=>T P m Q k' O' g') C X F p L (c:=c) (rest:=rest) ?_
 . simp only[yl]at this
   rwa [ak.B7 (g.Ax d)]at this
 exact r k _ (.tuple #[]) (.ck []) _ (.refl k) (.ck _ _ rfl λi v a h=>by simp at h) (g.set (.part _)) h
include C X in
def DU(F:mI P n){m:Mo}(l:m.solo=true){a:AV}(p:jH b o a){σ:aa}{g:adl}(d:σ b=some (.part (ym o)))(h:g (.val (.ck [])) (σ.set b (.part (bE o)))):aA P m n.unlock [a] σ g:=by
 intro Q k O f c rest kind q r j s u;obtain⟨v,rfl,t⟩:=r.one;obtain rfl:=p _ _ t;refine .phase (λk' O' g'=>T P m Q k' O' g') l (λ_ _ _ h=>h) (iR.phase ?_);have L:=Lk.part (k:=k) (b:=b) (o:=o) O;have:=tO (P:=P) (N:=λk' O' g'=>T P m Q k' O' g') C X F q L (c:=c) (rest:=rest) ?_
 . have e:O.set b (.part (ji o eh))=O:=ak.B7 (j.Ax d)
   simp only[e]at this;exact this
 simp only[yl];exact s k _ (.tuple #[]) (.ck []) _ (.refl k) (.ck _ _ rfl λi v a h=>by simp at h) (j.set (.part _)) h
def Rel.wU{σ:aa}{l:adL}(d:Rel k O σ)(h:σ b=some (.cells l)):∃c e,O b=some (.obj (.cells c e (0,0)))/\c.size=l.length/\(∀(i:Nat) v a,c[i]?=some v->l[i]?=some a->V k v a)/\∀(i:Nat) v,c[i]?=some v->flat v=true:=by
 obtain⟨x,g,f⟩:=d.1 b _ h (by simp);cases f with
 |cells c e l j m n=>grind
def Ay{c:adq}{l:adL}{e:TypeId}(n:c.size=l.length)(p:∀(i:Nat) v a,c[i]?=some v->l[i]?=some a->V k v a)(q:∀(i:Nat) v,c[i]?=some v->flat v=true)(m:l[o+1]?=some (.lit (.int .u32 0)))(j:s.ms=0):kK k (.obj (.cells (me c o s) e (0,0))) (.cells (l.set o (.lit (.int .i32 (enc s.w.L s.w.K s.w.S s.w.N))))):=by
 have d:o+1<c.size:=by grind
 refine .cells _ _ _ (by rw[mh];simp_all) (λi v a b g=>?_) (λi v b=>?_)
 . by_cases f:i=o
   . subst f
     rw[tL d]at b;rw[abB (by omega)]at g;cases b;cases g;exact .lit _
   . rw[abp (za f)]at g
     by_cases h:i=o+1
     . subst h
       rw[tN d,j]at b;rw[m]at g;cases b;cases g;exact .lit _
     . rw[lG f h]at b
       grind
 . by_cases f:i=o
   . subst f
     rw[tL d]at b;cases b;rfl
   . by_cases h:i=o+1
     . subst h
       rw[tN d]at b;cases b;rfl
     . rw[lG f h]at b
       grind
def yo{c:adq}{l:adL}{n:Int}(p:c.size=l.length)(e:∀(i:Nat) v a,c[i]?=some v->l[i]?=some a->V k v a)(h:l[o]?=some (.lit (.int .i32 n)))(j:n=enc s.w.L s.w.K s.w.S s.w.N)(m:l[o+1]?=some (.lit (.int .u32 0)))(d:s.ms=0):me c o s=c:=by
 have b:o+1<c.size:=by grind
 apply acw;intro i;by_cases f:i=o
 . subst f
   rw[tL b,<-j,aaM (by omega)];have:=e i c[i] _ (aaM (by omega)) h;generalize c[i]=u at this;cases this;rfl
 . by_cases g:i=o+1
   . subst g
     rw[tN b,d,aaM b];have:=e _ _ _ (aaM b) m;generalize c[o+1]=u at this;cases this;rfl
   . rw[lG f g]
include C X in
def F3(F:mI P n){m:Mo}(u:m.solo=true){a:AV}(w:jH b o a){σ:aa}{q:adl}{l:adL}(d:σ b=some (.cells l))(x:l[o]?=some (.lit (.int .i32 0)))(f:l[o+1]?=some (.lit (.int .u32 0)))(h:q (.val (.ck [])) (σ.set b (.cells (l.set o (.lit (.int .i32 1)))))):aA P m n.lock [a] σ q:=by
 intro Q k O g c rest kind y z r A I;obtain⟨v,rfl,B⟩:=z.one;obtain rfl:=w _ _ B;obtain⟨D,E,G,j,t,H⟩:=r.wU d;refine .phase (λk' O' g'=>T P m Q k' O' g') u (λ_ _ _ h=>h) (iR.phase ?_)
 have p:o+1<D.size:=by rw[j];exact(aaI.1 f).1
 have L:=Lk.obj (k:=k) (b:=b) (o:=o) O (e:=E) p;have:=yn (P:=P) (N:=λk' O' g'=>T P m Q k' O' g') C X F y L (c:=c) (rest:=rest) ?_
 . simp only[yo (s:=gu) j t x rfl f rfl]at this
   rwa [ak.B7 G]at this
 exact A k _ (.tuple #[]) (.ck []) _ (.refl k) (.ck _ _ rfl λi v a h=>by simp at h) (r.set (Ay (s:=eh) j t H f rfl)) h
include C X in
def B8(F:mI P n){m:Mo}(u:m.solo=true){a:AV}(w:jH b o a){σ:aa}{q:adl}{l:adL}(d:σ b=some (.cells l))(x:l[o]?=some (.lit (.int .i32 1)))(f:l[o+1]?=some (.lit (.int .u32 0)))(h:q (.val (.ck [])) (σ.set b (.cells (l.set o (.lit (.int .i32 0)))))):aA P m n.unlock [a] σ q:=by
 intro Q k O g c rest kind y z r A I;obtain⟨v,rfl,B⟩:=z.one;obtain rfl:=w _ _ B;obtain⟨D,E,G,j,t,H⟩:=r.wU d;refine .phase (λk' O' g'=>T P m Q k' O' g') u (λ_ _ _ h=>h) (iR.phase ?_)
 have p:o+1<D.size:=by rw[j];exact(aaI.1 f).1
 have L:=Lk.obj (k:=k) (b:=b) (o:=o) O (e:=E) p;have:=tO (P:=P) (N:=λk' O' g'=>T P m Q k' O' g') C X F y L (c:=c) (rest:=rest) ?_
 . simp only[yo (s:=eh) j t x rfl f rfl]at this
   rwa [ak.B7 G]at this
 exact A k _ (.tuple #[]) (.ck []) _ (.refl k) (.ck _ _ rfl λi v a h=>by simp at h) (r.set (Ay (s:=gu) j t H f rfl)) h
def Rel.del{σ:aa}(h:Rel k O σ)(r:Nat):Rel k (O.del r) (σ.del r):=⟨λb a e c=>by
 by_cases hb:b=r
 . subst hb;simp[aa.del]at e
 . simp only[aa.del,hb,Rp]at e
   obtain⟨x,d,f⟩:=h.1 b a e c;exact⟨x,by simp[ak.del,hb,d],f⟩,λb a e c=>by
 by_cases hb:b=r
 . subst hb;simp[aa.del]at e
 . simp only[aa.del,hb,Rp]at e
   obtain⟨d,f⟩:=h.2 b a e c;exact⟨by simp[ak.del,hb,d],f⟩⟩
def Rel.ig{σ:aa}(h:Rel k O σ)(r:Nat)(d:∃s,k.sh r=some s):Rel k (O.del r) (σ.set r .ig):=⟨λb a e c=>by
 by_cases hb:b=r
 . subst hb;simp[aa.set]at e;subst e;cases c
 . simp only[aa.set,hb,Rp]at e
   obtain⟨x,f,g⟩:=h.1 b a e c;exact⟨x,by simp[ak.del,hb,f],g⟩,λb a e c=>by
 by_cases hb:b=r
 . subst hb;simp[aa.set]at e;exact⟨by simp[ak.del],d,λl q=>by simp_all⟩
 . simp only[aa.set,hb,Rp]at e
   obtain⟨f,g⟩:=h.2 b a e c;exact⟨by simp[ak.del,hb,f],g⟩⟩
def T.sat{m:Mo}{Q:acP}(b:g.status=.running)(h:(∃w,Sat k O w)->T P m Q k O g):T P m Q k O g:=by
 by_cases a:∃w,Sat k O w
 . exact h a
 . exact .step (λ_ _ _=>False) b (λ_ _ _ h=>h.elim) λw c=>absurd ⟨w,c⟩ a
variable{A:bH}{j:Nat}
def I'(hd:A.dir=false){a:AV}(r:jH A.fb A.fo a){σ:aa}{p:adl}(d:σ A.fb=some .ig)(h:∀x,A.GI x->(∀y,σ A.mb=some y->y.gone=true)->p (.val (.ck [])) ((σ.set A.mb x).set A.fb (.part LQ))):aA P (iE P A j) A.nm.lock [a] σ p:=by
 intro Q k O g c rest kind s t l u G;obtain⟨v,rfl,w⟩:=t.one;obtain rfl:=r _ _ w;obtain⟨B,⟨e,C⟩,_⟩:=l.2 _ _ d rfl;refine .dh (λk' O' g'=>T P (iE P A j) Q k' O' g') rfl (.inl ⟨kind,c,rest,e,s,rfl,B,C,λq=>by simp_all,λk' x y f b m n D E=>?_⟩) (λ_ _ _ h=>h);rw[show f=LQ by simpa[bH.Tk,hd]using E];refine u k' _ (.tuple #[]) (.ck []) _ b (.ck _ _ rfl λi v a h=>by simp at h) (((l.mono b).set m).set (.part _)) (h y n λz F=>?_);cases o:z.gone with
 |true=>rfl
 | false=>
   obtain⟨H,I,_⟩:=l.1 _ z F o
   simp_all
def DV(hd:A.dir=false){a:AV}(p:jH A.fb A.fo a){σ:aa}{n:adl}{f:Nat->adn}{y:gn}(b:σ A.fb=some (.part f))(r:σ A.mb=some y)(s:A.GI y)(d:y.gone=false)(h:n (.val (.ck [])) ((σ.del A.mb).set A.fb .ig)):aA P (iE P A j) A.nm.unlock [a] σ n:=by
 intro Q k O e c rest kind t u g z E;obtain⟨v,rfl,B⟩:=u.one;obtain rfl:=p _ _ B;obtain⟨x,C,l⟩:=g.1 _ _ r d;have o:=g.Ax b;refine T.sat rfl λ⟨w,D⟩=>?_
 obtain⟨F,G,_,m,_⟩:=D.part _ _ o;refine .dh (λk' O' g'=>T P (iE P A j) Q k' O' g') rfl (.inr (.inl ⟨kind,c,rest,f,x,y,t,rfl,o,C,l,s,λq=>by simp_all,?_⟩)) (λ_ _ _ h=>h);rw[show Ff P A (λk' O' g'=>T P (iE P A j) Q k' O' g')=λk' O' g'=>T P (iE P A j) Q k' O' g' by simp[Ff,hd]];exact z k _ (.tuple #[]) (.ck []) _ (.refl k) (.ck _ _ rfl λi v a h=>by simp at h) ((g.del A.mb).ig A.fb ⟨_,m⟩) h
end
section
variable{P:adS}(L:jo P){o:Oper}{env:Env}{σ:aa}{K:adm}{Kp:adm}
def Az{i:TI}{d:TypeDesc}{e:Nat}(h:dH P i d=true)(a:i.kind=.chan e):∃dir,d=.chan dir e:=by cases d<;>simp_all [dH]
def DW{t e:Nat}{x:adT}{i h:TI}{kd:IntKind}{n:Int}(l:o.op=.makeChan t x)(m:L.tt t=some i)(p:i.kind=.chan e)(q:L.tt e=some h)(u:ao env x=.lit (.int kd n))(z:0<=n/\n<=1000000/\h.bytes<=1000000)
 (v:∀b,σ b=none->K (.chan b) (σ.set b (.raw (.chan n.toNat #[] false 0 0 false)))):aJ P o env σ K Kp:=
 aJ.val (s:=λf=>Instr.makeChan t (f x)) (λf=>by simp[execOp,l]) λk O f w j=>by
  have c:=w x (by simp_all)
  rw[u]at c;rw[dt c];unfold Instr.makeChan;refine ag (ah ?_);refine ag (aG L m λd _ hd=>?_)
  obtain⟨dir,rfl⟩:=Az hd p;simp only;refine ag (cV L q λinfo _ _ hb _=>?_)
  have y:((info.bytes:Int)*n)<=1000000*1000000:=by rw[hb];exact Int.mul_le_mul (by omega) (by omega) (by omega) (by omega)
  have g:¬(n<0\/n>IntKind.i64.max\/(info.bytes:Int)*n>2 ^ 48-112):=by have:IntKind.i64.max=9223372036854775807:=rfl;omega
  rw[aay g];refine ag (s:=newObj _) ⟨rfl,λr a=>ah ?_⟩
  exact .here ⟨.made a.2.2,_,_,.chan r,(j.mono (.made a.2.2)).set (.raw _ rfl),v r (j.isNone a.1 a.2.2)⟩
end
def yp(P:adS)(d:Deferred):adF:=G {(default:Frame)with fn:=P.funcs.size,defers:=[d],mode:=.panicking [goexitEntry]} []
def AA:Item->Bool
 |.inRegion _ []=>true
 |.inBlock _=>true
 |.inScope _=>true
 |.code .skip=>true
 |.code .ret=>true
 |_=>false
def yq{P:adS}{f:FuncId}{fn:Func}{tmps:adq}(b:P.funcs[f]?=some fn)(d:fn.results=#[]):∀(todo:adD),todo.all AA=true->∃n,QuitsD P n 0 (G ⟨f,tmps,todo,[],.run,.deferred,none⟩ [cE P])
 |[],_=>⟨_,.ctl rfl (λw=>by simp[G,stepG,stepG.exec,kP]) (uQ b d (todo:=[]) (tmps:=tmps))⟩
 | i ::k,h=>by
   simp only[abj,zj]at h;obtain⟨n,e⟩:=yq (tmps:=tmps) b d k h.2;by_cases a:i=.code .ret
   . subst a
     exact⟨_,.ctl rfl (λw=>by simp[G,stepG,stepG.exec,kP]) (uQ b d (todo:=.code .ret::k) (tmps:=tmps))⟩
   . refine⟨_,.ctl rfl (λw=>?_) e⟩
     cases i with
     |code c=>cases c<;>first|(exact absurd rfl a)|(simp[AA]at h;done)|simp[G,stepG,stepG.exec]
     |inRegion ops l=>cases l<;>first|(simp[AA]at h;done)|simp[G,stepG,stepG.exec]
     |_=>first|(simp[AA]at h;done)|simp[G,stepG,stepG.exec]
section
variable{P:adS}{fid n:Nat}{ro:adw}{s:St}{k:adD}{K:ada}{A:bH}{Fin:acP}
def xf.none{m:Mo}{Q:acP}{kind:adK}{cs:adt}{a:aj}:xf P m Q fid n ro kind cs (λ_ _=>False) a:=⟨λ_ _ _ _ _ _ _ _ _ _ h=>h.elim,λ_ _ _ _ _ _ _ _ _ _ _ h=>h.elim⟩
def yr{fn:FuncId}:seen P fn #[]=#[]:=rfl
def F4{fr:Frame}{cs:adt}{x:Sem Go.Next}{w:World}{cases:Array CommCase}{b:Bool}{sh:CommShape}(h:x.runT P w #[]=(.ok (.comm cases b sh) w,#[])):stepG.apply P true fr cs none x w=.comm (G fr cs) cases b sh w #[]:=by simp only[stepG.apply,aaA,h,ite_self,yr,GStep.after];rfl
def DX{fr:Frame}{cs:adt}{x:Sem Go.Next}{w:World}{f:Fn}{cap:adq}{args:adq}(h:x.runT P w #[]=(.ok (.spawn {target:=.fn f cap,args}) w,#[])):stepG.apply P true fr cs none x w=.spawn (G (fr.finish undef) cs) (yp P {target:=.fn f cap,args}) w #[]:=by simp only[stepG.apply,aaA,h,ite_self,yr,GStep.after];simp[yp,G]
def ys{b:Bool}{ops:adu}{i:Nat}{rest:adH}{o:Oper}{ch x:adT}{tmps:adq}{defs:adj}{kind:adK}{cs:adt}{m:Mo}{env:Env}{d:aj}{c:Nat}(r:ops[i]?=some o)(f:o.op=.send ch x)(p:tmps.size=n)(q:fK d tmps env)(s:bV ops n env o)
 (g:Oper.ok n o=true) (h:ao env ch=.chan c) (w:World):
 ∃ v,V d v (ao env x)/\stepG P m.main (G ⟨fid,tmps,.inRegion ops (i::rest)::k,defs,.run,kind,ro⟩ cs) w=.comm (G ⟨fid,tmps,.inRegion ops (i::rest)::k,defs,.run,kind,ro⟩ cs) #[scase c v (.tuple #[])] true .send w #[]/\
   v=Frame.eval ⟨fid,tmps,.inRegion ops (i::rest)::k,defs,.run,kind,ro⟩ x:=by
 have a:∀y∈o.op.operands,V d (Frame.eval ⟨fid,tmps,.inRegion ops (i::rest)::k,defs,.run,kind,ro⟩ y) (ao env y):=λy A=>by
  refine V.eval q p y ?_;simp only[Oper.ok,zj,aaK]at g
  grind
 have j:=a ch (by simp_all);have t:=a x (by simp_all);rw[h]at j;generalize u:Frame.eval ⟨fid,tmps,.inRegion ops (i::rest)::k,defs,.run,kind,ro⟩ ch=B at j;cases j;refine⟨_,t,?_,rfl⟩;rw[dT r (ij p q s) (.inr λc e=>by simp_all) w];have l:execOp (Frame.eval ⟨fid,tmps,.inRegion ops (i::rest)::k,defs,.run,kind,ro⟩) o=pure (.comm #[scase c (Frame.eval ⟨fid,tmps,.inRegion ops (i::rest)::k,defs,.run,kind,ro⟩ x) (.tuple #[])] true .send):=by simp[execOp,f,u,scase]
 rw[l];by_cases z:(kind==CallKind.early)=true<;>simp[stepG.apply,seen,z,GStep.after,G]
def wC{α:Type}{f:TypeDesc->Sem α}{t:TypeId}{d:TypeDesc}{w:World}{es:ads}(h:P.underlying t=some d):(underlying t >>=f).runT P w es=(f d).runT P w es:=by
 unfold underlying
 simp_all
def yt{α:Type}{f:Value->Sem α}{t:TypeId}{info:TypeInfo}{z:Value}{w:World}{es:ads}(h:P.info? t=some info)(a:info.zero=some z):(zeroValue t >>=f).runT P w es=(f z).runT P w es:=by
 unfold zeroValue typeInfo
 simp_all
def yu(L:jo P){ok:Bool}{ops:adu}{i:Nat}{rest:adH}{o:Oper}{ct ce:Nat}{v a:TI}{ch:adT}{tmps:adq}{defs:adj}{kind:adK}{cs:adt}{m:Mo}{env:Env}{x:aj}{c:Nat}(A:ops[i]?=some o)(b:o.op=.recv ct ch ok)(f:L.tt ct=some v)(g:v.kind=.chan ce)(h:L.tt ce=some a)
 (y:tmps.size=n) (z:fK x tmps env) (B:bV ops n env o) (j:Oper.ok n o=true) (l:ao env ch=.chan c) (w:World):
 stepG P m.main (G ⟨fid,tmps,.inRegion ops (i::rest)::k,defs,.run,kind,ro⟩ cs) w=.comm (G ⟨fid,tmps,.inRegion ops (i::rest)::k,defs,.run,kind,ro⟩ cs) #[rcase c a.zero] true (.recv ok) w #[]:=by
 have p:V x (Frame.eval ⟨fid,tmps,.inRegion ops (i::rest)::k,defs,.run,kind,ro⟩ ch) (ao env ch):=by
  refine V.eval z y ch ?_;simp only[Oper.ok,zj,aaK]at j
  simp_all
 rw[l]at p;generalize C:Frame.eval ⟨fid,tmps,.inRegion ops (i::rest)::k,defs,.run,kind,ro⟩ ch=D at p;cases p;rw[dT A (ij y z B) (.inr λc e=>by simp_all) w]
 obtain⟨⟨d,q,r⟩,_⟩:=L.facts f;obtain⟨dir,rfl⟩:=Az r g;obtain⟨_,info,s,_,_,t,_⟩:=L.facts h
 have u:(execOp (Frame.eval ⟨fid,tmps,.inRegion ops (i::rest)::k,defs,.run,kind,ro⟩) o).runT P w #[]=(.ok (.comm #[rcase c a.zero] true (.recv ok)) w,#[]):=by simp only[execOp,b,C];rw[wC q];simp only;rw[yt s t];rfl
 exact F4 u
def DY{ops:adu}{i:Nat}{rest:adH}{o:Oper}{fo:adT}{args:adi}{j:ado}{f:Fn}{first cap:adL}{tmps:adq}{defs:adj}{kind:adK}{cs:adt}{m:Mo}{env:Env}{d:aj}(B:ops[i]?=some o)(l:o.op=.go ⟨.value fo,args,j⟩)
 (s:tmps.size=n) (t:fK d tmps env) (C:bV ops n env o) (p:Oper.ok n o=true) (q:ao env fo=.fn f first cap):
 ∃ u y,Vs d u cap/\Vs d y (first++args.toList.map (ao env))/\∀w,stepG P m.main (G ⟨fid,tmps,.inRegion ops (i::rest)::k,defs,.run,kind,ro⟩ cs) w=
   .spawn (G (Frame.finish ⟨fid,tmps,.inRegion ops (i::rest)::k,defs,.run,kind,ro⟩ undef) cs) (yp P {target:=.fn f u.toArray,args:=y.toArray}) w #[]:=by
 have b:∀x∈o.op.operands,V d (Frame.eval ⟨fid,tmps,.inRegion ops (i::rest)::k,defs,.run,kind,ro⟩ x) (ao env x):=λx D=>by
  refine V.eval t s x ?_;simp only[Oper.ok,zj,aaK]at p
  grind
 have r:=b fo (by simp_all);rw[q]at r;generalize E:Frame.eval _ fo=cf at r;cases r with
 | fn _ h z K L M F N H=>
   have I:=Vs.ofArray (k:=d) (ρ:=Frame.eval ⟨fid,tmps,.inRegion ops (i::rest)::k,defs,.run,kind,ro⟩) (env:=env) (xs:=args) (λx D=>b x (by simp_all));refine⟨z.toList,h.toList++(args.map (Frame.eval ⟨fid,tmps,.inRegion ops (i::rest)::k,defs,.run,kind,ro⟩)).toList,⟨by omega,λi v a A g=>H i v a (by grind) g⟩,Vs.append ⟨by omega,λi v a A g=>F i v a (by grind) g⟩ ⟨by grind,λi v a A g=>I.2 i v a (by grind) g⟩,λw=>?_⟩;rw[dT B (ij s t C) (.inr λc e=>by simp_all) w];refine(DX (f:=f) (cap:=z) (args:=h++args.map (Frame.eval ⟨fid,tmps,.inRegion ops (i::rest)::k,defs,.run,kind,ro⟩)) ?_).trans ?_
   . simp only[execOp,l,resolve,E,Deferred.ofValue]
     rfl
   . have J:∀x:adq,(h.toList++x.toList).toArray=h++x:=λx=>by grind
     rw[J,Array.toArray_toList]
def F5{m:Mo}{Q:acP}{kk:aj}{O:ak}{tmps:adq}{defs:adj}{kind:adK}{cs:adt}{f:FuncId}{fn:Func}{ops:adu}{i:Nat}{rest:adH}{o:Oper}{args:adi}{j:ado}(z:ops[i]?=some o)(p:o.op=.call ⟨.value (.func f),args,j⟩)(A:bV ops n s.env o)(q:Oper.ok n o=true)
 (B:P.funcs[f]?=some fn) (hb:fn.body.isSome=true) (t:(fn.name==  "runtime.NumGoroutine")=false) (g:CN n kk O tmps defs kind cs s)
 (h:∀cargs,Vs kk cargs (args.toList.map (ao s.env))->T P m Q kk O (G (Frame.enter P f cargs.toArray .normal) (⟨fid,tmps,.inRegion ops (i::rest)::k,defs,.run,kind,ro⟩::fU s.rc cs))):T P m Q kk O (G ⟨fid,tmps,.inRegion ops (i::rest)::k,defs,.run,kind,ro⟩ (fU s.rc cs)):=by
 refine T.oz (λw=>dT z (ij g.size g.env A) (.inr λc e=>by simp_all) w) (dP ?_)
 have b:∀x∈o.op.operands,V kk (Frame.eval ⟨fid,tmps,.inRegion ops (i::rest)::k,defs,.run,kind,ro⟩ x) (ao s.env x):=λx y=>by
  refine V.eval g.env g.size x ?_;simp only[Oper.ok,zj,aaK]at q
  grind
 have C:=Vs.ofArray (k:=kk) (ρ:=Frame.eval ⟨fid,tmps,.inRegion ops (i::rest)::k,defs,.run,kind,ro⟩) (env:=s.env) (xs:=args) (λx y=>b x (by simp_all))
 have u:fn.body.isNone=false:=by cases y:fn.body<;>simp_all
 simp only[execOp,p,resolve];refine ag ?_;show dK P (Deferred.ofValue (.func (.func f) #[] #[]) _) kk O _ _;simp only[Deferred.ofValue];refine ah ?_;simp only[invoke,callFunc];refine ag (bo ?_);rw[B];simp only[t,u,LK,Rp];refine ah λ_=>⟨λd w r s l=>by simp,?_⟩
 have:=h (args.map (Frame.eval ⟨fid,tmps,.inRegion ops (i::rest)::k,defs,.run,kind,ro⟩)).toList ⟨by grind,λi v a E D=>C.2 i v a (by grind) D⟩
 have key:∀x:adq,x=(args.map (Frame.eval ⟨fid,tmps,.inRegion ops (i::rest)::k,defs,.run,kind,ro⟩)).toList.toArray->T P m Q kk O (G (Frame.enter P f x .normal) (⟨fid,tmps,.inRegion ops (i::rest)::k,defs,.run,kind,ro⟩::fU s.rc cs)):=λx e=>by grind
 grind
def rU(P:adS)(m:Mo)(fid n:Nat)(ro:adw)(K:ada)(kd:adK)(a:adt)(b:aj)(Fin:acP):Prop:=∀todo s k' O' tmps defs,Go P m fid n ro todo s K->s.rc=.no->CN n k' O' tmps defs kd a s->b.Le k'->Fin k' O' (G ⟨fid,tmps,todo,defs,.run,kd,ro⟩ a)
def Go.Mp{m:Nat}{ops:adu}{i:Nat}{rest:adH}{o:Oper}{args:adi}{f:ado}{fn:Func}(r:ops[i]?=some o)(g:o.op=.call ⟨.value (.func A.ng.add),args,f⟩)(u:bV ops n s.env o)(j:Oper.ok n o=true)
 (w:P.funcs[A.ng.add]?=some fn) (hb:fn.body.isSome=true) (l:(fn.name==  "runtime.NumGoroutine")=false) (z:args.toList.map (ao s.env)=[.ref A.gb 0,.lit (.int .i64 1)])
 (h:Go P (FN P A Fin m) fid n ro (.inRegion ops rest::k) {s with env:=bd s.env o.dst (.ck [])} (λ_ _=>False)):Go P (pH P A Fin (m+1)) fid n ro (.inRegion ops (i::rest)::k) s K:=by
 intro Q kk O tmps defs kind cs p q F;refine F5 r g u j w hb l q λb t=>?_
 rw[z]at t;obtain⟨B,c⟩:=t
 have e:b.toArray=#[.pointer (some ⟨A.gb,0,none⟩),.int .i64 1]:=by
  match b,B,c with
  |[x,y],_,c=>have C:=c 0 x _ rfl rfl;have p:=c 1 y _ rfl rfl;cases C;cases p;rfl
 rw[e];refine .dh gV rfl ⟨rfl,_,_,rfl,?_⟩ (λ_ _ _ h=>h.elim);obtain⟨d,D,E⟩:=q.put (fid:=fid) (ro:=ro) (rest:=rest) (kk:=k) (σ':=s.σ) (v:=.tuple #[]) (a:=.ck []) (.refl kk) r (.ck _ _ rfl λi v a h=>by simp at h) q.rel;show T P (FN P A Fin m) gV kk O (G (Frame.finish ⟨fid,tmps,.inRegion ops (i::rest)::k,defs,.run,kind,ro⟩ (.tuple #[])) (fU s.rc cs));rw[D];exact h gV kk O d defs kind cs p E .none
def jU(b:Nat):aa:=λc=>if c=b then some .ig else none
def HU{m:Mo}{f:FuncId}{fn:Func}{body:Code}{cap args:adL}{σ0:aa}{KE:aj->ada}(k:P.funcs[f]?=some fn)(hb:fn.body=some body)(n:(fn.name==  "runtime.NumGoroutine")=false)(q:(args++cap).length<=fn.ntmps){kk:aj}(d:Rel kk ak.bot σ0)
 (o:xf P m gV f fn.ntmps none .deferred [cE P] (KE kk) kk)
 (h:∀l,Go P m f fn.ntmps none [.code body] ⟨dw (args++cap),σ0,[],.told .deferred [cE P] l⟩ (KE l)){a b:adx}(g:Vs kk a cap) (i:Vs kk b args):
 T P m gV kk ak.bot (yp P {target:=.fn (.func f) a.toArray,args:=b.toArray}):=by
 have p:fn.body.isNone=false:=by simp[hb]
 have hinv:∀w,(invoke (.fn (.func f) a.toArray) b.toArray).runT P w #[]=(.ok (.enter f (b++a).toArray) w,#[]):=λw=>by
  show Sem.runT P (callFunc f (b.toArray++a.toArray)) w #[]=_;unfold callFunc;rw[gz,k]
  simp_all
 refine T.dq (g':=G (Frame.enter P f (b++a).toArray .deferred) [cE P]) rfl (λw=>?_) ?_
 . simp only[yp,G,stepG,unwind,callDeferred,hinv]
   simp;rfl
 . have c:=i.append g
   have e:Frame.enter P f (b++a).toArray .deferred=⟨f,(b++a).toArray++Array.replicate (fn.ntmps-(b++a).length) undef,[.code body],[],.run,.deferred,none⟩:=by simp[Frame.enter,k,hb]
   have j:((b++a).toArray++Array.replicate (fn.ntmps-(b++a).length) undef).size=fn.ntmps:=by
    have:=c.1
    simp_all
   rw[e];exact h kk gV kk ak.bot _ [] .deferred [cE P] (by simp) ⟨j,uC c _,d,trivial,rfl,rfl,.refl kk⟩ o
def Sd(P:adS)(A:bH)(fn:Func):ada:=λe s=>fn.results=#[]/\(e=.leave none\/e=.leave (some .ret))/\(∃a,s.rc=.told .deferred [cE P] a)/\∃r,s.D=[.mark r,.call (.func A.ng.done) [] [.ref A.gb 0]]/\s.σ r=some (.raw (.deferred (some [])))
def Ja{f:FuncId}{fn fd:Func}(hf:P.funcs[f]?=some fn)(d:P.funcs[A.ng.done]?=some fd)(z:fd.body.isSome=true)(a:(fd.name==  "runtime.NumGoroutine")=false){kk:aj}:xf P (lh P A) gV f fn.ntmps none .deferred [cE P] (Sd P A fn) kk where
 leave k' O' tmps defs s todo n hle hs B e:=by
  obtain⟨b,I,⟨J,c⟩,r,o,p⟩:=e;obtain⟨env,σ,D,rc⟩:=s;simp only at c o p;subst c o;show T P (lh P A) gV k' O' (G ⟨f,tmps,todo,defs,.run,.deferred,none⟩ [cE P]);have g:=hs.ds
  match defs,g with
  | [d1,d2],⟨q,t,_⟩=>
    simp only[uA]at q t;obtain⟨C,E,rfl,i,j⟩:=t;subst q;have e1:C=#[]:=by have:=i.1;simp_all
    have e2:E=#[.pointer (some ⟨A.gb,0,none⟩)]:=by
     obtain⟨v,L,k⟩:=Vs.one j;cases k
     grind
    subst e1 e2;refine T.dq (g':=G ⟨f,tmps,todo,[{target:=.collected r,args:=#[]},{target:=.fn (.func A.ng.done) #[],args:=#[.pointer (some ⟨A.gb,0,none⟩)]}],.returning,.deferred,none⟩ [cE P]) rfl (λw=>?_) ?_
    . rcases B with⟨rfl,rfl⟩|⟨kk,rfl,rfl⟩|⟨_,_,_,_,rfl⟩
      . simp[G,stepG,stepG.exec]
      . simp[G,stepG,stepG.exec]
      grind
    . refine T.C2 (fid:=f) (s:=Instr.takeDeferred r) rfl (K:=λcalls u F=>calls=[]/\u=k') (nxt:=λcalls w=>.go (G ⟨f,tmps,todo,calls++[{target:=.fn (.func A.ng.done) #[],args:=#[.pointer (some ⟨A.gb,0,none⟩)]}],.returning,.deferred,none⟩ [cE P]) w) ?_ ?_ ?_
      . rintro calls u F w' _ _ ⟨rfl,rfl⟩
        refine⟨_,rfl,?_⟩
        have hinv:∀w,(invoke (.fn (.func A.ng.done) #[]) #[.pointer (some ⟨A.gb,0,none⟩)]).runT P w #[]=(.ok (.enter A.ng.done #[.pointer (some ⟨A.gb,0,none⟩)]) w,#[]):=λw=>by
         show Sem.runT P (callFunc A.ng.done _) w #[]=_;unfold callFunc;have l:fd.body.isNone=false:=by simp_all
         rw[gz,d];simp only[a,l,LK,Rp];simp
        refine T.dq (g':=G (Frame.enter P A.ng.done #[.pointer (some ⟨A.gb,0,none⟩)] .deferred) [kP P f tmps todo,cE P]) rfl (λw=>?_) ?_
        . simp only[G,stepG,unwind,callDeferred,hinv,acs]
          simp;rfl
        . exact .dh gV rfl ⟨rfl,f,fn,tmps,todo,hf,b,rfl⟩ (λ_ _ _ h=>h.elim)
      . intro w v w' y
        simp only[G,stepG,unwind]
        simp_all
      . obtain⟨x,hx,m⟩:=hs.rel.1 r _ p (by simp)
        cases m with
        |raw _ hc=>unfold Instr.takeDeferred;refine ag (s:=getObj r) ⟨_,hx,rfl,?_⟩;exact ag (s:=setObj r _) ⟨⟨_,hx,rfl⟩,rfl,ah ⟨rfl,rfl⟩⟩
 panic k' O' tmps defs s todo M N hle hs H e:=by obtain⟨_,h|h,_⟩:=e<;>cases h
def DZ{kk:aj}{O:ak}{σ:aa}{b:Nat}(d:Rel kk O σ)(h:σ b=some .ig):Rel kk ak.bot (jU b):=by
 refine⟨λc a e f=>?_,λc a e _=>?_⟩
 . unfold jU at e
   split at e
   . cases e;cases f
   . cases e
 . unfold jU at e
   split at e
   . next q=>subst q;cases e;exact⟨rfl,(d.2 _ _ h rfl).2.1,λl q=>by cases q⟩
   . cases e
def Go.Iv{m:Nat}{KE:ada}{ops:adu}{i:Nat}{rest:adH}{o:Oper}{fo:adT}{args:adi}{c:ado}{f:FuncId}{fn:Func}{body:Code}{first cap:adL}(u:ops[i]?=some o)(d:o.op=.go ⟨.value fo,args,c⟩)(v:bV ops n s.env o)(e:Oper.ok n o=true)
 (g:ao s.env fo=.fn (.func f) first cap) (x:P.funcs[f]?=some fn) (hb:fn.body=some body) (j:(fn.name==  "runtime.NumGoroutine")=false) (y:((first++args.toList.map (ao s.env))++cap).length<=fn.ntmps) (l:s.σ A.fb=some .ig) (p:∀kk,xf P (iE P A (A.n-(m+1))) gV f fn.ntmps none .deferred [cE P] KE kk)
 (z:∀B,Go P (iE P A (A.n-(m+1))) f fn.ntmps none [.code body] ⟨dw ((first++args.toList.map (ao s.env))++cap),jU A.fb,[],.told .deferred [cE P] B⟩ KE)
 (h:Go P (pH P A Fin m) fid n ro (.inRegion ops rest::k) {s with env:=bd s.env o.dst .cD} (λ_ _=>False)):Go P (FN P A Fin m) fid n ro (.inRegion ops (i::rest)::k) s K:=by
 intro Q kk O tmps defs kind cs C b F;obtain⟨G,H,q,r,t⟩:=DY (P:=P) (fid:=fid) (k:=k) (rest:=rest) (defs:=defs) (kind:=kind) (ro:=ro) (cs:=fU s.rc cs) (m:=FN P A Fin m) u d b.size b.env v e g;obtain⟨a,D,E⟩:=b.put (fid:=fid) (ro:=ro) (rest:=rest) (kk:=k) (σ':=s.σ) (.refl kk) u (.cD undef) b.rel;refine .dh gV rfl ⟨rfl,_,_,λw _=>t w,HU (KE:=λ_=>KE) x hb j y (DZ b.rel l) (p _) z q r,?_⟩ (λ_ _ _ h=>h.elim);rw[D];exact h gV kk O a defs kind cs C E .none
def Go.Xn(u:A.dir=false){ops:adu}{i:Nat}{rest:adH}{o:Oper}{fo:adT}{args:adi}{d:ado}{f:FuncId}{fn:Func}{body:Code}{first cap:adL}(v:ops[i]?=some o)(e:o.op=.go ⟨.value fo,args,d⟩)(x:bV ops n s.env o)(g:Oper.ok n o=true)
 (j:ao s.env fo=.fn (.func f) first cap) (y:P.funcs[f]?=some fn) (hb:fn.body=some body) (l:(fn.name==  "runtime.NumGoroutine")=false) (z:((first++args.toList.map (ao s.env))++cap).length<=fn.ntmps) (p:s.σ A.fb=some .ig)
 (B:∀C,Go P (xV P A) f fn.ntmps none [.code body] ⟨dw ((first++args.toList.map (ao s.env))++cap),jU A.fb,[],.told .deferred [cE P] C⟩ (λ_ _=>False))
 (h:Go P (rS P A Fin A.n (List.range A.n)) fid n ro (.inRegion ops rest::k) {s with env:=bd s.env o.dst .cD} (λ_ _=>False)):Go P (pH P A Fin 0) fid n ro (.inRegion ops (i::rest)::k) s K:=by
 intro Q kk O tmps defs kind cs D b G;obtain⟨H,I,q,r,t⟩:=DY (P:=P) (fid:=fid) (k:=k) (rest:=rest) (defs:=defs) (kind:=kind) (ro:=ro) (cs:=fU s.rc cs) (m:=pH P A Fin 0) v e b.size b.env x g j;obtain⟨a,E,F⟩:=b.put (fid:=fid) (ro:=ro) (rest:=rest) (kk:=k) (σ':=s.σ) (.refl kk) v (.cD undef) b.rel;have c:pH P A Fin 0=_:=aay (by simp_all);rw[c];refine .dh gV rfl ⟨rfl,_,_,λw _=>by have:=t w;rw[c]at this;exact this,HU (KE:=λ_ _ _=>False) y hb l z (DZ b.rel p) .none B q r,?_⟩ (λ_ _ _ h=>h.elim);rw[E];exact h gV kk O a defs kind cs D F .none
def Go.Mq(f:A.dir=false){j:Nat}{ops:adu}{i:Nat}{rest:adH}{o:Oper}{ch x:adT}{fn fd:Func}{D:aj}(r:ops[i]?=some o)(g:o.op=.send ch x)(l:Oper.ok n o=true)(C:bV ops n s.env o)(p:ao s.env ch=.chan A.cF)(L:ao s.env x=A.res j)
 (t:s.σ A.fb=some .ig) (u:s.rc=.told .deferred [cE P] D) (y:ro=none) (E:P.funcs[fid]?=some fn) (F:n=fn.ntmps) (z:P.funcs[A.ng.done]?=some fd) (B:fd.body.isSome=true) (q:(fd.name==  "runtime.NumGoroutine")=false)
 (h:Go P (lh P A) fid n ro (.inRegion ops rest::k) {s with env:=bd s.env o.dst (.lit undef)} (Sd P A fn)):Go P (iE P A j) fid n ro (.inRegion ops (i::rest)::k) s K:=by
 intro Q kk O tmps defs kind cs H a M;have c:=a.rc;rw[u]at c;obtain⟨rfl,rfl,I⟩:=c;subst y F;obtain⟨d,N,J⟩:=a.put (fid:=fid) (ro:=none) (rest:=rest) (kk:=k) (σ':=s.σ) (.refl kk) r (.lit undef) a.rel;have R:=h gV kk O d defs .deferred [cE P] H J (Ja E z B q);refine .dh gV rfl (.inr (.inr ⟨f,rfl,(a.rel.2 _ _ t rfl).1,G ⟨fid,tmps,.inRegion ops (i::rest)::k,defs,.run,.deferred,none⟩ (fU s.rc [cE P]),.tuple #[],Frame.eval ⟨fid,tmps,.inRegion ops (i::rest)::k,defs,.run,.deferred,none⟩ x,λw _=>?_,?_,?_⟩)) (λ_ _ _ h=>h.elim)
 . obtain⟨v,_,e,rfl⟩:=ys (P:=P) (m:=iE P A j) (b:=false) r g a.size a.env C l p w (fid:=fid) (ro:=none) (k:=k) (rest:=rest) (defs:=defs) (kind:=.deferred) (cs:=fU s.rc [cE P])
   exact e
 . obtain⟨v,S,_,rfl⟩:=ys (P:=P) (m:=iE P A j) (b:=false) r g a.size a.env C l p default (fid:=fid) (ro:=none) (k:=k) (rest:=rest) (defs:=defs) (kind:=.deferred) (cs:=fU s.rc [cE P])
   simp_all
 . show T P (lh P A) gV kk O (G (Frame.finish ⟨fid,tmps,.inRegion ops (i::rest)::k,defs,.run,.deferred,none⟩ undef) (fU s.rc [cE P]))
   simp_all
def Go.Mr{ops:adu}{i:Nat}{rest:adH}{o:Oper}{args:adi}{d:ado}{fn:Func}(p:ops[i]?=some o)(e:o.op=.call ⟨.value (.func A.ng.wait),args,d⟩)(r:bV ops n s.env o)(f:Oper.ok n o=true)
 (t:P.funcs[A.ng.wait]?=some fn) (hb:fn.body.isSome=true) (g:(fn.name==  "runtime.NumGoroutine")=false) (u:args.toList.map (ao s.env)=[.ref A.gb 0])
 (h:Go P (su P A) fid n ro (.inRegion ops rest::k) {s with env:=bd s.env o.dst (.ck [])} (λ_ _=>False)):Go P (xV P A) fid n ro (.inRegion ops (i::rest)::k) s K:=by
 intro Q kk O tmps defs kind cs w j z;refine F5 p e r f t hb g j λl q=>?_
 rw[u]at q;obtain⟨v,rfl,m⟩:=Vs.one q;cases m;refine .dh gV rfl ⟨rfl,_,_,rfl,λk' c=>?_⟩ (λ_ _ _ h=>h.elim);obtain⟨b,x,y⟩:=j.put (fid:=fid) (ro:=ro) (rest:=rest) (kk:=k) (σ':=s.σ) (v:=.tuple #[]) (a:=.ck []) c p (.ck _ _ rfl λi v a h=>by simp at h) (j.rel.mono c);show T P (su P A) gV k' O (G (Frame.finish ⟨fid,tmps,.inRegion ops (i::rest)::k,defs,.run,kind,ro⟩ (.tuple #[])) (fU s.rc cs));rw[x];exact h gV k' O b defs kind cs w y .none
def F6{c s r:Nat}{tm:Bool}{w:World}{a:ado}{ty:TypeId}{cs:Array Bool}(h:w.heap[c]?=some (.chan 0 #[] false s r tm)):
 (invoke (.builtin .close a ty cs) #[.chan (some c)]).runT P w #[]=(.ok (.value (.tuple #[])) {w with heap:=w.heap.setIfInBounds c (.chan 0 #[] true s r tm)},#[⟨.obj c,false,true⟩,⟨.obj c,true,true⟩]):=by
 change Sem.runT P (Sem.getObj c _) w #[]=_;rw[Sem.runT,h];change Sem.runT P (Sem.setObj c _ _) w _=_;rw[Sem.runT,h];rfl
def D5{fr:Frame}{cs:adt}{x:Sem Go.Next}{w w':World}{v:Value}{es:ads}(a:(fr.kind==.early)=false)(h:x.runT P w #[]=(.ok (.value v) w',es))(b:seen P fr.fn es=es):stepG.apply P true fr cs none x w=.go (G (fr.finish v) cs) w' es:=by simp only[stepG.apply,aaA,h,a,GStep.after];simp[b,G]
def Go.F7{ops:adu}{i:Nat}{rest:adH}{o:Oper}{ch:adT}{g:ado}{fn:Func}{y:aj}(j:ops[i]?=some o)(e:o.op=.call ⟨.builtin .close,#[ch],g⟩)(l:Oper.ok n o=true)(B:o.guard=none)(a:ao s.env ch=.chan A.cF)
 (f:s.rc=.told .deferred [cE P] y) (z:s.D=[]) (p:ro=none) (C:P.funcs[fid]?=some fn) (E:fn.results=#[]) (F:(Item.inRegion ops rest::k).all AA=true):Go P (su P A) fid n ro (.inRegion ops (i::rest)::k) s K:=by
 intro Q kk O tmps defs kind cs J d L;obtain⟨env,σ,D,rc⟩:=s;simp only at f z;subst f;subst z;subst p;obtain⟨rfl,rfl,H⟩:=d.rc;have b:defs=[]:=by cases defs with|nil=>rfl|cons _ _=>exact d.ds.elim
 subst b;obtain⟨c,M,R⟩:=d.put (fid:=fid) (ro:=none) (rest:=rest) (kk:=k) (σ':=σ) (v:=.tuple #[]) (.refl kk) j (.cD _) d.rel;obtain⟨N,S⟩:=yq (tmps:=c) C E _ F
 have q:V kk (Frame.eval ⟨fid,tmps,.inRegion ops (i::rest)::k,[],.run,.deferred,none⟩ ch) (ao env ch):=by
  refine V.eval d.env d.size ch ?_;simp only[Oper.ok,zj,aaK]at l
  simp_all
 simp only at a;rw[a]at q;generalize t:Frame.eval ⟨fid,tmps,.inRegion ops (i::rest)::k,[],.run,.deferred,none⟩ ch=T at q;cases q;refine .dh gV rfl ⟨rfl,G (Frame.finish ⟨fid,tmps,.inRegion ops (i::rest)::k,[],.run,.deferred,none⟩ (.tuple #[])) [cE P],N,?_,λw s r I U a=>?_,?_⟩ (λ_ _ _ h=>h.elim)
 . simp[mayWake,G,fU,j,e]
 . have u:Region.wanted o (yielded ops tmps)=true:=by simp[Region.wanted,B]
   have x:(execOp (Frame.eval ⟨fid,tmps,.inRegion ops (i::rest)::k,[],.run,.deferred,none⟩) o).runT P w #[]=(.ok (.value (.tuple #[])) {w with heap:=w.heap.setIfInBounds A.cF (.chan 0 #[] true s r I)},#[⟨.obj A.cF,false,true⟩,⟨.obj A.cF,true,true⟩]):=by
    simp only[execOp,e,resolve];have:(#[ch].map (Frame.eval ⟨fid,tmps,.inRegion ops (i::rest)::k,[],.run,.deferred,none⟩))=#[.chan (some A.cF)]:=by simp[t]
    rw[this];exact F6 (cs:=#[]) a
   rw[show fU (Rec.told CallKind.deferred [cE P] y) [cE P]=[cE P]from rfl];refine(dT (m:=su P A) j u (.inl rfl) w).trans ?_;exact D5 (by simp) x (by simp[seen])
 simp_all
def Go.HV(L:jo P){m:Nat}{R:adH}{ops:adu}{i:Nat}{rest:adH}{o:Oper}{ct ce:Nat}{y C:TI}{ch:adT}(z:ops[i]?=some o)(g:o.op=.recv ct ch true)(l:L.tt ct=some y)(p:y.kind=.chan ce)(q:L.tt ce=some C)
 (r:Oper.ok n o=true) (D:bV ops n s.env o) (t:ao s.env ch=.chan A.cF)
 (h:∀j∈R,Go P (rS P A Fin m (R.erase j)) fid n ro (.inRegion ops rest::k) {s with env:=bd s.env o.dst (.ck [A.res j,.lit (.bool true)])} (λ_ _=>False)):Go P (rS P A Fin (m+1) R) fid n ro (.inRegion ops (i::rest)::k) s K:=by
 intro Q kk O tmps defs kind cs E f J;have c:=yu (P:=P) (fid:=fid) (k:=k) (rest:=rest) (defs:=defs) (kind:=kind) (ro:=ro) (cs:=fU s.rc cs) (m:=rS P A Fin (m+1) R) L z g l p q f.size f.env D r t;refine .dh gV rfl ⟨rfl,_,_,λw _=>c w,λw _=>c w,rfl,λj F k' v d M=>?_⟩ (λ_ _ _ h=>h.elim)
 have e:V k' (.tuple #[v,.bool true]) (.ck [A.res j,.lit (.bool true)]):=.ck _ _ rfl λi u a B x=>by
  match i with
  |0=>simp_all
  |1=>simp at B x;subst B;subst x;exact .lit _
  |i+2=>simp at x
 obtain⟨b,H,I⟩:=f.put (fid:=fid) (ro:=ro) (rest:=rest) (kk:=k) (σ':=s.σ) d z e (f.rel.mono d);show T P (rS P A Fin m (R.erase j)) gV k' O (G (Frame.finish ⟨fid,tmps,.inRegion ops (i::rest)::k,defs,.run,kind,ro⟩ _) (fU s.rc cs));rw[H];exact h j F gV k' O b defs kind cs E I .none
def Go.B9(L:jo P){m:Mo}{J:ada}{kd:adK}{f:adt}{M:aj}{R:adH}{ops:adu}{i:Nat}{rest:adH}{o:Oper}{ct ce:Nat}{N S:TI}{ch:adT}(T:ops[i]?=some o)(v:o.op=.recv ct ch true)(y:L.tt ct=some N)(z:N.kind=.chan ce)(B:L.tt ce=some S)
 (C:Oper.ok n o=true) (U:bV ops n s.env o) (D:ao s.env ch=.chan A.cF) (E:s.σ A.fb=some .ig) (g:s.rc=.told kd f M) (j:rU P m fid n ro J kd f M Fin)
 (h:∀a,A.GI a->Go P m fid n ro (.inRegion ops rest::k) {s with env:=bd s.env o.dst (.ck [.cD,.lit (.bool false)]),σ:=(s.σ.set A.mb a).set A.fb (.part (bE A.fo)),rc:=.no} J):Go P (rS P A Fin 0 R) fid n ro (.inRegion ops (i::rest)::k) s K:=by
 intro Q kk O tmps defs kind cs X e Y;have l:=yu (P:=P) (fid:=fid) (k:=k) (rest:=rest) (defs:=defs) (kind:=kind) (ro:=ro) (cs:=fU s.rc cs) (m:=rS P A Fin 0 R) L T v y z B e.size e.env U C D;have b:=e.rc;rw[g]at b;obtain⟨rfl,rfl,F⟩:=b;refine .dh gV rfl ⟨rfl,_,_,λw _=>l w,λw _=>l w,rfl,(e.rel.2 _ _ E rfl).2.1,λk' x a c H I=>?_⟩ (λ_ _ _ h=>h.elim)
 have p:V k' (.tuple #[S.zero,.bool false]) (.ck [.cD,.lit (.bool false)]):=.ck _ _ rfl λi u a r q=>by
  match i with
  |0=>simp at r q;subst r;subst q;exact .cD _
  |1=>simp at r q;subst r;subst q;exact .lit _
  |i+2=>simp at q
 obtain⟨d,W,t⟩:=e.put (fid:=fid) (ro:=ro) (rest:=rest) (kk:=k) (σ':=(s.σ.set A.mb a).set A.fb (.part (bE A.fo))) (O':=(O.set A.mb x).set A.fb (.part (bE A.fo))) c T p (((e.rel.mono c).set H).set (.part _));show Fin k' _ (G (Frame.finish ⟨fid,tmps,.inRegion ops (i::rest)::k,defs,.run,kind,ro⟩ _) (fU s.rc cs));rw[W,g];exact j _ _ k' _ d defs (h a I) rfl ⟨t.size,t.env,t.rel,t.ds,trivial⟩ (F.trans c)
def T.Vb{m:Mo}{Q:acP}{kk:aj}{O:ak}:∀(n:Nat){g a:adF},jr P (λ_=>True) n g a->T P m Q kk O a->T P m Q kk O g
 |0,g,a,h,b=>by obtain rfl:g=a:=h;exact b
 |n+1,g,a,⟨c,d,h⟩,b=>.step (λk' O' g'=>k'=kk/\O'=O/\g'=c) d.1 (λk' O' g' e=>by obtain⟨rfl,rfl,rfl⟩:=e;exact T.Vb n h b) λw f=>⟨c,w,#[],kk,O,d.2 _ w trivial,Eff.refl _ _ _,f,rfl,rfl,rfl⟩
def Go.Ra{m:Mo}{todo:adD}(f:m.solo=true)(B:gW)(C:gT P B.ng)(X:iN P B.ng)(CM:gF P B.nm)(XM:gJ P B.nm)(F:mI P B.nm){a:gn}{E:Nat->adn}{σ':aa}
 (J:B.dir=false->∃tm,s.σ B.cF=some (.raw (.chan 0 #[] false 0 0 tm))) (hG:s.σ B.gb=some (.cells [.lit (.int .u64 0),.lit (.int .u32 0)])) (hL:s.σ B.fb=some (.part E)) (L:E B.fo=some (.int .i32 0)) (M:E (B.fo+1)=some (.int .u32 0)) (N:B.dir=true->∀j,j<B.n->E (B.fo+2+j)≠none)
 (hM:s.σ B.mb=some a) (R:a.gone=false) (S:B.GI a) (U:s.rc=.no) (p:∀d y,σ' d=some y->(d=B.fb/\y=.ig)\/(d≠B.fb/\d≠B.mb/\d≠B.gb/\(B.dir=false->d≠B.cF)/\s.σ d=some y))
 (h:∀(b:Nat) (hb:0<b) (Fin:acP) (kd:adK) (q:adt) (k0:aj),rU P m fid n ro K kd q k0 Fin ->
   Go P (pH P (B.at b hb) Fin B.n) fid n ro todo {s with σ:=σ',rc:=.told kd q k0} (λ_ _=>False)):Go P m fid n ro todo s K:=by
 intro Q G O tmps defs kind cs h1 c h3;rw[U];refine T.sat rfl λ⟨w,r⟩=>?_
 obtain⟨xG,oG,rG⟩:=c.rel.1 _ _ hG (by simp)
 obtain⟨xM,oM,rM⟩:=c.rel.1 _ _ hM R;have oL:=c.rel.Ax hL;cases rG with
 | cells H eg _ q1 q2 q3=>
   have hg:∀(i:Nat) (v:Value),([.lit (.int .u64 0),.lit (.int .u32 0)]:adL)[i]?=some (AV.lit v)->H[i]?=some v:=λi v hv=>by
    have V:i<H.size:=by grind
    have t:=q2 i H[i] _ (by simp[V]) hv
    generalize hq:H[i]=u at t;cases t
    grind
   obtain⟨ec,cc,_,A,_⟩:=r.part _ _ oL
   refine .phase (λk' O' g'=>T P m Q k' O' g') f (λ_ _ _ h=>h) (F0 B C X CM XM F (λhd=>by
    obtain⟨tm,J⟩:=J hd;obtain⟨xF,oF,rF⟩:=c.rel.1 _ _ J (by simp)
    cases rF
    simp_all) oG (hg 0 _ rfl) (hg 1 _ rfl) oL L M N (λn k' O' g' gB h hT=>T.Vb n h hT) oM rM S λb hb=>?_)
   have D:rU P m fid n ro K kind cs G (λk' O' g'=>T P m Q k' O' g'):=λW s' k' O' g k o hn hs Y=>by have:=o Q k' O' g k kind cs h1 hs (h3.mono Y);rw[hn]at this;exact this
   have o:=h b hb _ kind cs G D;refine o gV G _ tmps defs kind cs h1 ⟨c.size,c.env,⟨λd y e I=>?_,λd y e I=>?_⟩,c.ds,rfl,rfl,.refl G⟩ .none
   . rcases p d y e with⟨rfl,rfl⟩|⟨d1,d2,d3,d4,e⟩
     . cases I
     . obtain⟨x,z1,Z⟩:=c.rel.1 d y e I
       exact⟨x,by simp only[gW.rest];grind,Z⟩
   . rcases p d y e with⟨rfl,rfl⟩|⟨d1,d2,d3,d4,e⟩
     . exact⟨by simp[gW.rest],⟨_,A⟩,λl z=>by cases z⟩
     . obtain⟨z1,Z⟩:=c.rel.2 d y e I
       exact⟨by simp[gW.rest,z1],Z⟩
def Go.bX{m:Mo}{todo:adD}(c:m.solo=true)(B:gW)(p:B.dir=false)(C:gT P B.ng)(X:iN P B.ng)(u:gF P B.nm)(v:gJ P B.nm)(F:mI P B.nm){tm:Bool}{a:gn}
 (w:s.σ B.cF=some (.raw (.chan 0 #[] false 0 0 tm))) (x:s.σ B.gb=some (.cells [.lit (.int .u64 0),.lit (.int .u32 0)])) (z:s.σ B.fb=some (.part (bE B.fo))) (A:s.σ B.mb=some a) (j:a.gone=false) (k:B.GI a) (l:s.rc=.no)
 (h:∀(b:Nat) (hb:0<b) (Fin:acP) (kd:adK) (f:adt) (r:aj),rU P m fid n ro K kd f r Fin ->
   Go P (pH P (B.at b hb) Fin B.n) fid n ro todo {s with σ:=((((s.σ.del B.cF).del B.gb).del B.mb).set B.fb .ig),rc:=.told kd f r} (λ_ _=>False)):Go P m fid n ro todo s K:=
 Go.Ra c B C X u v F (λ_=>⟨tm,w⟩) x z (by simp[bE]) (by simp[bE]) (λq=>by simp_all) A j k l (λd y e=>by
  by_cases g:d=B.fb
  . simp_all
  by_cases i:d=B.mb
  . subst i;simp[aa.set,aa.del,g]at e
  by_cases o:d=B.gb
  . subst o;simp[aa.set,aa.del,g,i]at e
  by_cases t:d=B.cF
  . subst t;simp[aa.set,aa.del,g,i,o]at e
  simp only[aa.set,aa.del,g,i,o,t,Rp]at e
  simp_all) h
end
end
open Go.Conc
section
variable{P:adS}{m:Mo}{fid n:Nat}{ro:adw}{hold:adv}{K:ada}{todo:adD}
def Go.Se{env a:Env}{σ:aa}{D:adO}{rc:Rec}(c:∀t,(env t).W (a t))(h:Go P m fid n ro todo ⟨a,σ,D,rc⟩ K):Go P m fid n ro todo ⟨env,σ,D,rc⟩ K:=λQ k O tmps defs kind cs d b e=>h Q k O tmps defs kind cs d ⟨b.size,λt f=>c t _ _ (b.env t f),b.rel,b.ds,b.rc⟩ e
def af.Se{env a:Env}{σ:aa}{D:adO}{rc:Rec}(c:∀t,(env t).W (a t))(h:af P m fid n ro hold todo ⟨a,σ,D,rc⟩ K):af P m fid n ro hold todo ⟨env,σ,D,rc⟩ K:=λb=>Go.Se c (h b)
def af.Jb{env:Env}{σ:aa}{D:adO}{rc:Rec}(t:Nat){a':AV}(a:(env t).W a')(h:af P m fid n ro hold todo ⟨env.upd t a',σ,D,rc⟩ K):af P m fid n ro hold todo ⟨env,σ,D,rc⟩ K:=
 af.Se (λu=>by
  by_cases e:u=t
  . simp_all
  . simp only[Env.upd,e,Rp];exact .refl _) h
def Tok.up{σ0 σ σ':aa}{a:AV}{kk:Nat}{es:adL}(h:Tok σ0 σ a kk es)(c:σ.Le σ'):Tok σ0 σ' a kk es:=by
 refine⟨aa.le_trans h.1 c,?_⟩;rcases h.2 with h|h|⟨b,e,d,f,g⟩
 . exact .inl h
 . simp_all
 . exact .inr (.inr ⟨b,e,d,f,c _ _ g⟩)
def af.bq{env:Env}{σ:aa}{D:adO}{rc:Rec}(t:Nat){b:Nat}{l:adL}(v:AV)(hb:σ b=some (.cells l))(c:env t=.ref b 0)(d:v.cells=l)(h:af P m fid n ro hold todo ⟨env.upd t (.cp v 0),σ.del b,D,rc⟩ K):af P m fid n ro hold todo ⟨env,σ,D,rc⟩ K:=
 af.freeze b l hb (λu=>Fz.upd (t:=t) (a':=.cp v 0) (by rw[c];exact .cp 0 0 v (by grind) (λj a h=>by simp_all)) u) (OT.del _ _ _) h
def sA(L:jo P){t f:Nat}{name:String}{i:TI}{info:TypeInfo}{mt:Method}{a:AV}(e:L.tt t=some i)(hi:P.info? t=some info)(g:info.methods.find? (·.name==name)=some mt)(h:mt.path.toList=[])(j:mt.func=some (f,false))(l:i.kind=.struct):oE P t name f a a:=by
 intro k O v K Kp m n;have o:Made.depth≠0:=by decide
 obtain⟨N,p⟩:∃N,P.types.size+Made.depth=N+1:=Nat.exists_eq_succ_of_ne_zero (by omega);rw[p];unfold method;refine ag (cV L e λc b _ _ _=>?_);rw[hi]at b;cases b;simp only[g,h];unfold follow;refine ag (ah ?_);simp only[j];refine ag ?_;unfold receiverAt;refine ag (aG L e λr _ d=>?_);obtain⟨q,rfl,_⟩:=sO d l;simp only[Place.get];exact ah (ah (n _ m))
def aa.Le.none{σ σ':aa}(h:σ.Le σ'){b:Nat}(hb:σ' b=Option.none):σ b=Option.none:=by
 cases e:σ b with
 |none=>rfl
 |some x=>rw[h b x e]at hb;cases hb
end
def gn.plain:gn->Bool
 |.part _=>false
 |.ig=>false
 |.stay _=>false
 |.map _=>false
 |_=>true
structure Ms(P:adS)(m:Mo)(nm:zv)(b o mb:Nat)(kd:IntKind)(GI:acY->Prop)(Un:adJ)(Ld:aa->acY->Prop):Prop where
 lock:∀{a:AV}{σ:aa}{KF:adl},jH b o a->Un σ->(∀σ' l,Ld σ' l->GI l->(∀c,c≠b->c≠mb->σ' c=σ c)->(∀y,σ mb=some y->y.plain=false)->KF (.val (.ck [])) σ')->aA P m nm.lock [a] σ KF
 unlock:∀{a:AV}{σ:aa}{l:acY}{KF:adl},jH b o a->Ld σ l->GI l->(∀σ',Un σ'->(∀c,c≠b->c≠mb->σ' c=σ c)->KF (.val (.ck [])) σ')->aA P m nm.unlock [a] σ KF
 map:∀{σ:aa}{l:acY},Ld σ l->σ mb=some (mapA kd l)
 put:∀{σ:aa}{l l':acY},Ld σ l->Ld (σ.set mb (mapA kd l')) l'
 un:∀{σ σ':aa},(∀c,c=b\/c=mb->(∃x,σ c=some x/\x.plain=false)->σ' c=σ c)->Un σ->Un σ'
 ld:∀{σ σ':aa}{l:acY},(∀c,c=b\/c=mb->(∃x,σ c=some x/\x.plain=false)->σ' c=σ c)->Ld σ l->Ld σ' l
 TE:∀{σ:aa},Un σ->∃x,σ b=some x/\x.plain=false
 Yr:∀{σ:aa}{l:acY},Ld σ l->∃x,σ b=some x/\x.plain=false
def TF(b o mb:Nat)(kd:IntKind)(GI:acY->Prop)(σ:aa):Prop:=σ b=some (.part (bE o))/\∃l,σ mb=some (mapA kd l)/\GI l
def ZQ(b o mb:Nat)(kd:IntKind)(σ:aa)(l:acY):Prop:=σ b=some (.part (ym o))/\σ mb=some (mapA kd l)
def Ys(b:Nat)(σ:aa):Prop:=σ b=some .ig
def ZR(b mb:Nat)(kd:IntKind)(σ:aa)(l:acY):Prop:=σ b=some (.part LQ)/\σ mb=some (mapA kd l)
section
variable{P:adS}{nm:zv}(C:gF P nm)(X:gJ P nm)(F:mI P nm)
include C X F in
def D9{m:Mo}(hs:m.solo=true){b o mb:Nat}(d:b≠mb){kd:IntKind}{GI:acY->Prop}:Ms P m nm b o mb kd GI (TF b o mb kd GI) (ZQ b o mb kd) where
 lock {a σ n} g hu h:=by obtain⟨f,l,e,i⟩:=hu;exact I9 C X F hs g f (h _ l ⟨aa.an _ _ _,by rw[aa.ai _ _ (za d)];exact e⟩ i (λc hc _=>aa.ai _ _ hc) (λy hy=>by rw[e]at hy;cases hy;rfl))
 unlock {a σ l n} g k hg h:=DU C X F hs g k.1 (h _ ⟨aa.an _ _ _,l,by rw[aa.ai _ _ (za d)];exact k.2,hg⟩ (λc hc _=>aa.ai _ _ hc))
 map h:=h.2
 put {σ l p} h:=⟨by rw[aa.ai _ _ d];exact h.1,aa.an _ _ _⟩
 un {σ j} he h:=by obtain⟨f,l,e,i⟩:=h;exact⟨by rw[he b (.inl rfl) ⟨_,f,rfl⟩];exact f,l,by rw[he mb (.inr rfl) ⟨_,e,rfl⟩];exact e,i⟩
 ld {σ j l} he h:=⟨by rw[he b (.inl rfl) ⟨_,h.1,rfl⟩];exact h.1,by rw[he mb (.inr rfl) ⟨_,h.2,rfl⟩];exact h.2⟩
 TE h:=⟨_,h.1,rfl⟩
 Yr h:=⟨_,h.1,rfl⟩
def Mt{A:bH}(hd:A.dir=false){j:Nat}{kd:IntKind}{GI:acY->Prop}(i:∀x,A.GI x↔∃l,x=mapA kd l/\GI l):Ms P (iE P A j) A.nm A.fb A.fo A.mb kd GI (Ys A.fb) (ZR A.fb A.mb kd) where
 lock {a σ k} e hu h:=I' hd e hu λx hx hm=>by obtain⟨l,rfl,d⟩:=(i x).1 hx;exact h _ l ⟨aa.an _ _ _,by rw[aa.ai _ _ (za A.d5),aa.an]⟩ d (λc f g=>by rw[aa.ai _ _ f,aa.ai _ _ g]) (λy hy=>by have:=hm y hy;cases y<;>first|rfl|cases this)
 unlock {a σ l k} e d hg h:=DV hd e d.1 d.2 ((i _).2 ⟨l,rfl,hg⟩) rfl (h _ (aa.an _ _ _) (λc f g=>by rw[aa.ai _ _ f];simp[aa.del,g]))
 map h:=h.2
 put {σ l m} h:=⟨by rw[aa.ai _ _ A.d5];exact h.1,aa.an _ _ _⟩
 un {σ b} he h:=by have h:σ A.fb=some .ig:=h;show b A.fb=some .ig;rw[he _ (.inl rfl) ⟨_,h,rfl⟩];exact h
 ld {σ b l} he h:=⟨by rw[he _ (.inl rfl) ⟨_,h.1,rfl⟩];exact h.1,by rw[he _ (.inr rfl) ⟨_,h.2,rfl⟩];exact h.2⟩
 TE h:=⟨_,h,rfl⟩
 Yr h:=⟨_,h.1,rfl⟩
end
def AB(a:Nat):Option TypeDesc->Bool
 |some (.struct fs)=>(match fs.toList with|[f]=>f.name !=  "_" && f.type==a && f.offset==0|_=>false)
 |_=>false
def K9.of{P:adS}{mt b e c:Nat}{kd:IntKind}(g:P.underlying mt=some (.map b e))(a:AB c (P.underlying b)=true)(h:P.underlying c=some (.int kd))(i:P.stoodInHeld b=false):K9 P mt b e c kd:=by
 refine⟨g,?_,h,i⟩;generalize P.underlying b=d at a;unfold AB at a;split at a
 . next fs=>
   split at a
   . next f j=>
     simp only[zj,bne_iff_ne,abI]at a;refine⟨f,?_,a.1.1,a.1.2,a.2⟩;congr 2
     grind
   . cases a
 . cases a
def pI(b mb:Nat)(σ σ':aa):Prop:=∀c x,σ c=some x->c≠b->(c≠mb\/x.plain=true)->σ' c=some x
def pI.refl(b mb:Nat)(σ:aa):pI b mb σ σ:=λ_ _ h _ _=>h
section
variable{P:adS}(L:jo P){m:Mo}{fid n:Nat}{ro:adw}{hold:adv}{s:St}{k:adD}{K:ada}{A:bH}{Fin:acP}
def af.runN(mu:adH)(N:Nat){todo:adD}(h:bx L m fid n ro mu hold N todo s K):af P m fid n ro hold todo s K:=λa=>Go.bx L mu hold N a h
def af.u6{c:Code}(h:af P m fid n ro hold (.code c::.inLoop c::k) s K):af P m fid n ro hold (.code (.loop c)::k) s K:=λa=>.QK (h (by simpa[jS,lg]using a))
def af.again{c:Code}(b:lg hold c=true)(h:af P m fid n ro hold (.code c::.inLoop c::k) s K):af P m fid n ro hold (.inLoop c::k) s K:=λa=>.inLoop (h (by
 simp only[jS,abj,zj]at a ⊢
 simp_all))
def af.bX{todo:adD}(d:m.solo=true)(B:gW)(e:B.dir=false)(C:gT P B.ng)(X:iN P B.ng)(l:gF P B.nm)(o:gJ P B.nm)(F:mI P B.nm){tm:Bool}{a:gn}
 (p:s.σ B.cF=some (.raw (.chan 0 #[] false 0 0 tm))) (q:s.σ B.gb=some (.cells [.lit (.int .u64 0),.lit (.int .u32 0)])) (r:s.σ B.fb=some (.part (bE B.fo))) (t:s.σ B.mb=some a) (g:a.gone=false) (i:B.GI a) (j:s.rc=.no)
 (h:∀(b:Nat) (hb:0<b) (Fin:acP) (kd:adK) (c:adt) (f:aj),rU P m fid n ro K kd c f Fin ->
   af P (pH P (B.at b hb) Fin B.n) fid n ro hold todo {s with σ:=((((s.σ.del B.cF).del B.gb).del B.mb).set B.fb .ig),rc:=.told kd c f} (λ_ _=>False)):af P m fid n ro hold todo s K:=λk=>
 Go.bX d B e C X l o F p q r t g i j λb hb Fin kd c f u=>h b hb Fin kd c f u k
def af.Mp{m:Nat}{ops:adu}{i:Nat}{rest:adH}{o:Oper}{args:adi}{a:ado}{fn:Func}(f:ops[i]?=some o)(b:o.op=.call ⟨.value (.func A.ng.add),args,a⟩)(g:o.guard=none)(c:Oper.ok n o=true)
 (j:P.funcs[A.ng.add]?=some fn) (hb:fn.body.isSome=true) (d:(fn.name==  "runtime.NumGoroutine")=false) (l:args.toList.map (ao s.env)=[.ref A.gb 0,.lit (.int .i64 1)])
 (h:af P (FN P A Fin m) fid n ro hold (.inRegion ops rest::k) {s with env:=bd s.env o.dst (.ck [])} (λ_ _=>False)):af P (pH P A Fin (m+1)) fid n ro hold (.inRegion ops (i::rest)::k) s K:=λe=>
 Go.Mp f b (bW g) c j hb d l (h (by simpa[jS,lg]using e))
def af.uu{m:Nat}{ops:adu}{i:Nat}{rest:adH}{o:Oper}{fo:adT}{args:adi}{b:ado}{f:FuncId}{fn:Func}{body:Code}{first cap:adL}{hold':adv}(q:ops[i]?=some o)(c:o.op=.go ⟨.value fo,args,b⟩)(r:o.guard=none)(d:Oper.ok n o=true)
 (e:ao s.env fo=.fn (.func f) first cap) (t:P.funcs[f]?=some fn) (hb:fn.body=some body) (g:(fn.name==  "runtime.NumGoroutine")=false) (u:((first++args.toList.map (ao s.env))++cap).length<=fn.ntmps) (j:s.σ A.fb=some .ig) (a:jS hold' [.code body]=true)
 (v:∀l,af P (iE P A (A.n-(m+1))) f fn.ntmps none hold' [.code body] ⟨dw ((first++args.toList.map (ao s.env))++cap),jU A.fb,[],.told .deferred [cE P] l⟩ (λ_ _=>False))
 (h:af P (pH P A Fin m) fid n ro hold (.inRegion ops rest::k) {s with env:=bd s.env o.dst .cD} (λ_ _=>False)):af P (FN P A Fin m) fid n ro hold (.inRegion ops (i::rest)::k) s K:=λp=>
 Go.Iv q c (bW r) d e t hb g u j (λ_=>.none) (λl=>v l a) (h (by simpa[jS,lg]using p))
def af.Xn(a:A.dir=false){ops:adu}{i:Nat}{rest:adH}{o:Oper}{fo:adT}{args:adi}{c:ado}{f:FuncId}{fn:Func}{body:Code}{first cap:adL}{hold':adv}(q:ops[i]?=some o)(d:o.op=.go ⟨.value fo,args,c⟩)(r:o.guard=none)(e:Oper.ok n o=true)
 (g:ao s.env fo=.fn (.func f) first cap) (t:P.funcs[f]?=some fn) (hb:fn.body=some body) (j:(fn.name==  "runtime.NumGoroutine")=false) (u:((first++args.toList.map (ao s.env))++cap).length<=fn.ntmps) (l:s.σ A.fb=some .ig) (b:jS hold' [.code body]=true)
 (v:∀m,af P (xV P A) f fn.ntmps none hold' [.code body] ⟨dw ((first++args.toList.map (ao s.env))++cap),jU A.fb,[],.told .deferred [cE P] m⟩ (λ_ _=>False))
 (h:af P (rS P A Fin A.n (List.range A.n)) fid n ro hold (.inRegion ops rest::k) {s with env:=bd s.env o.dst .cD} (λ_ _=>False)):af P (pH P A Fin 0) fid n ro hold (.inRegion ops (i::rest)::k) s K:=λp=>
 Go.Xn a q d (bW r) e g t hb j u l (λm=>v m b) (h (by simpa[jS,lg]using p))
def af.Mq(a:A.dir=false){j:Nat}{ops:adu}{i:Nat}{rest:adH}{o:Oper}{ch x:adT}{fn fd:Func}{r:aj}(t:ops[i]?=some o)(c:o.op=.send ch x)(d:Oper.ok n o=true)(u:o.guard=none)(e:ao s.env ch=.chan A.cF)(v:ao s.env x=A.res j)
 (f:s.σ A.fb=some .ig) (g:s.rc=.told .deferred [cE P] r) (l:ro=none) (w:P.funcs[fid]?=some fn) (y:n=fn.ntmps) (m:P.funcs[A.ng.done]?=some fd) (p:fd.body.isSome=true) (b:(fd.name==  "runtime.NumGoroutine")=false)
 (h:af P (lh P A) fid n ro hold (.inRegion ops rest::k) {s with env:=bd s.env o.dst (.lit undef)} (Sd P A fn)):af P (iE P A j) fid n ro hold (.inRegion ops (i::rest)::k) s K:=λq=>
 Go.Mq a t c d (bW u) e v f g l w y m p b (h (by simpa[jS,lg]using q))
def af.Mr{ops:adu}{i:Nat}{rest:adH}{o:Oper}{args:adi}{a:ado}{fn:Func}(f:ops[i]?=some o)(b:o.op=.call ⟨.value (.func A.ng.wait),args,a⟩)(g:o.guard=none)(c:Oper.ok n o=true)
 (j:P.funcs[A.ng.wait]?=some fn) (hb:fn.body.isSome=true) (d:(fn.name==  "runtime.NumGoroutine")=false) (l:args.toList.map (ao s.env)=[.ref A.gb 0])
 (h:af P (su P A) fid n ro hold (.inRegion ops rest::k) {s with env:=bd s.env o.dst (.ck [])} (λ_ _=>False)):af P (xV P A) fid n ro hold (.inRegion ops (i::rest)::k) s K:=λe=>
 Go.Mr f b (bW g) c j hb d l (h (by simpa[jS,lg]using e))
def af.F7{ops:adu}{i:Nat}{rest:adH}{o:Oper}{ch:adT}{a:ado}{fn:Func}{g:aj}(h:ops[i]?=some o)(b:o.op=.call ⟨.builtin .close,#[ch],a⟩)(c:Oper.ok n o=true)(j:o.guard=none)(d:ao s.env ch=.chan A.cF)
 (e:s.rc=.told .deferred [cE P] g) (l:s.D=[]) (f:ro=none) (m:P.funcs[fid]?=some fn) (p:fn.results=#[]) (q:(Item.inRegion ops rest::k).all AA=true):af P (su P A) fid n ro hold (.inRegion ops (i::rest)::k) s K:=λ_=>
 Go.F7 h b c j d e l f m p q
def af.HV{m:Nat}{R:adH}{ops:adu}{i:Nat}{rest:adH}{o:Oper}{ct ce:Nat}{l p:TI}{ch:adT}(q:ops[i]?=some o)(a:o.op=.recv ct ch true)(b:L.tt ct=some l)(c:l.kind=.chan ce)(d:L.tt ce=some p)
 (e:Oper.ok n o=true) (r:o.guard=none) (f:ao s.env ch=.chan A.cF)
 (h:∀j∈R,af P (rS P A Fin m (R.erase j)) fid n ro hold (.inRegion ops rest::k) {s with env:=bd s.env o.dst (.ck [A.res j,.lit (.bool true)])} (λ_ _=>False)):af P (rS P A Fin (m+1) R) fid n ro hold (.inRegion ops (i::rest)::k) s K:=λg=>
 Go.HV L q a b c d e (bW r) f λj t=>h j t (by simpa[jS,lg]using g)
def af.B9{t:ada}{kd:adK}{b:adt}{u:aj}{R:adH}{ops:adu}{i:Nat}{rest:adH}{o:Oper}{ct ce:Nat}{v w:TI}{ch:adT}(x:ops[i]?=some o)(d:o.op=.recv ct ch true)(e:L.tt ct=some v)(f:v.kind=.chan ce)(g:L.tt ce=some w)
 (j:Oper.ok n o=true) (y:o.guard=none) (l:ao s.env ch=.chan A.cF) (p:s.σ A.fb=some .ig) (q:s.rc=.told kd b u) (c:rU P m fid n ro t kd b u Fin)
 (h:∀a,A.GI a->af P m fid n ro hold (.inRegion ops rest::k) {s with env:=bd s.env o.dst (.ck [.cD,.lit (.bool false)]),σ:=(s.σ.set A.mb a).set A.fb (.part (bE A.fo)),rc:=.no} t):af P (rS P A Fin 0 R) fid n ro hold (.inRegion ops (i::rest)::k) s K:=λr=>
 Go.B9 L x d e f g j (bW y) l p q c λa z=>h a z (by simpa[jS,lg]using r)
end
section
variable{P:adS}(L:jo P){m:Mo}
def aA.F8{f:FuncId}{fn:Func}{args:adL}{σ:aa}{b:adl}{body:Code}(mu:adH)(hold:adv)(N k:Nat)(c:P.funcs[f]?=some fn)(hb:fn.body=some body)(e:args.length=k)(d:oC fn k=true)(a:lg hold body=true)
 (h:bx L m f fn.ntmps none mu hold N [.code body] ⟨dw args,σ,[],.no⟩ (SN L m fn.results.toList (nK b))):aA P m f args σ b:=by
 simp only[oC,zj]at d;refine aA.thaw (aA.intro L c hb (by simp_all) ?_ (Go.bx L mu hold N (by simpa[jS]using a) h))
 simp_all
variable{fid n:Nat}{ro:adw}{hold:adv}{K:ada}{todo:adD}
@[simp] theorem TG{mu:adH}{s:St}:bx L m fid n ro mu hold 0 todo s K=af P m fid n ro hold todo s K:=propext aaR
def af.gX{env:Env}{σ:aa}{D:adO}{rc:Rec}(I:adh)(a:I env σ)(h:∀env σ,I env σ->af P m fid n ro hold todo ⟨env,σ,D,rc⟩ K):af P m fid n ro hold todo ⟨env,σ,D,rc⟩ K:=h env σ a
end
section
variable{P:adS}(L:jo P){o:Oper}{env:Env}{σ:aa}{K:adm}{Kp:adm}
def tP{t e:Nat}{x y:adT}{it g:TI}{n:Int}{p:AV}(Q:o.op=.makeSlice t x y)(R:L.tt t=some it)(S:it.kind=.slice e)(A:L.tt e=some g)(T:g.size=1)(hb:g.bytes<=1024)
 (U:(lN g.zero).cells=[p]) (W:p.flat=true) (X:ao env x=.lit (.int .i64 n)) (Y:ao env y=.lit (.int .i64 n)) (M:0<=n/\n<=1000000)
 (Z:∀b,σ b=none->K (.ib b 0 n.toNat n.toNat) (σ.set b (.cells (List.replicate n.toNat p)))):aJ P o env σ K Kp:=
 aJ.val (s:=λB=>Instr.makeSlice t (B x) (B y)) (λB=>by simp[execOp,Q]) λk O B u hr=>by
  have E:=u x (by simp_all)
  have C:=u y (by simp_all)
  rw[X]at E;rw[Y]at C;have e1:=dt E;have e2:=dt C
  have hw:IntKind.i64.wrap n=n:=by simp[IntKind.wrap,IntKind.signed,IntKind.bits];omega
  have a7:g.zero.cells.size=1:=by obtain⟨_,_,_,_,_,_,h⟩:=L.facts A;omega
  have m:=xp (k:=k) (z:=g.zero) (by simp_all)
  rw[U]at m;rw[e1,e2];unfold Instr.makeSlice;refine ag (aG L R λd _ hd=>?_)
  rw[bN hd S];dsimp only;refine ag (s:=asInt (.int .i64 n)) (ah ?_);refine ag (s:=asInt (.int .i64 n)) (ah ?_);refine ag (cV L A λinfo _ _ F _=>?_)
  dsimp only;rw[hw]
  have G:((decide (n<0)||decide ((info.bytes:Int)*n>2 ^ 48))||decide (n<0)||decide (n>n))=false:=by
   have q:(info.bytes:Int)*n<=1024*1000000:=by rw[F];exact Int.mul_le_mul (by omega) M.2 M.1 (by omega)
   grind
  simp only[G,LK,Rp];refine ag (pU ?_);refine ag (bG L A ?_);rw[T]
  have j:∀zero:adq,(n.toNat≠0->zero=g.zero.cells)->dK P (do let a <-newRow e ((Array.range (n.toNat*1)).map (zero[· % zero.size]!));pure (Value.slice (some a) n.toNat n.toNat)) k O (λv k' O'=>mL k' O' λH O2=>k.Le H/\∃a c,V H v a/\Rel H O2 c/\K a c) (λv k' O'=>k.Le k'/\∃a c,V k' v a/\Rel k' O' c/\Kp a c):=λzero hzero=>by
   have f:∀(i:Nat) v,((Array.range (n.toNat*1)).map (zero[· % zero.size]!))[i]?=some v->i<n.toNat/\g.zero.cells[0]?=some v:=λi v D=>by grind
   refine ag (jw (l:=List.replicate n.toNat p) hr (by simp) (λi v a D ha=>?_) (λi v D=>?_) λr k' O' I J w=>ah (.here ⟨J,.ib r 0 n.toNat n.toNat,_,.ib ..,w,Z r I⟩))
   . obtain⟨E,C⟩:=f i v D
     have:a=p:=(List.mem_replicate.1 (List.mem_of_getElem? ha)).2;subst this;exact m.2.1 0 v a C rfl
   . exact m.2.2 0 v (f i v D).2
  by_cases N:n.toNat*1=0
  . rw[aaB N]
    refine ag (ah ?_);exact j _ (λh=>by omega)
  . rw[aay N]
    refine ag (cT L A (ag (ah ?_)));exact j _ (λ_=>rfl)
end
def Sf{es b:adL}{sp:cU}(f:es.length=b.length)(m:∀e∈es,e.cells=[e])(n:∀e∈b,e.cells=[e])(o:∀(i:Nat) a a',es[i]?=some a->b[i]?=some a'->a.W a'):(AV.sl 1 es sp).W (.sl 1 b .any):=λk v p=>by
 have f1:=fL m;have q:=fL n;rcases p.C4 with⟨r,rfl,rfl,s⟩|⟨t,off,cap,N,u,c,rfl,y,w,x,z,g,h,A⟩
 . have:b=[]:=acd.1 f.symm
   subst this;exact .slnil r 1 .any (.inl rfl)
 . rw[f1]at g h
   rw[f];refine .sl t off cap 1 N u b .any c (by omega) w x (λe B=>by simp_all) (λj d=>g j (by simp_all)) (λj a l=>?_) trivial;rw[q]at l;have d:j<es.length:=by grind
   exact o j es[j] a (by simp[d]) l k _ (h j _ (by simp[d]))
section
variable{P:adS}{m:Mo}{fid n:Nat}{ro:adw}{hold:adv}{K:ada}{todo:adD}
def af.PZ{env:Env}{σ:aa}{D:adO}{rc:Rec}{b d i:Nat}{l cs:adL}{es:adL}{sp:cU}{at_:Nat}(hd:d≠b)(hb:σ b=some (.cells l))(z:∀e∈l,e.cells=[e])(A:σ d=some (.cells cs))(f:cs[at_]?=some (.sl 1 es sp))(q:∀e∈es,e.cells=[e])(hi:es[i]?=some (.ib b 0 l.length l.length))
 (B:af P m fid n ro hold todo ⟨env,(σ.del b).set d (.cells (cs.set at_ (.sl 1 (es.set i (.sl 1 l .any)) sp))),D,rc⟩ K):af P m fid n ro hold todo ⟨env,σ,D,rc⟩ K:=by
 have C:=fL z;refine af.freeze b l hb (λu=>.refl _) (λy x o=>?_) B;by_cases e:y=d
 . subst e
   simp[aa.set]at o;subst o;refine⟨hd,.inr ⟨cs,_,A,rfl,by simp,λj a E r g=>?_⟩⟩;by_cases t:j=at_
   . subst t
     rw[f]at r;cases r;have c:=(aaI.1 f).1;rw[abB c]at g;cases g;refine .rows es _ sp (by simp) q (λx v=>?_) (λp a E s k=>?_)
     . rcases abT v with v|rfl
       . simp_all
       . rfl
     . by_cases w:p=i
       . subst w
         rw[hi]at s;cases s;have c:=(aaI.1 hi).1;rw[abB c]at k;cases k;exact .sl 0 l.length 1 l .any (aaE _) (by omega) (λe F=>by simp_all) (λj a h=>by simp_all) (.inl rfl)
       . rw[abp (za w)]at k
         rw[s]at k;cases k;exact .refl _
   . rw[abp (za t)]at g
     rw[r]at g;cases g;exact .refl _
 . rw[aa.ai _ _ e]at o
   unfold aa.del at o
   simp_all
end
