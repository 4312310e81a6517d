/- Part 25 of the proof. -/
import Derived.Test.YtalogdafegmilaaGreatDoorC24
set_option linter.all false
namespace Go.aN
open Go.Conc
open Go.ConcN (sumTo upd sumTo_upd upd_ne upd_same)
theorem vC{F:Nat->Nat}:∀{n:Nat},(∀i,i<n->F i=0)->sumTo n F=0
 |0,_=>rfl
 |n+1,h=>by simp only[sumTo,vC (n:=n) λi hi=>h i (by omega),h n (by omega)]
theorem E8(n:Nat):Mu.Inv n (λ_=>.out) ⟨.zero,0⟩:=by
 have t0:∀(F:Mu.Pc->Nat),F .out=0->Mu.eN n (λ_=>F .out)=0:=λF hF=>by rw[hF];exact Mu.yD n
 refine⟨⟨λi _=>trivial,?_,λ_=>⟨?_,?_,?_⟩,λh=>(by cases h),λ_ _ _ h=>absurd rfl h⟩,λh=>(by cases h),λi _ old sv h=>(by cases h)⟩
 . rw[t0 Mu.bI rfl];rfl
 . rw[t0 Mu.fj rfl,t0 Mu.cj rfl,t0 Mu.lS rfl];rfl
 . rw[t0 Mu.cQ rfl]
 . rw[t0 Mu.ci rfl,t0 Mu.cj rfl];rfl
def MS.start(P:Program)(n:Nat):MS P:=⟨.add n,0,λ_=>.idle,.none,⟨.zero,0⟩,0,0,0⟩
theorem E9(P:Program)(n:Nat):bD n (MS.start P n):=by
 refine⟨?_,Nat.zero_le _,λh=>(by cases h),λj _ h=>(by rcases h with h|h<;>cases h),λi j _ _ h=>(by cases h),λj _ h=>(by cases h),⟨Nat.zero_le _,λh=>(by cases h)⟩,λh=>(by cases h),λh=>(by cases h),λh=>(by cases h),λk h=>(by cases h),λj _=>rfl,rfl,Nat.zero_le _,λj _=>⟨λ_=>Nat.zero_le _,λ_=>rfl⟩,⟨Nat.zero_add _,rfl⟩,λ_ j _=>rfl,E8 n⟩;show 0=sumTo n (λ_=>0)+0;rw[vC λ_ _=>rfl]
structure kc where
 n:Nat
 cF:Nat
 fb:Nat
 fo:Nat
 gb:Nat
 mb:Nat
 GI:jy->Prop
 res:Nat->AV
 nm:xp
 ng:Gj
 hn:n<=900
 d1:cF≠fb
 d2:cF≠gb
 d3:cF≠mb
 d4:fb≠gb
 d5:fb≠mb
 d6:gb≠mb
def kc.at(A:kc)(b:Nat)(hb:0<b):dM:=⟨b,A.n,A.cF,A.fb,A.fo,A.gb,A.mb,A.GI,A.res,A.nm,A.ng,hb,A.hn,A.d1,A.d2,A.d3,A.d4,A.d5,A.d6⟩
def kc.rest(A:kc)(O:ah):ah:=λb=>if b=A.cF\/b=A.fb\/b=A.gb\/b=A.mb then none else O b
section
variable{P:Program}{Fin:ag->ah->Goroutine->Prop}
theorem m8{w:World}{b i:Nat}{c:Array Value}{e:TypeId}(h:w.heap[b]?=some (.cells c e (0,0))):w.frozen? ⟨b,i,none⟩=false:=by simp[World.frozen?,h]
theorem oY{w:World}{b i:Nat}{c:Array Value}{e:TypeId}{v:Value}(h:w.heap[b]?=some (.cells c e (0,0)))(hc:c[i]?=some v):w.cell? ⟨b,i,none⟩=some v:=by simp[World.cell?,h,hc]
theorem CI(A:kc)(C:jg P A.ng)(X:j9 P A.ng)(CM:iy P A.nm)(XM:iz P A.nm)(F:qg P A.nm){k:ag}{O:ah}{g:Goroutine}{xF:Nat}{tm:Bool}{cg:Array Value}{eg:TypeId}{x:Own}{a:jy}
 (hF:O A.cF=some (.obj (.chan 0 #[] false xF xF tm))) (hG:O A.gb=some (.obj (.cells cg eg (0,0)))) (hg0:cg[0]?=some (.int .u64 0)) (hg1:cg[1]?=some (.int .u32 0)) (hL:O A.fb=some (.part (bC A.fo)))
 (hM:O A.mb=some x) (hor:lc k x a) (hgi:A.GI a) (ht:∀b (hb:0<b),T P (xr P (A.at b hb) Fin A.n) iG k (A.rest O) g):x6 P k O g Fin:=by
 intro W0 gs w sl t hS;have hmn:∀b x,O b=some x->W0.heap.size<=b:=by obtain⟨_,_,_,_,_,_,_,_,_,h⟩:=hS;exact h
 have hb:0<gs.size:=by obtain⟨_,_,h0,_⟩:=hS;exact(Array.getElem?_eq_some_iff.1 h0).1
 obtain⟨B,hB⟩:∃B,B=A.at gs.size hb:=⟨_,rfl⟩;obtain⟨lk,hlk⟩:∃lk,lk=gs.size+A.n+1:=⟨_,rfl⟩;obtain⟨Z0,z1,z2,z3,z4,h0,⟨q,hLv⟩,hd0,hP0,hkn⟩:=bV.start hS lk ⟨A.fb,A.fo,none⟩ (by omega)
 have hSat:Sat k O w:=by have:=hP0.sat 0;rwa [an,an]at this
 obtain⟨tr⟩:=T.tree (A9 (P:=P) (A:=B) (Fin:=Fin) A.n) (by rw[hB];exact ht gs.size hb)
 have hlk0:(0:Nat)≠lk:=by omega
 have hcovG:∀i,aP O A.gb i:=λi=>.inl ⟨_,hG⟩
 have hkG:∀i,k.cell A.gb i=none:=λi=>by
  cases e:k.cell A.gb i with
  |none=>rfl
  |some v=>exact absurd (hcovG i) (hSat.apart _ _ _ e)
 have hcovF:∀i,(i=A.fo\/i=A.fo+1)->aP O A.fb i:=λi hi=>.inr (.inr ⟨_,hL,by
  unfold bC
  rcases hi with rfl|rfl
  . simp
  . simp⟩)
 have hkF:∀i,(i=A.fo\/i=A.fo+1)->k.cell A.fb i=none:=λi hi=>by
  cases e:k.cell A.fb i with
  |none=>rfl
  |some v=>exact absurd (hcovF i hi) (hSat.apart _ _ _ e)
 have hhG:=hSat.obj _ _ hG;have hhF:=hSat.obj _ _ hF;obtain⟨cl,el,hhL,_,hlv⟩:=hSat.part _ _ hL
 have hrest:∀b y,A.rest O b=some y->O b=some y/\b≠A.cF/\b≠A.fb/\b≠A.gb/\b≠A.mb:=λb y h=>by
  unfold kc.rest at h;split at h
  . cases h
  . rename_i hn
    exact⟨h,λe=>hn (.inl e),λe=>hn (.inr (.inl e)),λe=>hn (.inr (.inr (.inl e))),λe=>hn (.inr (.inr (.inr e)))⟩
 obtain⟨kk,hkk⟩:∃kk,kk=bv (bv (λ_=>ag.bot) 0 k) lk k:=⟨_,rfl⟩
 obtain⟨OO,hOO⟩:∃OO,OO=bv (bv (λ_=>ah.bot) 0 (A.rest O)) lk (ah.bot.set A.mb x):=⟨_,rfl⟩
 have kk0:kk 0=k:=by rw[hkk,ar _ _ hlk0,an]
 have kkl:kk lk=k:=by rw[hkk,an]
 have kkn:∀i,i≠0->i≠lk->kk i=ag.bot:=λi h1 h2=>by rw[hkk,ar _ _ h2,ar _ _ h1]
 have OO0:OO 0=A.rest O:=by rw[hOO,ar _ _ hlk0,an]
 have OOl:OO lk=ah.bot.set A.mb x:=by rw[hOO,an]
 have OOn:∀i,i≠0->i≠lk->OO i=ah.bot:=λi h1 h2=>by rw[hOO,ar _ _ h2,ar _ _ h1]
 have hOwn:∀i b y,OO i b=some y->(i=0/\O b=some y/\b≠A.cF/\b≠A.fb/\b≠A.gb/\b≠A.mb)\/(i=lk/\b=A.mb/\y=x):=λi b y h=>by
  by_cases e0:i=0
  . subst e0;rw[OO0]at h;exact .inl ⟨rfl,hrest b y h⟩
  . by_cases e1:i=lk
    . subst e1
      rw[OOl]at h
      by_cases eb:b=A.mb
      . subst eb;simp only[ah.set,if_true,Option.some.injEq]at h;exact .inr ⟨rfl,rfl,h.symm⟩
      . simp only[ah.set,if_neg eb]at h;cases h
    . rw[OOn i e0 e1]at h;cases h
 have hkc:∀i b n v,(kk i).cell b n=some v->k.cell b n=some v:=λi b n v h=>by
  by_cases e0:i=0
  . subst e0;rw[kk0]at h;exact h
  . by_cases e1:i=lk
    . subst e1;rw[kkl]at h;exact h
    . rw[kkn i e0 e1]at h;cases h
 have hP1:bV Z0 kk OO (λ_=>False) (λ_=>False) w t:=by
  have h:=hP0.rY (u:=#[]) (w':=w) (kk':=kk) (OO':=OO) (J':=λ_=>False) (M':=λ_=>False) (λa b=>a=b\/(a=0/\b=lk)) rfl ⟨⟨.refl _,rfl⟩,λ_ _=>rfl⟩ (λb=>.inl rfl) (λop h=>by simp at h) (λi j e n y hy hm hz hk=>?_) (λj b n v hv=>?_) (λj b s hv=>?_) (λj b y hy=>?_) (λi j b y hij hy=>?_)
   (λsaid=>by rw[m7];exact hP0.clean said) (λop hop=>by simp at hop) (λm op a hop=>by simp at hop) (λn a ha hm h=>?_)
  . rw[m7]at h;exact h
  . rw[m7]
    rcases e with rfl|⟨rfl,rfl⟩
    . exact hk
    . unfold ED
      rw[z2,if_pos rfl,z1];obtain⟨op,hop,_⟩:=touch_of hy;exact .inl (lt_size_of_getElem? hop)
  . by_cases e0:j=0
    . subst e0;rw[kk0]at hv;exact⟨0,.inl rfl,by rw[an];exact hv⟩
    . by_cases e1:j=lk
      . subst e1;rw[kkl]at hv;exact⟨0,.inr ⟨rfl,rfl⟩,by rw[an];exact hv⟩
      . rw[kkn j e0 e1]at hv;cases hv
  . by_cases e0:j=0
    . subst e0;rw[kk0]at hv;exact⟨0,.inl rfl,by rw[an];exact hv⟩
    . by_cases e1:j=lk
      . subst e1;rw[kkl]at hv;exact⟨0,.inr ⟨rfl,rfl⟩,by rw[an];exact hv⟩
      . rw[kkn j e0 e1]at hv;cases hv
  . rcases hOwn j b y hy with⟨rfl,h1,_⟩|⟨rfl,rfl,rfl⟩
    . exact⟨0,.inl rfl,by rw[an];exact h1,λs hs=>by rw[an]at hs;rw[kk0];exact hs⟩
    . exact⟨0,.inr ⟨rfl,rfl⟩,by rw[an];exact hM,λs hs=>by rw[an]at hs;rw[kkl];exact hs⟩
  . cases e:OO j b with
    |none=>rfl
    | some y'=>
      rcases hOwn i b y hy with⟨rfl,_,_,_,_,h5⟩|⟨rfl,h1,_⟩
      . rcases hOwn j b y' e with⟨rfl,_⟩|⟨rfl,h6,_⟩
        . exact absurd rfl hij
        . exact absurd h6 h5
      . rcases hOwn j b y' e with⟨rfl,_,_,_,_,h5⟩|⟨rfl,_⟩
        . exact absurd h1 h5
        . exact absurd rfl hij
  . rcases h with⟨_,h,_⟩|⟨_,h,_⟩<;>exact h.elim
 have hlG:A.gb<w.heap.size:=(Array.getElem?_eq_some_iff.1 hhG).1
 have hfreeO:∀i b,(b=A.cF\/b=A.fb\/b=A.gb)->OO i b=none:=λi b hb=>by
  cases e:OO i b with
  |none=>rfl
  | some y=>
    rcases hOwn i b y e with⟨_,_,h1,h2,h3,_⟩|⟨_,h1,_⟩
    . rcases hb with rfl|rfl|rfl
      . exact absurd rfl h1
      . exact absurd rfl h2
      . exact absurd rfl h3
    . rcases hb with rfl|rfl|rfl
      . exact absurd h1 A.d3
      . exact absurd h1 A.d5
      . exact absurd h1 A.d6
 have hfreeK:∀i b n,k.cell b n=none->(kk i).cell b n=none:=λi b n h=>by
  cases e:(kk i).cell b n with
  |none=>rfl
  |some v=>rw[hkc i b n v e]at h;cases h
 have hP:=hP1.qc (λl=>∃c:Addr,l=.cell c/\c.spot=none/\c.block=A.gb/\(c.off=0\/c.off=1)) (λc ⟨c',e,_,h1,_⟩=>by cases e;rw[h1];exact⟨hlG,λi=>⟨dH (hfreeO i _ (.inr (.inr rfl))),hfreeK i _ _ (hkG _)⟩⟩) (λr ⟨c',e,_⟩=>by cases e)
 obtain⟨Z,hZ⟩:∃Z:Base,Z=⟨λl=>Z0.Shun l\/∃c:Addr,l=.cell c/\c.spot=none/\c.block=A.gb/\(c.off=0\/c.off=1),Z0.N0,Z0.lk,Z0.la,Z0.W0⟩:=⟨_,rfl⟩
 rw[<-hZ]at hP;have hZl:Z.lk=lk:=by rw[hZ];exact z2
 have hZn:Z.N0=t.size:=by rw[hZ];exact z1
 have hZw:Z.W0=W0:=by rw[hZ];exact z4
 have hZle:B.b+B.n+1<=Z.lk:=by rw[hZl,hB];show gs.size+A.n+1<=lk;omega
 have hplain:∀m b,touchAt t m=some b->b.loc.isMemory=true->b.kind≠.atomic->Knows t 0 m:=λm b hb hm hk=>by
  rcases hkn m b hb hm with h|⟨_,h⟩
  . exact h
  . exact absurd h hk
 have hshM:∀l,Ho B l->l.isMemory=true:=λl hl=>by cases l<;>first|rfl|exact hl.elim
 have hbeg:∀i,bE P B (MS.start P A.n) i↔i=0:=λi=>by
  constructor
  . rintro(h|⟨l,h1,_⟩|⟨_,h1⟩)
    . exact h
    . exact absurd h1 (Nat.not_lt_zero _)
    . exact absurd rfl h1
  . exact λh=>.inl h
 have hgw:w.cell? ⟨A.gb,0,none⟩=some (.int .u64 (dO (0:Nat) 0)):=by rw[show dO ((0:Nat):Int) 0=0 by simp[dO]];exact oY hhG hg0
 have hle0:bC A.fo A.fo=some (.int .i32 0):=by simp[bC]
 have hle1:bC A.fo (A.fo+1)=some (.int .u32 0):=by unfold bC;rw[if_neg (by omega),if_pos rfl]
 have hEx:cW P B Z (MS.start P A.n) kk OO (λ_=>False) (λ_=>False) gs.size w t:=by
  rw[hB]at hbeg hshM ⊢
  refine⟨E9 P A.n,rfl,⟨xF,tm,hhF⟩,⟨oY hhL (hlv _ _ hle0),oY hhL (hlv _ _ hle1),λi=>m8 hhL⟩,⟨hgw,oY hhG hg1,λi=>m8 hhG⟩,⟨_,_,hhL⟩,⟨_,_,hhG⟩,λi=>⟨hfreeO i _ (.inl rfl),hfreeO i _ (.inr (.inr rfl))⟩,
   λi=>⟨hfreeK i _ _ (hkF _ (.inl rfl)),hfreeK i _ _ (hkF _ (.inr rfl)),hfreeK i _ _ (hkG _),hfreeK i _ _ (hkG _)⟩,λi y hy=>?_,λj _ h=>(by cases h),λ_=>⟨x,a,?_,?_,hgi⟩,λc hc=>⟨?_,λj _=>rfl⟩,λi=>⟨λh=>h.elim,?_⟩,λp hp=>hp.elim,λh=>(by cases h),λm b hb hs hk i hi=>?_,λm b hb hs hk=>?_,λi hi m b hm hb hmem hz=>?_,λm c hm h=>?_,λi h1 h2=>?_,λl hl h=>?_,λc hc h=>?_,by rw[hZw];exact⟨hmn _ _ hF,hmn _ _ hL,hmn _ _ hG⟩,?_,?_⟩
  . have hy:OO i A.fb=some y:=hy
    rw[hfreeO i A.fb (.inr (.inl rfl))]at hy;cases hy
  . show OO Z.lk A.mb=some x
    rw[hZl,OOl];simp[ah.set]
  . rw[hZl,kkl];exact hor
  . rw[hZl]at hc
    cases e:OO lk c with
    |none=>exact absurd e hc
    | some y=>
      rcases hOwn lk c y e with⟨h,_⟩|⟨_,h,_⟩
      . omega
      . exact h
  . rintro(⟨j,_,_,h⟩|⟨_,h⟩)<;>cases h
  . rw[(hbeg i).1 hi]
    exact hplain m b hb (hshM _ hs) (by rw[hk];simp)
  . exact hplain m b hb (hshM _ hs) (by rw[hk];simp)
  . rw[(hbeg i).1 hi]
    rcases hkn m b hb hmem with h|⟨h,_⟩
    . exact h
    . exact absurd (by rw[hZ];exact .inl h) hz
  . have:=lt_of_act? h
    omega
  . have hi0:i≠0:=λe=>h2 ((hbeg i).2 e)
    exact⟨kkn i hi0 (by rw[<-hZl];exact h1),OOn i hi0 (by rw[<-hZl];exact h1)⟩
  . obtain⟨c,rfl,hcb⟩:=h
    obtain⟨hs,hl⟩:=hl;rw[hZ];refine .inr ⟨c,rfl,hs,hcb,?_⟩
    rcases hl with⟨h1,_⟩|⟨_,h2⟩
    . exact absurd (hcb.symm.trans h1).symm A.d4
    . exact h2
  . rw[hZ]at h
    rcases h with h|⟨c',e,_,h,_⟩
    . have:=(hP0.jE c h).2 0
      rw[an]at this;exact this.1 (by rw[hc.1];exact hcovF _ hc.2)
    . cases e
      exact A.d4 (hc.1.symm.trans h)
  . rw[hZ];exact z3
  . rw[hZn];exact Nat.le_refl _
 have hbB:B.b=gs.size:=by rw[hB];rfl
 have hnl:∀i,i≠0 -> ¬dg P B (MS.start P A.n) i/\¬eV P B (MS.start P A.n) i/\¬dW P B (MS.start P A.n) i:=λi hi=>by
  refine⟨?_,?_,?_⟩
  . rintro(⟨h,_⟩|⟨_,_,_,h⟩|⟨_,h⟩)
    . exact hi h
    . exact h
    . exact h
  . rintro(⟨h,_⟩|⟨_,_,_,h⟩|⟨_,h⟩)
    . exact hi h
    . exact h
    . exact h
  . rintro(⟨h,_⟩|⟨_,_,_,h⟩)
    . exact hi h
    . cases h
 have hC:br (bW P B Fin Z hZle) Z (MS.start P A.n) (λ_=>⟨_,_,_,_,tr⟩) q kk OO (λ_=>False) (λ_=>False) gs w t:=by
  refine⟨rfl,hP,λi hl=>?_,λi hw=>?_,λi hh=>?_,λi y hy n1 n2 n3=>?_,hLv.above,hEx⟩
  . have hi:i=0:=Classical.byContradiction λh=>(hnl i h).1 hl
    subst hi;exact⟨by show 0<B.b+B.n+1;omega,h0,(by show xr P B Fin A.n=bu P B Fin (MS.start P A.n) 0;rfl),kk0.symm,OO0.symm,tr.running,hd0,.inl rfl,AZ⟩
  . have hi:i=0:=Classical.byContradiction λh=>(hnl i h).2.1 hw
    subst hi;exact absurd hw (xy (s:=MS.start P A.n) (m:=A.n) rfl)
  . have hi:i=0:=Classical.byContradiction λh=>(hnl i h).2.2 hh
    subst hi;exact absurd hh (lJ (by simp[MS.start]))
  . have hi:i≠0:=λe=>n1 (by subst e;exact rq (s:=MS.start P A.n) (m:=A.n) rfl)
    exact⟨hi,hLv.old i y (by omega) hy⟩
 rw[<-hZw];exact HM (by rw[hB];exact C) (by rw[hB];exact X) (by rw[hB];exact CM) (by rw[hB];exact XM) (by rw[hB];exact F) hZle hC sl
end
theorem runNT_add{P:Program}:∀(a b:Nat) (m m1:Machine) (t t1:Trace),runNT P a m t=(.next m1,t1)->runNT P (a+b) m t=runNT P b m1 t1
 | 0,b,m,m1,t,t1,h=>by
   simp only[runNT,Prod.mk.injEq,Stepped.next.injEq]at h;rw[Nat.zero_add,h.1,h.2]
 | a + 1,b,m,m1,t,t1,h=>by
   have e:a+1+b=(a+b)+1:=by omega
   rw[e];simp only[runNT]at h ⊢;cases hs:stepT P m with
   | mk r ops=>
     rw[hs]at h;cases r with
     |next m2=>simp only at h ⊢;exact runNT_add a b m2 m1 _ t1 h
     |ended o w=>simp at h
def xz(w w':World):Prop:=w.heap=w'.heap/\ll w.os w'.os/\w'.output=w.output
theorem xz.refl(w:World):xz w w:=⟨rfl,.refl _,rfl⟩
theorem bV.CJ{Z:Base}{kk:Nat->ag}{OO:Nat->ah}{J M:Nat->Prop}{w w':World}{t:Trace}(h:bV Z kk OO J M w t)(e0:xz w w'):bV Z kk OO J M w' t:=by
 have e:=e0.1.symm;have hs:∀{k O},Sat k O w->Sat k O w':=λhs=>⟨hs.apart,λb i v x=>by rw[(oV e _).1];exact hs.cell b i v x,λb s x=>by have:=hs.sh b s x;simpa[World.shape?,e]using this,λb o x=>by rw[e];exact hs.obj b o x,λb n x=>by rw[e];exact hs.tail b n x,λb f x=>by rw[e];exact hs.part b f x⟩
 exact⟨λi=>hs (h.sat i),h.iV,h.my,λi=>by rw[e];exact h.yB i,h.clean,λop x=>by rw[e];exact h.seen op x,h.acc,h.n0,h.u0,λa x=>by rw[e];exact h.jE a x,λr x=>by rw[e];exact h.mz r x,h.wo.step e0.2.1 e0.2.2 (by rw[e];exact Nat.le_refl _) (λb _=>by rw[e]),h.mine⟩
structure dL(P:Program)(d:Nat)(k:ag)(O:ah)(g:Goroutine)(gs:Array Goroutine)(w:World)(t:Trace)(Z:Base)(q:Nat->Nat):Prop where
 lk:0≠Z.lk
 g0:gs[0]?=some g
 lv:Leavers P t gs q
 df:Deaf t 0=d
 bY:bV Z (bv (λ_=>ag.bot) 0 k) (bv (λ_=>ah.bot) 0 O) (λ_=>False) (λ_=>False) w t
def Ls(P:Program)(k:ag)(O:ah)(g:Goroutine)(d:Nat)(N:ag->ah->Goroutine->Nat->Prop):Prop:=∀w,Sat k O w->∃g' w' es k' O',stepG P true g w=.go g' w' es/\(∃w2:World,xz w2 w'/\Sat k' O' w2/\(Eff k O w k' O' w2 es.toList\/(w2=w/\k'=k/\O'=O/\(es=#[⟨.mark .disable,false,true⟩]\/es=#[⟨.mark .enable,false,true⟩]))))/\N k' O' g' (deafBehind d es)
section
variable{P:Program}{k k':ag}{O O':ah}{g g':Goroutine}{gs:Array Goroutine}{w w':World}{t:Trace}{Z:Base}{q:Nat->Nat}{d:Nat}
theorem ed.P6{W0:World}(h:ed P W0 k O g gs w t):∃Z q,Z.W0=W0/\dL P 0 k O g gs w t Z q:=by
 obtain⟨Z,_,z2,_,z4,h0,⟨q,hL⟩,hd,hP,_⟩:=bV.start h 1 ⟨0,0,none⟩ (by decide);exact⟨Z,q,z4,by rw[z2];decide,h0,hL,hd,hP⟩
theorem dL.back(h:dL P 0 k O g gs w t Z q):ed P Z.W0 k O g gs w t:=by have:=h.bY.finish (P:=P) h.g0 h.lv h.df;rw[an,an]at this;exact this
theorem dL.at(h:dL P d k O g gs w t Z q)(x:Nat):dL P d k O g gs (w.at x) t Z q:=⟨h.lk,h.g0,h.lv,h.df,h.bY.at x⟩
theorem dL.CJ(h:dL P d k O g gs w t Z q)(e:xz w w'):dL P d k O g gs w' t Z q:=⟨h.lk,h.g0,h.lv,h.df,h.bY.CJ e⟩
theorem dL.sat(h:dL P d k O g gs w t Z q):Sat k O w:=by have:=h.bY.sat 0;rwa [an,an]at this
theorem xA{α:Type}(f:Nat->α)(i:Nat)(x y:α):bv (bv f i x) i y=bv f i y:=by
 funext j;by_cases e:j=i
 . subst e;rw[an,an]
 . rw[ar _ _ e,ar _ _ e,ar _ _ e]
theorem dL.own(h:dL P d k O g gs w t Z q){es:Array Event}{fn:FuncId}{pos:String}(hs:Sat k' O' w')(he:Eff k O w k' O' w' es.toList\/(w'=w/\k'=k/\O'=O/\(es=#[⟨.mark .disable,false,true⟩]\/es=#[⟨.mark .enable,false,true⟩]))):
 dL P (deafBehind d es) k' O' g' (gs.setIfInBounds 0 g') w' (t++MemOp.ofEvents 0 fn pos es) Z q:=by
 have hlt:=(Array.getElem?_eq_some_iff.1 h.g0).1;have hops:∀op∈MemOp.ofEvents 0 fn pos es,op.g=0:=λop hop=>by obtain⟨e,_,rfl⟩:=Go.Conc.mem_ofEvents hop;rfl
 refine⟨h.lk,Array.getElem?_setIfInBounds_self_of_lt hlt,⟨λi x hi hx=>?_,λj hj=>?_⟩,by rw[Deaf_own,h.df],?_⟩
 . rw[Array.getElem?_setIfInBounds_ne (by omega)]at hx
   rw[Deaf_other t (by omega) _ hops];exact h.lv.old i x hi hx
 . rw[Array.size_setIfInBounds]at hj
   rw[Deaf_other t (by omega) _ hops];exact h.lv.above j hj
 . rcases he with he|⟨rfl,rfl,rfl,he⟩
   . have:=h.bY.own (i:=0) h.lk (.inl rfl) (k':=k') (O':=O') (fn:=fn) (pos:=pos) (by rw[an,an];exact he) hs
     rwa [xA,xA]at this
   . have hnt:∀op∈MemOp.ofEvents 0 fn pos es,op.act.touch?=none/\op.act.low w'.heap.size:=λop hop=>by
      obtain⟨e,hm,rfl⟩:=Go.Conc.mem_ofEvents hop
      rcases he with rfl|rfl<;>simp at hm<;>subst hm<;>exact⟨rfl,trivial⟩
     exact h.bY.rY (λa b=>a=b) rfl ⟨⟨.refl _,rfl⟩,λ_ _=>rfl⟩ (λb=>.inl rfl) (λop hop=>(hnt op hop).2) (λa b e n x _ _ _ hk=>by subst e;exact hk.app _) (λj b n v h=>⟨j,rfl,h⟩) (λj b n h=>⟨j,rfl,h⟩) (λj b x h=>⟨j,rfl,h,λ_ h=>h⟩) h.bY.iV
      (λsaid=>noRace_appendMute (h.bY.clean said) λop hop=>(hnt op hop).1) (λop hop a ha=>by rw[(hnt op hop).1]at ha;cases ha) (λm op a hop ha=>by rw[(hnt op (Array.mem_of_getElem? hop)).1]at ha;cases ha) (λn a ha hm h=>h.elim (λ⟨_,h,_⟩=>h.elim) (λ⟨_,h,_⟩=>h.elim))
theorem wy(hL:Leavers P t gs q){a a' x:Goroutine}{w':World}:(gs.map (woken P a a' w')).setIfInBounds 0 x=gs.setIfInBounds 0 x:=by
 apply Array.ext_getElem?;intro j;by_cases hj:0=j
 . subst hj
   by_cases hlt:0<gs.size
   . rw[Array.getElem?_setIfInBounds_self_of_lt (by simpa using hlt),Array.getElem?_setIfInBounds_self_of_lt hlt]
   . rw[Array.getElem?_eq_none (by rw[Array.size_setIfInBounds,Array.size_map];omega),Array.getElem?_eq_none (by rw[Array.size_setIfInBounds];omega)]
 . rw[Array.getElem?_setIfInBounds_ne hj,Array.getElem?_setIfInBounds_ne hj,Array.getElem?_map]
   cases hg:gs[j]? with
   |none=>rfl
   |some y=>simp only[Option.map_some,Option.some.injEq];exact woken_quitsD (hL.old j y (by omega) hg)
theorem xB{N:ag->ah->Goroutine->Nat->Prop}(hrun:g.status=.running)(hstep:Ls P k O g d N):
 ∀ (n:Nat) (gs:Array Goroutine) (w:World) (sl:Option (Nat × Nat)) (t:Trace) (q:Nat->Nat),sumTo gs.size q=n->dL P d k O g gs w t Z q ->
   ∃M gs' w' sl' t' q' k' O' g' d',runNT P M (crowd gs w sl) t=(.next (crowd gs' w' sl'),t')/\dL P d' k' O' g' gs' w' t' Z q'/\N k' O' g' d':=by
 intro n
 induction n using Nat.strongRecOn with
 |ind n ih=>
 intro gs w sl t q hn hS
 have haw:∀x∈gs,awake x:=by
  intro x hx;obtain⟨i,hi,rfl⟩:=Array.mem_iff_getElem.1 hx
  rcases Nat.eq_zero_or_pos i with rfl|hpos
  . have:gs[0]=g:=by simpa[Array.getElem?_eq_getElem hi]using hS.g0
    rw[this];exact awake_of (.inl hrun)
  . exact awake_of ((hS.lv.old i _ hpos (Array.getElem?_eq_getElem hi)).status.elim .inl λx=>.inr (.inr x))
 obtain⟨i,x,dr,sl',hi,hg,hst⟩:=crowd_pick (P:=P) (w:=w) (sl:=sl) haw ⟨0,g,hS.g0,hrun⟩;have hlt:=(Array.getElem?_eq_some_iff.1 hi).1;have hSd:=hS.at dr
 rcases Nat.eq_zero_or_pos i with rfl|hpos
 . obtain rfl:x=g:=by rw[hS.g0]at hi;exact(Option.some.inj hi).symm
   obtain⟨g',w',es,k',O',s1,⟨w2,s0,s2,s3⟩,s4⟩:=hstep (w.at dr) hSd.sat;have hrunT:=runT_crowd_go (P:=P) (sl:=sl') (i:=0) hi (show stepG P (0==0) x (w.at dr)=_ from s1)
   rw[wy hS.lv]at hrunT;exact⟨1,_,w',sl',_,q,k',O',g',_,by simp only[runNT,hst,hrunT],(hSd.own (fn:=x.frame.fn) (pos:=x.frame.place) s2 s3).CJ s0,s4⟩
 . have hq:=hS.lv.old i x hpos hi
   have hi0:(i==0)=false:=by simp;omega
   cases hqi:q i with
   |zero=>rw[hqi]at hq;rw[hq.1]at hg;cases hg
   | succ k0=>
     rw[hqi]at hq
     rcases hq with⟨hf,_⟩|⟨_,g',es,hm,hstp,hq'⟩
     . rw[hf]at hg;cases hg
     have hrunT:=runT_crowd_go (P:=P) (sl:=sl') (i:=i) hi (by rw[hi0];exact hstp (w.at dr))
     have hsum:sumTo gs.size (upd q i k0)+(k0+1)=sumTo gs.size q+k0:=by have:=sumTo_upd q k0 id hlt;simpa[hqi]using this
     have hops:∀op∈MemOp.ofEvents i x.frame.fn x.frame.place es,op.g=i:=λop hop=>by obtain⟨e,_,rfl⟩:=Go.Conc.mem_ofEvents hop;rfl
     have hnt:∀op∈MemOp.ofEvents i x.frame.fn x.frame.place es,op.act.touch?=none:=λop hop=>by obtain⟨e,he,rfl⟩:=Go.Conc.mem_ofEvents hop;exact touch_mute (hm e he)
     have hlow:∀op∈MemOp.ofEvents i x.frame.fn x.frame.place es,op.act.low (w.at dr).heap.size:=λop hop=>by obtain⟨e,he,rfl⟩:=Go.Conc.mem_ofEvents hop;exact low_mute (hm e he) _
     have hP:=hSd.bY.rY (w':=w.at dr) (kk':=bv (λ_=>ag.bot) 0 k) (OO':=bv (λ_=>ah.bot) 0 O) (J':=λ_=>False) (M':=λ_=>False) (u:=MemOp.ofEvents i x.frame.fn x.frame.place es) (λa b=>a=b) rfl ⟨⟨.refl _,rfl⟩,λ_ _=>rfl⟩ (λb=>.inl rfl) hlow (λa b e n y _ _ _ h=>by subst e;exact h.app _) (λj b n v h=>⟨j,rfl,h⟩) (λj b n h=>⟨j,rfl,h⟩) (λj b x h=>⟨j,rfl,h,λ_ h=>h⟩) hSd.bY.iV
      (λsaid=>noRace_appendMute (hSd.bY.clean said) hnt) (λop hop a ha=>by rw[hnt op hop]at ha;cases ha) (λm op a hop ha=>by rw[hnt op (Array.mem_of_getElem? hop)]at ha;cases ha) (λn a ha hm h=>h.elim (λ⟨_,h,_⟩=>h.elim) (λ⟨_,h,_⟩=>h.elim))
     have hS':dL P d k O g ((gs.map (woken P x g' (w.at dr))).setIfInBounds i g') (w.at dr) (t++MemOp.ofEvents i x.frame.fn x.frame.place es) Z (upd q i k0):=by
      refine⟨hS.lk,?_,⟨λj y hj hy=>?_,λj hj=>?_⟩,?_,hP⟩
      . rw[Array.getElem?_setIfInBounds_ne (by omega),Array.getElem?_map,hS.g0]
        simp[woken_run hrun]
      . by_cases hji:i=j
        . subst hji
          rw[Array.getElem?_setIfInBounds_self_of_lt (by simpa using hlt)]at hy
          obtain rfl:=Option.some.inj hy;rw[upd_same,Deaf_own];exact hq'
        . rw[Array.getElem?_setIfInBounds_ne hji,Array.getElem?_map]at hy
          obtain⟨z,hz,rfl⟩:=Option.map_eq_some_iff.1 hy;have hqj:=hS.lv.old j z hj hz;rw[woken_quitsD hqj,upd_ne q k0 (Ne.symm hji),Deaf_other t hji _ hops];exact hqj
      . rw[Deaf_other t (g':=i) (by simp at hj;omega) _ hops]
        exact hS.lv.above j (by simpa using hj)
      . rw[Deaf_other t (by omega) _ hops];exact hS.df
     obtain⟨M,gs',w'',sl'',t',q',k',O',g'',d',e1,e2,e3⟩:=ih (sumTo gs.size (upd q i k0)) (by omega) _ (w.at dr) sl' _ (upd q i k0) (by simp) hS'
     exact⟨M+1,gs',w'',sl'',t',q',k',O',g'',d',by simp only[runNT,hst,hrunT];exact e1,e2,e3⟩
inductive iD(P:Program)(N:ag->ah->Goroutine->Prop):ag->ah->Goroutine->Nat->Prop
 |done {k:ag}{O:ah}{g:Goroutine}:N k O g->iD P N k O g 0
 |step {k:ag}{O:ah}{g:Goroutine}{d:Nat}(N':ag->ah->Goroutine->Nat->Prop):g.status=.running->Ls P k O g d N'->(∀k' O' g' d',N' k' O' g' d'->iD P N k' O' g' d')->iD P N k O g d
theorem HN{N:ag->ah->Goroutine->Prop}(h:iD P N k O g d):∀(gs:Array Goroutine) (w:World) (sl:Option (Nat × Nat)) (t:Trace) (q:Nat->Nat),dL P d k O g gs w t Z q ->
 ∃M gs' w' sl' t' k' O' g',runNT P M (crowd gs w sl) t=(.next (crowd gs' w' sl'),t')/\ed P Z.W0 k' O' g' gs' w' t'/\N k' O' g':=by
 induction h with
 |done h=>exact λgs w sl t q hs=>⟨0,gs,w,sl,t,_,_,_,rfl,hs.back,h⟩
 |step N' h1 h2 _ ih=>intro gs w sl t q hs;obtain⟨M1,gs1,w1,sl1,t1,q1,k1,O1,g1,d1,e1,e2,e3⟩:=xB h1 h2 _ gs w sl t q rfl hs;obtain⟨M2,gs2,w2,sl2,t2,k2,O2,g2,f1,f2,f3⟩:=ih _ _ _ _ e3 gs1 w1 sl1 t1 q1 e2;exact⟨M1+M2,gs2,w2,sl2,t2,k2,O2,g2,by rw[runNT_add _ _ _ _ _ _ e1];exact f1,f2,f3⟩
theorem iD.phase{N:ag->ah->Goroutine->Prop}(h:iD P N k O g 0):x6 P k O g N:=λW0 gs w sl t hs=>by obtain⟨Z,q,rfl,hS⟩:=hs.P6;exact HN h gs w sl t q hS
theorem ed.ghost{W0:World}(h:ed P W0 k O g gs w t){k':ag}{O':ah}(hg:kK k O k' O'):ed P W0 k' O' g gs w t:=by
 obtain⟨Z,q,rfl,hS⟩:=h.P6;obtain⟨h1,h2⟩:=hg w hS.sat;have:=hS.own (g':=g) (es:=#[]) (fn:=0) (pos:=  "") h1 (.inl h2)
 have e1:t++MemOp.ofEvents 0 0  "" #[]=t:=by rw[ofEvents_eq];simp
 have e2:gs.setIfInBounds 0 g=gs:=by
  apply Array.ext_getElem?;intro j;by_cases hj:0=j
  . subst hj
    rw[Array.getElem?_setIfInBounds_self_of_lt (Array.getElem?_eq_some_iff.1 hS.g0).1,hS.g0]
  . rw[Array.getElem?_setIfInBounds_ne hj]
 rw[e1,e2]at this;exact this.back
theorem HO{m:Mo}(hm:m.main=true)(hno:∀k O g N,¬m.dc k O g N){Q:ag->ah->Goroutine->Prop}(h:T P m Q k O g):
 ∀ (W0:World) (gs:Array Goroutine) (w:World) (sl:Option (Nat × Nat)) (t:Trace),ed P W0 k O g gs w t ->
   ∃M gs' w' sl' t' k' O' g',runNT P M (crowd gs w sl) t=(.next (crowd gs' w' sl'),t')/\ed P W0 k' O' g' gs' w' t'/\Q k' O' g':=by
 induction h with
 |stop h=>exact λW0 gs w sl t hs=>⟨0,gs,w,sl,t,_,_,_,rfl,hs,h⟩
 | step N h1 _ h3 ih=>
   intro W0 gs w sl t hs;rw[hm]at h3;obtain⟨Z,q,rfl,hS⟩:=hs.P6
   obtain⟨M1,gs1,w1,sl1,t1,q1,k1,O1,g1,d1,e1,e2,rfl,e3⟩:=xB (N:=λk' O' g' d'=>d'=0/\N k' O' g') h1 (λw hw=>by
    obtain⟨g',w',es,k',O',a1,a2,a3,a4⟩:=h3 w hw;refine⟨g',w',es,k',O',a1,⟨w',.refl _,a3,.inl a2⟩,?_,a4⟩;have hl:=bK (t:=#[]) (u' (λe he=>a2.evs e he) 0 0  "") 0
    rw[Deaf_own]at hl;exact hl) _ gs w sl t q rfl hS
   obtain⟨M2,gs2,w2,sl2,t2,k2,O2,g2,f1,f2,f3⟩:=ih _ _ _ e3 _ gs1 w1 sl1 t1 e2.back;exact⟨M1+M2,gs2,w2,sl2,t2,k2,O2,g2,by rw[runNT_add _ _ _ _ _ _ e1];exact f1,f2,f3⟩
 |ghost h1 _ ih=>exact λW0 gs w sl t hs=>ih W0 gs w sl t (hs.ghost h1)
 |phase N h1 _ h3 ih=>intro W0 gs w sl t hs;obtain⟨M1,gs1,w1,sl1,t1,k1,O1,g1,e1,e2,e3⟩:=h3 W0 gs w sl t hs;obtain⟨M2,gs2,w2,sl2,t2,k2,O2,g2,f1,f2,f3⟩:=ih _ _ _ e3 W0 gs1 w1 sl1 t1 e2;exact⟨M1+M2,gs2,w2,sl2,t2,k2,O2,g2,by rw[runNT_add _ _ _ _ _ _ e1];exact f1,f2,f3⟩
 |dc N h0 h1 _ _=>exact absurd h1 (hno _ _ _ _)
end
def fD(fo:Nat)(s:Mu.Sh):Nat->Option Value:=λi=>if i=fo then some (.int .i32 (enc s.w.L s.w.K s.w.S s.w.N))else if i=fo+1 then some (.int .u32 s.ms)else none
def jZ:Mu.Sh:=⟨.zero,0⟩
def oh:Mu.Sh:=⟨{Mu.Wd.zero with L:=true},0⟩
theorem vD(fo:Nat):fD fo jZ=bC fo:=by
 funext i;simp[fD,bC,jZ,enc,Mu.Wd.zero]
def gX(fo:Nat):Nat->Option Value:=fD fo oh
section
variable{P:Program}{k:ag}{O:ah}{b o:Nat}{w w':World}{s s':Mu.Sh}
theorem uc(hs:Sat k O w)(hO:O b=some (.part (fD o s))):ShM b o w s:=by
 obtain⟨c,e,h1,h2,h3⟩:=hs.part _ _ hO;refine⟨?_,?_,λi=>?_⟩
 . exact oY h1 (h3 o _ (by simp[fD]))
 . exact oY h1 (h3 (o+1) _ (by simp[fD]))
 . exact m8 h1
theorem heap_set{w:World}{b i:Nat}{v:Value}{c:Array Value}{e:TypeId}{z:Nat × Nat}(h:w.heap[b]?=some (.cells c e z)):(w.setCell ⟨b,i,none⟩ v).heap[b]?=some (.cells (c.setIfInBounds i v) e z):=by have hlt:=(Array.getElem?_eq_some_iff.1 h).1;simp[World.setCell,Array.getElem?_modify,h]
theorem Bb{w:World}{b i d:Nat}{v:Value}(h:d≠b):(w.setCell ⟨b,i,none⟩ v).heap[d]?=w.heap[d]?:=by simp[World.setCell,Array.getElem?_modify,Ne.symm h]
theorem HP{es : Array Event}(hs:Sat k O w)(hO:O b=some (.part (fD o s)))(hmw:MW b o w w')(hsm:ShM b o w' s')(hev:EvM b o es)(hnd:∀e∈es,∀m,e.loc≠.mark m):
 ∃w2:World,xz w2 w'/\Sat k (O.set b (.part (fD o s'))) w2/\Eff k O w k (O.set b (.part (fD o s'))) w2 es.toList:=by
 obtain⟨c,e,h1,h2,h3⟩:=hs.part _ _ hO;have hlt:=(Array.getElem?_eq_some_iff.1 h1).1
 have key:∃c',w'.heap[b]?=some (.cells c' e (0,0))/\c'.size=c.size/\(∀i,i≠o->i≠o+1->c'[i]?=c[i]?)/\(∀d,d≠b->w'.heap[d]?=w.heap[d]?)/\w'.heap.size=w.heap.size:=by
  rcases hmw.2 with hq|⟨i,v,hi,hf,hq⟩
  . exact⟨c,by rw[hq];exact h1,rfl,λ_ _ _=>rfl,λd _=>by rw[hq],by rw[hq]⟩
  . refine⟨c.setIfInBounds i v,by rw[hq];exact heap_set h1,by simp,λj hj hj'=>?_,λd hd=>by rw[hq];exact Bb hd,by rw[hq];simp[World.setCell]⟩
    exact Array.getElem?_setIfInBounds_ne (by rcases hi with rfl|rfl<;>omega)
 obtain⟨c',k1,k2,k3,k4,k5⟩:=key;have hcw:c'[o]?=some (.int .i32 (enc s'.w.L s'.w.K s'.w.S s'.w.N)):=by have:=hsm.cw;simpa[World.cell?,k1]using this
 have hcs:c'[o+1]?=some (.int .u32 s'.ms):=by have:=hsm.cs;simpa[World.cell?,k1]using this
 have hcov:∀i,(i=o\/i=o+1)->aP O b i:=λi hi=>.inr (.inr ⟨_,hO,by rcases hi with rfl|rfl<;>simp[fD]⟩)
 have hown:∀d y,(O.set b (.part (fD o s'))) d=some y->(d=b/\y=.part (fD o s'))\/(d≠b/\O d=some y):=λd y h=>by
  by_cases hd:d=b
  . subst hd;simp[ah.set]at h;exact .inl ⟨rfl,h.symm⟩
  . simp[ah.set,hd]at h;exact .inr ⟨hd,h⟩
 have hsame:∀i v,k.cell b i=some v->i≠o/\i≠o+1:=λi v hv=>⟨λe=>hs.apart _ _ _ hv (hcov i (.inl e)),λe=>hs.apart _ _ _ hv (hcov i (.inr e))⟩
 refine⟨{w with heap:=w'.heap},⟨rfl,hmw.1⟩,⟨λd i v hv hc=>?_,λd i v hv=>?_,λd z hz=>?_,λd y hy=>?_,λd n hy=>?_,λd f hy=>?_⟩,⟨.refl k,?_,λd hd hn=>?_,λd n hd hn c2 e2 hh=>?_,λd f hd hn c2 e2 hh=>?_,λd hd=>?_,λd y hy=>?_,λd i v hv=>.inl hv,λd z hz=>.inl hz,λev hev'=>?_,rfl,rfl,rfl,λev hev'=>?_,λd f hf=>?_⟩⟩
 . by_cases hd:d=b
   . subst hd
     obtain⟨n1,n2⟩:=hsame i v hv;rcases hc with⟨_,q⟩|⟨_,q,_⟩|⟨f,q,hf⟩
     . simp[ah.set]at q
     . simp[ah.set]at q
     . simp[ah.set]at q;subst q
       simp[fD,n1,n2]at hf
   . exact hs.apart d i v hv (by simpa[aP,ah.set,hd]using hc)
 . have h0:=hs.cell d i v hv
   by_cases hd:d=b
   . subst hd
     obtain⟨n1,n2⟩:=hsame i v hv;simp only[World.cell?,h1,k1]at h0 ⊢;rw[k3 i n1 n2];exact h0
   . simpa[World.cell?,k4 d hd]using h0
 . have h0:=hs.sh d z hz
   by_cases hd:d=b
   . subst hd
     simp only[World.shape?,h1,k1,k2]at h0 ⊢;exact h0
   . simpa[World.shape?,k4 d hd]using h0
 . rcases hown d _ hy with⟨_,q⟩|⟨hd,hy'⟩
   . cases q
   . rw[show({w with heap:=w'.heap}:World).heap[d]?=w.heap[d]? from k4 d hd];exact hs.obj d y hy'
 . rcases hown d _ hy with⟨_,q⟩|⟨hd,hy'⟩
   . cases q
   . rw[show({w with heap:=w'.heap}:World).heap[d]?=w.heap[d]? from k4 d hd];exact hs.tail d n hy'
 . rcases hown d _ hy with⟨rfl,q⟩|⟨hd,hy'⟩
   . cases q
     refine⟨c',e,k1,by rw[k2];exact h2,λi v hi=>?_⟩;unfold fD at hi;split at hi
     . next q=>subst q;rw[hcw];exact hi
     . split at hi
       . next q=>subst q;rw[hcs];exact hi
       . cases hi
   . rw[show({w with heap:=w'.heap}:World).heap[d]?=w.heap[d]? from k4 d hd];exact hs.part d f hy'
 . exact Nat.le_of_eq k5.symm
 . have hd':d≠b:=λq=>by rw[q,hO]at hn;cases hn
   exact k4 d hd'
 . have hd':d≠b:=λq=>by rw[q,hO]at hn;cases hn
   exact⟨c2,(k4 d hd').trans hh,rfl,λ_ _=>rfl⟩
 . by_cases hd':d=b
   . subst hd'
     rw[hO]at hn;cases hn;rw[h1]at hh;cases hh;exact⟨c',k1,k2,λi hi=>k3 i (λq=>by subst q;simp[fD]at hi) (λq=>by subst q;simp[fD]at hi)⟩
   . exact⟨c2,(k4 d hd').trans hh,rfl,λ_ _=>rfl⟩
 . by_cases hd':d=b
   . subst hd'
     simp only[World.shape?,h1,k1,k2]
   . simp[World.shape?,k4 d hd']
 . rcases hown d _ hy with⟨rfl,rfl⟩|⟨hd',hy'⟩
   . refine .inl ⟨_,hO,λi hi=>?_⟩
     unfold fD at hi ⊢;split
     . simp
     . next n1 => split
                  . simp
                  . next n2=>simp[n1,n2]at hi
   . exact .inl ⟨y,hy',.refl y⟩
 . rcases hev ev (by simpa using hev')with q|⟨i,hi,q,_⟩
   . rcases q with q|q<;>exact absurd q (hnd ev (by simpa using hev') _)
   . simp only[iJ,q];exact .inl (hcov i hi)
 . rcases hev ev (by simpa using hev')with q|⟨i,hi,q,_⟩
   . rcases q with q|q<;>exact absurd q (hnd ev (by simpa using hev') _)
   . simp only[jd,q];rw[show({w with heap:=w'.heap}:World).heap.size=w.heap.size from k5];exact hlt
 . by_cases hd':d=b
   . subst hd';exact⟨fD o s',by simp[ah.set]⟩
   . exact⟨f,by simp[ah.set,hd',hf]⟩
variable{n:xp}(C:iy P n)(X:iz P n){kind:CallKind}{Wd:World->Prop}{cs:List Frame}{g:Goroutine}{main:Bool}
def Ov(b o:Nat):Array Event:=#[⟨.cell ⟨b,o,none⟩,false,true⟩,⟨.cell ⟨b,o,none⟩,true,true⟩]
theorem Mf(b o:Nat):EvM b o (Ov b o)/\(∀e∈Ov b o,∀m,e.loc≠.mark m)/\∀d,deafBehind d (Ov b o)=d:=by
 refine⟨jV (.inl rfl),λe he m h=>?_,λd=>rfl⟩;simp[Ov]at he;rcases he with rfl|rfl<;>cases h
include C X in
theorem HQ(hs:ShM b o w jZ)(h:mL P n b o kind .gx cs g):∃g1 w',stepG P main g w=.go g1 w' (Ov b o)/\MW b o w w'/\ShM b o w' oh/\Next P n b o kind Wd cs .le g1:=by
 obtain⟨c,y,fr,frs,rfl,hy,hr,hrs,rfl⟩:=h;have hk:(sb P n b o kind).1.kind≠.early:=by simp[sb,lD]
 have hc:=hs.cw;rw[show enc jZ.w.L jZ.w.K jZ.w.S jZ.w.N=0 from rfl]at hc;exact⟨_,_,gh hr (C.o2 b o kind) hk X.jS (v:=0) (n:=1) (λx h=>h) (λx h=>h) hc (hs.fz o),tJ rfl,hs.aE {Mu.Wd.zero with L:=true},nxt (C.e2 _ b o kind) hy hr hrs rfl (.inl rfl)⟩
include C X in
theorem HR(hs:ShM b o w oh)(h:mL P n b o kind .held cs g):∃g1 w' es,stepG P main g w=.go g1 w' es/\MW b o w w'/\ShM b o w' jZ/\EvM b o es/\(∀e∈es,∀m,e.loc≠.mark m)/\(∀d,deafBehind d es=d)/\Next P n b o kind Wd cs .ue g1:=by
 obtain⟨c,y,fr,frs,rfl,hy,hr,hrs,rfl⟩:=h;have hy':({y with N:=0}:Sy).ok:=⟨⟨by simp,by simp⟩,hy.2⟩;have hr':=hr.re (y':={y with N:=0}) (.inr rfl) (.inl rfl) (.inl rfl) (.inl rfl);have hrs':=hrs.fW (y':={y with N:=0}) (by simpa[qe,nz]using(C.p3 b o kind).1);have hst:=n9 (main:=main) (cs:=frs++cs) (w:=w) hr (C.PE b o kind) (by simp[qe,nz]) X.add (λx h=>h) hs.cw (hs.fz _);have e:IntKind.i32.wrap (enc oh.w.L oh.w.K oh.w.S oh.w.N+-1)=enc false false false 0:=by decide
 rw[e]at hst;have hsh:=hs.aE Mu.Wd.zero;have hv:SR {y with N:=0} (.word false false false 0) (.int .i32 (enc false false false 0)):=oW rfl;have key:=C.u5 (Fl.of {y with N:=0}) b o kind true false (by rfl);exact⟨_,_,_,hst,tJ rfl,hsh,jV (.inl rfl),(λe he m h=>(by simp at he;rcases he with rfl|rfl<;>cases h)),(λd=>rfl),nxt (y:={y with N:=0}) key hy' hr' hrs' hv rfl⟩
theorem iD.xi{N:ag->ah->Goroutine->Prop}{Wd:World->Prop}{g2:Goroutine}{d:Nat}(hW:∀w,Sat k O w->Wd w){m:Nat}:∀{g:Goroutine},jG P Wd m g g2->iD P N k O g2 d->iD P N k O g d:=by
 induction m with
 |zero=>intro g h hl;obtain rfl:g=g2:=h;exact hl
 | succ m ih=>
   intro g h hl;obtain⟨g1,h1,h2⟩:=h;refine .step (λk' O' g' d'=>k=k'/\O=O'/\g1=g'/\d=d') h1.1 (λw hw=>⟨g1,w,#[],k,O,h1.2 true w (hW w hw),⟨w,.refl _,hw,.inl (.refl ..)⟩,rfl,rfl,rfl,rfl⟩) ?_;rintro k' O' g' d' ⟨rfl,rfl,rfl,rfl⟩;exact ih h2 hl
theorem iD.next{N:ag->ah->Goroutine->Prop}{p:qW}{g1:Goroutine}{d:Nat}(hW:∀w,Sat k O w->Wd w)(h:Next P n b o kind Wd cs p g1)(hl:∀g2,mL P n b o kind p cs g2->iD P N k O g2 d):iD P N k O g1 d:=by obtain⟨_,g2,⟨m,h1⟩,h2⟩:=h;exact iD.xi hW h1 (hl g2 h2)
variable{N:ag->ah->Goroutine->Prop}
theorem Bc{e:Event}(hs:Sat k O w)(hO:O b=some (.part (fD o s)))(he:e.loc=.mark (.acquire ⟨b,o,none⟩)\/e.loc=.mark (.releaseMerge ⟨b,o,none⟩)):Eff k O w k O w [e]:=by
 have h0:=Eff.refl k O w;have hlt:=hs.nH hO;refine⟨h0.le,h0.size,h0.keep,h0.tail,h0.part,h0.shape,h0.own,h0.cell,h0.sh,λx hx=>?_,rfl,rfl,rfl,λx hx=>?_,h0.tok⟩
 . rw[List.mem_singleton]at hx;subst hx
   rcases he with q|q<;>simp[iJ,q,js]
 . rw[List.mem_singleton]at hx;subst hx
   rcases he with q|q<;>simp only[jd,q]<;>exact hlt
theorem yZ(hO:O b=some (.part (fD o s))):∀w,Sat k O w->∃v,w.cell? ⟨b,o,none⟩=some v:=λw hs=>⟨_,(uc hs hO).cw⟩
include C X in
theorem CK(F:qg P n){c:Frame}{rest:List Frame}(hk:kind≠.early)(hO:O b=some (.part (bC o)))(hN:N k (O.set b (.part (gX o))) (jT kind c rest (.tuple #[]))):iD P N k O (G (Frame.enter P n.lock #[.pointer (some ⟨b,o,none⟩)] kind) (c::rest)) 0:=by
 rw[<-vD]at hO;have hO':(O.set b (.part (gX o))) b=some (.part (fD o oh)):=by simp[ah.set,gX]
 have hW:=yZ (k:=k) hO;have hW':=yZ (k:=k) hO';obtain⟨g2,⟨m,hs⟩,hA⟩:=pz (P:=P) (n:=n) (b:=b) (o:=o) (kind:=kind) (Wd:=λw=>∃v,w.cell? ⟨b,o,none⟩=some v) (cs:=c::rest) F;refine iD.xi hW hs ?_;refine .step (λk' O' g' d'=>k=k'/\O=O'/\d'=1/\Next P n b o kind (λw=>∃v,w.cell? ⟨b,o,none⟩=some v) (c::rest) .gx g') hA.running.1 (λw hw=>?_) ?_
 . obtain⟨g1,h1,h2⟩:=yH (main:=true) (w:=w) C X hA
   exact⟨g1,w,_,k,O,h1,⟨w,.refl _,hw,.inr ⟨rfl,rfl,rfl,.inl rfl⟩⟩,rfl,rfl,rfl,h2⟩
 rintro _ _ g1 _ ⟨rfl,rfl,rfl,hx⟩;refine iD.next hW hx λg2 hA=>?_
 refine .step (λk' O' g' d'=>k=k'/\O.set b (.part (gX o))=O'/\d'=1/\Next P n b o kind (λw=>∃v,w.cell? ⟨b,o,none⟩=some v) (c::rest) .le g') hA.running.1 (λw hw=>?_) ?_
 . obtain⟨g1,w',h1,h2,h3,h4⟩:=HQ (main:=true) (w:=w) C X (uc hw hO) hA
   obtain⟨q1,q2,q3⟩:=Mf b o;obtain⟨w2,a1,a2,a3⟩:=HP hw hO h2 h3 q1 q2;exact⟨g1,w',_,k,_,h1,⟨w2,a1,a2,.inl a3⟩,rfl,rfl,q3 1,h4⟩
 rintro _ _ g1 _ ⟨rfl,rfl,rfl,hx⟩;refine iD.next hW' hx λg2 hA=>?_
 refine .step (λk' O' g' d'=>k=k'/\O.set b (.part (gX o))=O'/\d'=0/\Next P n b o kind (λw=>∃v,w.cell? ⟨b,o,none⟩=some v) (c::rest) .la g') hA.running.1 (λw hw=>?_) ?_
 . obtain⟨g1,h1,h2⟩:=DF (main:=true) (w:=w) C X (λw h=>h) hA
   exact⟨g1,w,_,k,_,h1,⟨w,.refl _,hw,.inr ⟨rfl,rfl,rfl,.inr rfl⟩⟩,rfl,rfl,rfl,h2⟩
 rintro _ _ g1 _ ⟨rfl,rfl,rfl,hx⟩;refine iD.next hW' hx λg2 hA=>?_
 refine .step (λk' O' g' d'=>k=k'/\O.set b (.part (gX o))=O'/\d'=0/\Next P n b o kind (λw=>∃v,w.cell? ⟨b,o,none⟩=some v) (c::rest) .back g') hA.running.1 (λw hw=>?_) ?_
 . obtain⟨g1,h1,h2⟩:=DD (main:=true) (w:=w) C X hA
   exact⟨g1,w,_,k,_,h1,⟨w,.refl _,hw,.inl (Bc hw hO' (.inl rfl))⟩,rfl,rfl,rfl,h2⟩
 rintro _ _ g1 _ ⟨rfl,rfl,rfl,hx⟩;refine iD.next hW' hx λg2 hA=>?_
 obtain⟨m,hs⟩:=q8 (Wd:=λw=>∃v,w.cell? ⟨b,o,none⟩=some v) F hA hk;exact iD.xi hW' hs (.done hN)
include C X in
theorem y7(F:qg P n){c:Frame}{rest:List Frame}(hk:kind≠.early)(hO:O b=some (.part (gX o)))(hN:N k (O.set b (.part (bC o))) (jT kind c rest (.tuple #[]))):iD P N k O (G (Frame.enter P n.unlock #[.pointer (some ⟨b,o,none⟩)] kind) (c::rest)) 0:=by
 rw[<-vD]at hN;have hO':(O.set b (.part (fD o jZ))) b=some (.part (fD o jZ)):=by simp[ah.set]
 have hW:=yZ (k:=k) hO;have hW':=yZ (k:=k) hO';obtain⟨g2,⟨m,hs⟩,hA⟩:=nA (P:=P) (n:=n) (b:=b) (o:=o) (kind:=kind) (Wd:=λw=>∃v,w.cell? ⟨b,o,none⟩=some v) (cs:=c::rest) F;refine iD.xi hW hs ?_;refine .step (λk' O' g' d'=>k=k'/\O=O'/\d'=0/\Next P n b o kind (λw=>∃v,w.cell? ⟨b,o,none⟩=some v) (c::rest) .ur g') hA.running.1 (λw hw=>?_) ?_
 . obtain⟨g1,h1,h2⟩:=ve (main:=true) (w:=w) C X (λw h=>h) (uc hw hO).cw hA
   exact⟨g1,w,_,k,O,h1,⟨w,.refl _,hw,.inl (.refl ..)⟩,rfl,rfl,rfl,h2⟩
 rintro _ _ g1 _ ⟨rfl,rfl,rfl,hx⟩;refine iD.next hW hx λg2 hA=>?_
 refine .step (λk' O' g' d'=>k=k'/\O=O'/\d'=0/\Next P n b o kind (λw=>∃v,w.cell? ⟨b,o,none⟩=some v) (c::rest) .ud g') hA.running.1 (λw hw=>?_) ?_
 . obtain⟨g1,h1,h2⟩:=DC (main:=true) (w:=w) C X hA
   exact⟨g1,w,_,k,_,h1,⟨w,.refl _,hw,.inl (Bc hw hO (.inr rfl))⟩,rfl,rfl,rfl,h2⟩
 rintro _ _ g1 _ ⟨rfl,rfl,rfl,hx⟩;refine iD.next hW hx λg2 hA=>?_
 refine .step (λk' O' g' d'=>k=k'/\O=O'/\d'=1/\Next P n b o kind (λw=>∃v,w.cell? ⟨b,o,none⟩=some v) (c::rest) .held g') hA.running.1 (λw hw=>?_) ?_
 . obtain⟨g1,h1,h2⟩:=DA (main:=true) (w:=w) C X hA
   exact⟨g1,w,_,k,_,h1,⟨w,.refl _,hw,.inr ⟨rfl,rfl,rfl,.inl rfl⟩⟩,rfl,rfl,rfl,h2⟩
 rintro _ _ g1 _ ⟨rfl,rfl,rfl,hx⟩;refine iD.next hW hx λg2 hA=>?_
 refine .step (λk' O' g' d'=>k=k'/\O.set b (.part (fD o jZ))=O'/\d'=1/\Next P n b o kind (λw=>∃v,w.cell? ⟨b,o,none⟩=some v) (c::rest) .ue g') hA.running.1 (λw hw=>?_) ?_
 . obtain⟨g1,w',es,h1,h2,h3,h4,h5,h6,h7⟩:=HR (main:=true) (w:=w) C X (uc hw hO) hA
   obtain⟨w2,a1,a2,a3⟩:=HP hw hO h2 h3 h4 h5;exact⟨g1,w',_,k,_,h1,⟨w2,a1,a2,.inl a3⟩,rfl,rfl,h6 1,h7⟩
 rintro _ _ g1 _ ⟨rfl,rfl,rfl,hx⟩;refine iD.next hW' hx λg2 hA=>?_
 refine .step (λk' O' g' d'=>k=k'/\O.set b (.part (fD o jZ))=O'/\d'=0/\Next P n b o kind (λw=>∃v,w.cell? ⟨b,o,none⟩=some v) (c::rest) .Az g') hA.running.1 (λw hw=>?_) ?_
 . obtain⟨g1,h1,h2⟩:=DB (main:=true) (w:=w) C X hA
   exact⟨g1,w,_,k,_,h1,⟨w,.refl _,hw,.inr ⟨rfl,rfl,rfl,.inr rfl⟩⟩,rfl,rfl,rfl,h2⟩
 rintro _ _ g1 _ ⟨rfl,rfl,rfl,hx⟩;refine iD.next hW' hx λg2 hA=>?_
 obtain⟨m,hs⟩:=oc (Wd:=λw=>∃v,w.cell? ⟨b,o,none⟩=some v) F hA hk;exact iD.xi hW' hs (.done hN)
theorem Rel.DY{σ:aa}{f:Nat->Option Value}(hr:Rel k O σ)(h:σ b=some (.part f)):O b=some (.part f):=by
 obtain⟨x,h1,h2⟩:=hr.1 b _ h (by simp);cases h2;exact h1
def qp(b o:Nat)(a:AV):Prop:=∀k v,V k v a->v=.pointer (some ⟨b,o,none⟩)
theorem xC(b o:Nat)(l:List AV)(h:List Nat):qp b o (.kp b l h o):=λk v hv=>by cases hv;rfl
theorem Vs.one{a:AV}{c:List Value}(h:Vs k c [a]):∃v,c=[v]/\V k v a:=by
 obtain⟨h1,h2⟩:=h
 match c with
 |[v]=>exact⟨v,rfl,h2 0 v a rfl rfl⟩
 |[]=>simp at h1
 |_::_::_=>simp at h1
include C X in
theorem Fa(F:qg P n){m:Mo}(hs:m.solo=true){a:AV}(ha:qp b o a){σ:aa}{KF:cL->aa->Prop}(hσ:σ b=some (.part (bC o)))(h:KF (.val (.c9 [])) (σ.set b (.part (gX o)))):aA P m n.lock [a] σ KF:=by
 intro Q k O cargs c rest kind h1 h2 h3 h4 h5;obtain⟨v,rfl,hv⟩:=h2.one;obtain rfl:=ha _ _ hv;refine .phase (λk' O' g'=>T P m Q k' O' g') hs (λ_ _ _ h=>h) (iD.phase (CK C X F h1 (h3.DY hσ) ?_));exact h4 k _ (.tuple #[]) (.c9 []) _ (.refl k) (.c9 _ _ rfl λi v a h=>by simp at h) (h3.set (.part _)) h
include C X in
theorem Bd(F:qg P n){m:Mo}(hs:m.solo=true){a:AV}(ha:qp b o a){σ:aa}{KF:cL->aa->Prop}(hσ:σ b=some (.part (gX o)))(h:KF (.val (.c9 [])) (σ.set b (.part (bC o)))):aA P m n.unlock [a] σ KF:=by
 intro Q k O cargs c rest kind h1 h2 h3 h4 h5;obtain⟨v,rfl,hv⟩:=h2.one;obtain rfl:=ha _ _ hv;refine .phase (λk' O' g'=>T P m Q k' O' g') hs (λ_ _ _ h=>h) (iD.phase (y7 C X F h1 (h3.DY hσ) ?_));exact h4 k _ (.tuple #[]) (.c9 []) _ (.refl k) (.c9 _ _ rfl λi v a h=>by simp at h) (h3.set (.part _)) h
theorem Rel.del{σ:aa}(h:Rel k O σ)(r:Nat):Rel k (O.del r) (σ.del r):=⟨λb a e hn=>by
 by_cases hb:b=r
 . subst hb;simp[aa.del]at e
 . simp only[aa.del,hb,if_false]at e
   obtain⟨x,h1,h2⟩:=h.1 b a e hn;exact⟨x,by simp[ah.del,hb,h1],h2⟩,λb e=>by
 by_cases hb:b=r
 . subst hb;simp[aa.del]at e
 . simp only[aa.del,hb,if_false]at e
   obtain⟨h1,h2⟩:=h.2 b e;exact⟨by simp[ah.del,hb,h1],h2⟩⟩
theorem Rel.gI{σ:aa}(h:Rel k O σ)(r:Nat)(hsh:∃s,k.sh r=some s):Rel k (O.del r) (σ.set r .gI):=⟨λb a e hn=>by
 by_cases hb:b=r
 . subst hb;simp[aa.set]at e;exact absurd e.symm hn
 . simp only[aa.set,hb,if_false]at e
   obtain⟨x,h1,h2⟩:=h.1 b a e hn;exact⟨x,by simp[ah.del,hb,h1],h2⟩,λb e=>by
 by_cases hb:b=r
 . subst hb;exact⟨by simp[ah.del],hsh⟩
 . simp only[aa.set,hb,if_false]at e
   obtain⟨h1,h2⟩:=h.2 b e;exact⟨by simp[ah.del,hb,h1],h2⟩⟩
theorem T.sat{m:Mo}{Q:ag->ah->Goroutine->Prop}(hrun:g.status=.running)(h:(∃w,Sat k O w)->T P m Q k O g):T P m Q k O g:=by
 by_cases hsat:∃w,Sat k O w
 . exact h hsat
 . exact .step (λ_ _ _=>False) hrun (λ_ _ _ h=>h.elim) λw hw=>absurd ⟨w,hw⟩ hsat
variable{A:dM}{j:Nat}
theorem Fb{a:AV}(ha:qp A.fb A.fo a){σ:aa}{KF:cL->aa->Prop}(hσ:σ A.fb=some .gI)(h:∀x,A.GI x->(∀y,σ A.mb=some y->y=.gI)->KF (.val (.c9 [])) ((σ.set A.mb x).set A.fb (.part q9))):aA P (kh P A j) A.nm.lock [a] σ KF:=by
 intro Q k O cargs c rest kind h1 h2 h3 h4 h5;obtain⟨v,rfl,hv⟩:=h2.one;obtain rfl:=ha _ _ hv;obtain⟨hO,e,he⟩:=h3.2 _ hσ;refine .dc (λk' O' g'=>T P (kh P A j) Q k' O' g') rfl (.inl ⟨kind,c,rest,e,h1,rfl,hO,he,λk' x y hle hor hgi hnm=>?_⟩) (λ_ _ _ h=>h);refine h4 k' _ (.tuple #[]) (.c9 []) _ hle (.c9 _ _ rfl λi v a h=>by simp at h) (((h3.mono hle).set hor).set (.part _)) (h y hgi λz hz=>?_);apply Classical.byContradiction;intro hne;obtain⟨x',q1,_⟩:=h3.1 _ z hz hne;rw[hnm]at q1;cases q1
theorem Be{a:AV}(ha:qp A.fb A.fo a){σ:aa}{KF:cL->aa->Prop}{f:Nat->Option Value}{y:jy}(hσ:σ A.fb=some (.part f))(hm:σ A.mb=some y)(hy:A.GI y)(hna:y≠.gI)(h:KF (.val (.c9 [])) ((σ.del A.mb).set A.fb .gI)):aA P (kh P A j) A.nm.unlock [a] σ KF:=by
 intro Q k O cargs c rest kind h1 h2 h3 h4 h5;obtain⟨v,rfl,hv⟩:=h2.one;obtain rfl:=ha _ _ hv;obtain⟨x,hx,hor⟩:=h3.1 _ _ hm hna;have hO:=h3.DY hσ;refine T.sat rfl λ⟨w,hw⟩=>?_
 obtain⟨c0,e0,_,hsh,_⟩:=hw.part _ _ hO;refine .dc (λk' O' g'=>T P (kh P A j) Q k' O' g') rfl (.inr (.inl ⟨kind,c,rest,f,x,y,h1,rfl,hO,hx,hor,hy,?_⟩)) (λ_ _ _ h=>h);exact h4 k _ (.tuple #[]) (.c9 []) _ (.refl k) (.c9 _ _ rfl λi v a h=>by simp at h) ((h3.del A.mb).gI A.fb ⟨_,hsh⟩) h
end
end Go.aN
