/- Part 24 of the proof. -/
import Derived.Test.YtelgggdkahhhfaaGreatDoorC23
set_option linter.all false
namespace Go.aZ
open Go.Conc
open Go.ConcN (sumTo upd sumTo_upd upd_ne upd_same)
theorem rE {F:Nat->Nat}:∀ {n:Nat},(∀ i,i<n->F i=0)->sumTo n F=0
 | 0,_=>rfl
 | n+1,h=>by simp only[sumTo,rE (n:=n) fun i hi=>h i (by omega),h n (by omega)]
theorem AS (n:Nat):Mu.Inv n (fun _ => .out) ⟨.zero,0⟩:=by
 have t0:∀ (F:Mu.Pc->Nat),F .out=0->Mu.dc n (fun _=>F .out)=0:=fun F hF=>by
  rw[hF];exact Mu.uP n
 refine⟨⟨fun i _=>trivial,?_,fun _=>⟨?_,?_,?_⟩,fun h=>(by cases h),fun _ _ _ h=>absurd rfl h⟩,fun h=>(by cases h),fun i _ old sv h=>(by cases h)⟩
 . rw[t0 Mu.bh rfl];rfl
 . rw[t0 Mu.du rfl,t0 Mu.br rfl,t0 Mu.jM rfl];rfl
 . rw[t0 Mu.bH rfl]
 . rw[t0 Mu.bq rfl,t0 Mu.br rfl];rfl
def MS.start (P:Program) (n:Nat):MS P:=⟨.add n,0,fun _ => .idle,.none,⟨.zero,0⟩,0,0,0⟩
theorem AT (P:Program) (n:Nat):bd n (MS.start P n):=by
 refine⟨?_,Nat.zero_le _,fun h=>(by cases h),fun j _ h=>(by rcases h with h|h <;> cases h),fun i j _ _ h=>(by cases h),fun j _ h=>(by cases h),⟨Nat.zero_le _,fun h=>(by cases h)⟩,fun h=>(by cases h),fun h=>(by cases h),fun h=>(by cases h),fun k h=>(by cases h),fun j _=>rfl,rfl,Nat.zero_le _,fun j _=>⟨fun _=>Nat.zero_le _,fun _=>rfl⟩,⟨Nat.zero_add _,rfl⟩,fun _ j _=>rfl,AS n⟩
 show 0=sumTo n (fun _=>0)+0
 rw[rE fun _ _=>rfl]
structure iF where
 n:Nat
 cF:Nat
 fb:Nat
 fo:Nat
 gb:Nat
 mb:Nat
 GI:iH->Prop
 res:Nat->AV
 nm:tl
 ng:Ce
 hn:n≤900
 d1:cF≠fb
 d2:cF≠gb
 d3:cF≠mb
 d4:fb≠gb
 d5:fb≠mb
 d6:gb≠mb
def iF.at (A:iF) (b:Nat) (hb:0<b):cC:=⟨b,A.n,A.cF,A.fb,A.fo,A.gb,A.mb,A.GI,A.res,A.nm,A.ng,hb,A.hn,A.d1,A.d2,A.d3,A.d4,A.d5,A.d6⟩
def iF.rest (A:iF) (O:ah):ah:=fun b=>if b=A.cF∨b=A.fb∨b=A.gb∨b=A.mb then none else O b
section
variable {P:Program} {Fin:ag->ah->Goroutine->Prop}
theorem kK {w:World} {b i:Nat} {c:Array Value} {e:TypeId} (h:w.heap[b]? = some (.cells c e (0,0))):w.frozen? ⟨b,i,none⟩=false:=by
 simp[World.frozen?,h]
theorem lZ {w:World} {b i:Nat} {c:Array Value} {e:TypeId} {v:Value} (h:w.heap[b]? = some (.cells c e (0,0))) (hc:c[i]? = some v):w.cell? ⟨b,i,none⟩=some v:=by
 simp[World.cell?,h,hc]
theorem yu (A:iF) (C:gk P A.ng) (X:iD P A.ng) (CM:fA P A.nm) (XM:fB P A.nm) (F:mV P A.nm) {k:ag} {O:ah} {g:Goroutine} {xF:Nat} {tm:Bool} {cg:Array Value} {eg:TypeId} {x:Own} {a:iH}
 (hF:O A.cF=some (.obj (.chan 0 #[] false xF xF tm))) (hG:O A.gb=some (.obj (.cells cg eg (0,0)))) (hg0:cg[0]? = some (.int .u64 0)) (hg1:cg[1]? = some (.int .u32 0)) (hL:O A.fb=some (.part (bc A.fo)))
 (hM:O A.mb=some x) (hor:jo k x a) (hgi:A.GI a) (ht:∀ b (hb:0<b),T P (tv P (A.at b hb) Fin A.n) fI k (A.rest O) g):uo P k O g Fin:=by
 intro W0 gs w sl t hS;have hmn:∀ b x,O b=some x->W0.heap.size≤b:=by obtain⟨_,_,_,_,_,_,_,_,_,h⟩:=hS;exact h
 have hb:0<gs.size:=by
  obtain⟨_,_,h0,_⟩:=hS;exact (Array.getElem?_eq_some_iff.1 h0).1
 obtain⟨B,hB⟩:∃ B,B=A.at gs.size hb:=⟨_,rfl⟩;obtain⟨lk,hlk⟩:∃ lk,lk=gs.size+A.n+1:=⟨_,rfl⟩;obtain⟨Z0,z1,z2,z3,z4,h0,⟨q,hLv⟩,hd0,hP0,hkn⟩:=bm.start hS lk ⟨A.fb,A.fo,none⟩ (by omega)
 have hSat:Sat k O w:=by have:=hP0.sat 0;rwa [aj,aj] at this
 obtain⟨tr⟩:=T.tree (wW (P:=P) (A:=B) (Fin:=Fin) A.n) (by rw[hB];exact ht gs.size hb)
 have hlk0:(0:Nat)≠lk:=by omega
 have hcovG:∀ i,aG O A.gb i:=fun i => .inl ⟨_,hG⟩
 have hkG:∀ i,k.cell A.gb i=none:=fun i=>by
  cases e:k.cell A.gb i with
  | none=>rfl
  | some v=>exact absurd (hcovG i) (hSat.apart _ _ _ e)
 have hcovF:∀ i,(i=A.fo∨i=A.fo+1)->aG O A.fb i:=fun i hi => .inr (.inr ⟨_,hL,by
  unfold bc
  rcases hi with rfl|rfl
  . simp
  . simp⟩)
 have hkF:∀ i,(i=A.fo∨i=A.fo+1)->k.cell A.fb i=none:=fun i hi=>by
  cases e:k.cell A.fb i with
  | none=>rfl
  | some v=>exact absurd (hcovF i hi) (hSat.apart _ _ _ e)
 have hhG:=hSat.obj _ _ hG;have hhF:=hSat.obj _ _ hF;obtain⟨cl,el,hhL,_,hlv⟩:=hSat.part _ _ hL
 have hrest:∀ b y,A.rest O b=some y->O b=some y∧b≠A.cF∧b≠A.fb∧b≠A.gb∧b≠A.mb:=fun b y h=>by
  unfold iF.rest at h;split at h
  . cases h
  . rename_i hn
    exact⟨h,fun e=>hn (.inl e),fun e=>hn (.inr (.inl e)),fun e=>hn (.inr (.inr (.inl e))),fun e=>hn (.inr (.inr (.inr e)))⟩
 obtain⟨kk,hkk⟩:∃ kk,kk=ba (ba (fun _=>ag.bot) 0 k) lk k:=⟨_,rfl⟩
 obtain⟨OO,hOO⟩:∃ OO,OO=ba (ba (fun _=>ah.bot) 0 (A.rest O)) lk (ah.bot.set A.mb x):=⟨_,rfl⟩
 have kk0:kk 0=k:=by rw[hkk,an _ _ hlk0,aj]
 have kkl:kk lk=k:=by rw[hkk,aj]
 have kkn:∀ i,i≠0->i≠lk->kk i=ag.bot:=fun i h1 h2=>by rw[hkk,an _ _ h2,an _ _ h1]
 have OO0:OO 0=A.rest O:=by rw[hOO,an _ _ hlk0,aj]
 have OOl:OO lk=ah.bot.set A.mb x:=by rw[hOO,aj]
 have OOn:∀ i,i≠0->i≠lk->OO i=ah.bot:=fun i h1 h2=>by rw[hOO,an _ _ h2,an _ _ h1]
 have hOwn:∀ i b y,OO i b=some y->(i=0∧O b=some y∧b≠A.cF∧b≠A.fb∧b≠A.gb∧b≠A.mb)∨(i=lk∧b=A.mb∧y=x):=fun i b y h=>by
  by_cases e0:i=0
  . subst e0;rw[OO0] at h;exact .inl ⟨rfl,hrest b y h⟩
  . by_cases e1:i=lk
    . subst e1
      rw[OOl] at h
      by_cases eb:b=A.mb
      . subst eb;simp only[ah.set,if_true,Option.some.injEq] at h;exact .inr ⟨rfl,rfl,h.symm⟩
      . simp only[ah.set,if_neg eb] at h;cases h
    . rw[OOn i e0 e1] at h;cases h
 have hkc:∀ i b n v,(kk i).cell b n=some v->k.cell b n=some v:=fun i b n v h=>by
  by_cases e0:i=0
  . subst e0;rw[kk0] at h;exact h
  . by_cases e1:i=lk
    . subst e1;rw[kkl] at h;exact h
    . rw[kkn i e0 e1] at h;cases h
 have hP1:bm Z0 kk OO (fun _=>False) (fun _=>False) w t:=by
  have h:=hP0.oB (u:=#[]) (w':=w) (kk':=kk) (OO':=OO) (J':=fun _=>False) (M':=fun _=>False) (fun a b=>a=b∨(a=0∧b=lk)) rfl ⟨⟨.refl _,rfl⟩,fun _ _=>rfl⟩ (fun b => .inl rfl) (fun op h=>by simp at h) (fun i j e n y hy hm hz hk=>?_) (fun j b n v hv=>?_) (fun j b s hv=>?_) (fun j b y hy=>?_) (fun i j b y hij hy=>?_)
   (fun said=>by rw[kJ];exact hP0.clean said) (fun op hop=>by simp at hop) (fun m op a hop=>by simp at hop) (fun n a ha hm h=>?_)
  . rw[kJ] at h;exact h
  . rw[kJ]
    rcases e with rfl|⟨rfl,rfl⟩
    . exact hk
    . unfold Ak
      rw[z2,if_pos rfl,z1];obtain⟨op,hop,_⟩:=touch_of hy;exact .inl (lt_size_of_getElem? hop)
  . by_cases e0:j=0
    . subst e0;rw[kk0] at hv;exact⟨0,.inl rfl,by rw[aj];exact hv⟩
    . by_cases e1:j=lk
      . subst e1;rw[kkl] at hv;exact⟨0,.inr ⟨rfl,rfl⟩,by rw[aj];exact hv⟩
      . rw[kkn j e0 e1] at hv;cases hv
  . by_cases e0:j=0
    . subst e0;rw[kk0] at hv;exact⟨0,.inl rfl,by rw[aj];exact hv⟩
    . by_cases e1:j=lk
      . subst e1;rw[kkl] at hv;exact⟨0,.inr ⟨rfl,rfl⟩,by rw[aj];exact hv⟩
      . rw[kkn j e0 e1] at hv;cases hv
  . rcases hOwn j b y hy with ⟨rfl,h1,_⟩|⟨rfl,rfl,rfl⟩
    . exact⟨0,.inl rfl,by rw[aj];exact h1,fun s hs=>by rw[aj] at hs;rw[kk0];exact hs⟩
    . exact⟨0,.inr ⟨rfl,rfl⟩,by rw[aj];exact hM,fun s hs=>by rw[aj] at hs;rw[kkl];exact hs⟩
  . cases e:OO j b with
    | none=>rfl
    | some y'=>
      rcases hOwn i b y hy with ⟨rfl,_,_,_,_,h5⟩|⟨rfl,h1,_⟩
      . rcases hOwn j b y' e with ⟨rfl,_⟩|⟨rfl,h6,_⟩
        . exact absurd rfl hij
        . exact absurd h6 h5
      . rcases hOwn j b y' e with ⟨rfl,_,_,_,_,h5⟩|⟨rfl,_⟩
        . exact absurd h1 h5
        . exact absurd rfl hij
  . rcases h with ⟨_,h,_⟩|⟨_,h,_⟩ <;> exact h.elim
 have hlG:A.gb<w.heap.size:=(Array.getElem?_eq_some_iff.1 hhG).1
 have hfreeO:∀ i b,(b=A.cF∨b=A.fb∨b=A.gb)->OO i b=none:=fun i b hb=>by
  cases e:OO i b with
  | none=>rfl
  | some y=>
    rcases hOwn i b y e with ⟨_,_,h1,h2,h3,_⟩|⟨_,h1,_⟩
    . rcases hb with rfl|rfl|rfl
      . exact absurd rfl h1
      . exact absurd rfl h2
      . exact absurd rfl h3
    . rcases hb with rfl|rfl|rfl
      . exact absurd h1 A.d3
      . exact absurd h1 A.d5
      . exact absurd h1 A.d6
 have hfreeK:∀ i b n,k.cell b n=none->(kk i).cell b n=none:=fun i b n h=>by
  cases e:(kk i).cell b n with
  | none=>rfl
  | some v=>rw[hkc i b n v e] at h;cases h
 have hP:=hP1.mR (fun l => ∃ c:Addr,l = .cell c∧c.spot=none∧c.block=A.gb∧(c.off=0∨c.off=1)) (fun c ⟨c',e,_,h1,_⟩=>by
  cases e;rw[h1];exact⟨hlG,fun i=>⟨cu (hfreeO i _ (.inr (.inr rfl))),hfreeK i _ _ (hkG _)⟩⟩) (fun r ⟨c',e,_⟩=>by cases e)
 obtain⟨Z,hZ⟩:∃ Z:Base,Z=⟨fun l=>Z0.Shun l∨∃ c:Addr,l = .cell c∧c.spot=none∧c.block=A.gb∧(c.off=0∨c.off=1),Z0.N0,Z0.lk,Z0.la,Z0.W0⟩:=⟨_,rfl⟩
 rw[← hZ] at hP;have hZl:Z.lk=lk:=by rw[hZ];exact z2
 have hZn:Z.N0=t.size:=by rw[hZ];exact z1
 have hZw:Z.W0=W0:=by rw[hZ];exact z4
 have hZle:B.b+B.n+1≤Z.lk:=by rw[hZl,hB];show gs.size+A.n+1≤lk;omega
 have hplain:∀ m b,touchAt t m=some b->b.loc.isMemory=true->b.kind ≠ .atomic->Knows t 0 m:=fun m b hb hm hk=>by
  rcases hkn m b hb hm with h|⟨_,h⟩
  . exact h
  . exact absurd h hk
 have hshM:∀ l,Db B l->l.isMemory=true:=fun l hl=>by cases l <;> first|rfl|exact hl.elim
 have hbeg:∀ i,be P B (MS.start P A.n) i ↔ i=0:=fun i=>by
  constructor
  . rintro (h|⟨l,h1,_⟩|⟨_,h1⟩)
    . exact h
    . exact absurd h1 (Nat.not_lt_zero _)
    . exact absurd rfl h1
  . exact fun h => .inl h
 have hgw:w.cell? ⟨A.gb,0,none⟩=some (.int .u64 (cE (0:Nat) 0)):=by
  rw[show cE ((0:Nat):Int) 0=0 by simp[cE]];exact lZ hhG hg0
 have hle0:bc A.fo A.fo=some (.int .i32 0):=by simp[bc]
 have hle1:bc A.fo (A.fo+1)=some (.int .u32 0):=by
  unfold bc;rw[if_neg (by omega),if_pos rfl]
 have hEx:bO P B Z (MS.start P A.n) kk OO (fun _=>False) (fun _=>False) gs.size w t:=by
  rw[hB] at hbeg hshM ⊢
  refine⟨AT P A.n,rfl,⟨xF,tm,hhF⟩,⟨lZ hhL (hlv _ _ hle0),lZ hhL (hlv _ _ hle1),fun i=>kK hhL⟩,⟨hgw,lZ hhG hg1,fun i=>kK hhG⟩,⟨_,_,hhL⟩,⟨_,_,hhG⟩,fun i=>⟨hfreeO i _ (.inl rfl),hfreeO i _ (.inr (.inr rfl))⟩,
   fun i=>⟨hfreeK i _ _ (hkF _ (.inl rfl)),hfreeK i _ _ (hkF _ (.inr rfl)),hfreeK i _ _ (hkG _),hfreeK i _ _ (hkG _)⟩,fun i y hy=>?_,fun j _ h=>(by cases h),fun _=>⟨x,a,?_,?_,hgi⟩,fun c hc=>⟨?_,fun j _=>rfl⟩,fun i=>⟨fun h=>h.elim,?_⟩,fun p hp=>hp.elim,fun h=>(by cases h),fun m b hb hs hk i hi=>?_,fun m b hb hs hk=>?_,fun i hi m b hm hb hmem hz=>?_,fun m c hm h=>?_,fun i h1 h2=>?_,fun l hl h=>?_,fun c hc h=>?_,by rw[hZw];exact⟨hmn _ _ hF,hmn _ _ hL,hmn _ _ hG⟩,?_,?_⟩
  . have hy:OO i A.fb=some y:=hy
    rw[hfreeO i A.fb (.inr (.inl rfl))] at hy;cases hy
  . show OO Z.lk A.mb=some x
    rw[hZl,OOl];simp[ah.set]
  . rw[hZl,kkl];exact hor
  . rw[hZl] at hc
    cases e:OO lk c with
    | none=>exact absurd e hc
    | some y=>
      rcases hOwn lk c y e with ⟨h,_⟩|⟨_,h,_⟩
      . omega
      . exact h
  . rintro (⟨j,_,_,h⟩|⟨_,h⟩) <;> cases h
  . rw[(hbeg i).1 hi]
    exact hplain m b hb (hshM _ hs) (by rw[hk];simp)
  . exact hplain m b hb (hshM _ hs) (by rw[hk];simp)
  . rw[(hbeg i).1 hi]
    rcases hkn m b hb hmem with h|⟨h,_⟩
    . exact h
    . exact absurd (by rw[hZ];exact .inl h) hz
  . have:=lt_of_act? h
    omega
  . have hi0:i≠0:=fun e=>h2 ((hbeg i).2 e)
    exact⟨kkn i hi0 (by rw[← hZl];exact h1),OOn i hi0 (by rw[← hZl];exact h1)⟩
  . obtain⟨c,rfl,hcb⟩:=h
    obtain⟨hs,hl⟩:=hl;rw[hZ];refine .inr ⟨c,rfl,hs,hcb,?_⟩
    rcases hl with ⟨h1,_⟩|⟨_,h2⟩
    . exact absurd (hcb.symm.trans h1).symm A.d4
    . exact h2
  . rw[hZ] at h
    rcases h with h|⟨c',e,_,h,_⟩
    . have:=(hP0.gX c h).2 0
      rw[aj] at this;exact this.1 (by rw[hc.1];exact hcovF _ hc.2)
    . cases e
      exact A.d4 (hc.1.symm.trans h)
  . rw[hZ];exact z3
  . rw[hZn];exact Nat.le_refl _
 have hbB:B.b=gs.size:=by rw[hB];rfl
 have hnl:∀ i,i≠0 -> ¬ bW P B (MS.start P A.n) i ∧ ¬ di P B (MS.start P A.n) i ∧ ¬ cL P B (MS.start P A.n) i:=fun i hi=>by
  refine⟨?_,?_,?_⟩
  . rintro (⟨h,_⟩|⟨_,_,_,h⟩|⟨_,h⟩)
    . exact hi h
    . exact h
    . exact h
  . rintro (⟨h,_⟩|⟨_,_,_,h⟩|⟨_,h⟩)
    . exact hi h
    . exact h
    . exact h
  . rintro (⟨h,_⟩|⟨_,_,_,h⟩)
    . exact hi h
    . cases h
 have hC:aW (bn P B Fin Z hZle) Z (MS.start P A.n) (fun _=>⟨_,_,_,_,tr⟩) q kk OO (fun _=>False) (fun _=>False) gs w t:=by
  refine⟨rfl,hP,fun i hl=>?_,fun i hw=>?_,fun i hh=>?_,fun i y hy n1 n2 n3=>?_,hLv.above,hEx⟩
  . have hi:i=0:=Classical.byContradiction fun h=>(hnl i h).1 hl
    subst hi;exact⟨by show 0<B.b+B.n+1;omega,h0,(by show tv P B Fin A.n=aY P B Fin (MS.start P A.n) 0;rfl),kk0.symm,OO0.symm,tr.running,hd0,.inl rfl,wT⟩
  . have hi:i=0:=Classical.byContradiction fun h=>(hnl i h).2.1 hw
    subst hi;exact absurd hw (tB (s:=MS.start P A.n) (m:=A.n) rfl)
  . have hi:i=0:=Classical.byContradiction fun h=>(hnl i h).2.2 hh
    subst hi;exact absurd hh (jD (by simp[MS.start]))
  . have hi:i≠0:=fun e=>n1 (by subst e;exact nX (s:=MS.start P A.n) (m:=A.n) rfl)
    exact⟨hi,hLv.old i y (by omega) hy⟩
 rw[← hZw];exact Dy (by rw[hB];exact C) (by rw[hB];exact X) (by rw[hB];exact CM) (by rw[hB];exact XM) (by rw[hB];exact F) hZle hC sl
end
theorem runNT_add {P:Program}:∀ (a b:Nat) (m m1:Machine) (t t1:Trace),runNT P a m t=(.next m1,t1)->runNT P (a+b) m t=runNT P b m1 t1
 | 0,b,m,m1,t,t1,h=>by
   simp only[runNT,Prod.mk.injEq,Stepped.next.injEq] at h
   rw[Nat.zero_add,h.1,h.2]
 | a + 1,b,m,m1,t,t1,h=>by
   have e:a+1+b=(a+b)+1:=by omega
   rw[e];simp only[runNT] at h ⊢;cases hs:stepT P m with
   | mk r ops=>
     rw[hs] at h;cases r with
     | next m2=>simp only at h ⊢;exact runNT_add a b m2 m1 _ t1 h
     | ended o w=>simp at h
def tC (w w':World):Prop:=w.heap=w'.heap∧js w.os w'.os∧w'.output=w.output
theorem tC.refl (w:World):tC w w:=⟨rfl,.refl _,rfl⟩
theorem bm.yv {Z:Base} {kk:Nat->ag} {OO:Nat->ah} {J M:Nat->Prop} {w w':World} {t:Trace} (h:bm Z kk OO J M w t) (e0:tC w w'):bm Z kk OO J M w' t:=by
 have e:=e0.1.symm;have hs:∀ {k O},Sat k O w->Sat k O w':=fun hs=>⟨hs.apart,fun b i v x=>by rw[(lW e _).1];exact hs.cell b i v x,fun b s x=>by have:=hs.sh b s x;simpa[World.shape?,e] using this,fun b o x=>by rw[e];exact hs.obj b o x,fun b n x=>by rw[e];exact hs.tail b n x,fun b f x=>by rw[e];exact hs.part b f x⟩
 exact⟨fun i=>hs (h.sat i),h.fR,h.ka,fun i=>by rw[e];exact h.uN i,h.clean,fun op x=>by rw[e];exact h.seen op x,h.acc,h.n0,h.qX,fun a x=>by rw[e];exact h.gX a x,fun r x=>by rw[e];exact h.kb r x,h.sC.step e0.2.1 e0.2.2 (by rw[e];exact Nat.le_refl _) (fun b _=>by rw[e]),h.mine⟩
structure cA (P:Program) (d:Nat) (k:ag) (O:ah) (g:Goroutine) (gs:Array Goroutine) (w:World) (t:Trace) (Z:Base) (q:Nat->Nat):Prop where
 lk:0≠Z.lk
 g0:gs[0]? = some g
 lv:Leavers P t gs q
 df:Deaf t 0=d
 bp:bm Z (ba (fun _=>ag.bot) 0 k) (ba (fun _=>ah.bot) 0 O) (fun _=>False) (fun _=>False) w t
def Ht (P:Program) (k:ag) (O:ah) (g:Goroutine) (d:Nat) (N:ag->ah->Goroutine->Nat->Prop):Prop:=
 ∀ w,Sat k O w->∃ g' w' es k' O',stepG P true g w = .go g' w' es∧(∃ w2:World,tC w2 w'∧Sat k' O' w2∧(Eff k O w k' O' w2 es.toList∨(w2=w∧k'=k∧O'=O∧(es=#[⟨.mark .disable,false,true⟩]∨es=#[⟨.mark .enable,false,true⟩]))))∧N k' O' g' (deafBehind d es)
section
variable {P:Program} {k k':ag} {O O':ah} {g g':Goroutine} {gs:Array Goroutine} {w w':World} {t:Trace} {Z:Base} {q:Nat->Nat} {d:Nat}
theorem cQ.LP {W0:World} (h:cQ P W0 k O g gs w t):∃ Z q,Z.W0=W0∧cA P 0 k O g gs w t Z q:=by
 obtain⟨Z,_,z2,_,z4,h0,⟨q,hL⟩,hd,hP,_⟩:=bm.start h 1 ⟨0,0,none⟩ (by decide)
 exact⟨Z,q,z4,by rw[z2];decide,h0,hL,hd,hP⟩
theorem cA.back (h:cA P 0 k O g gs w t Z q):cQ P Z.W0 k O g gs w t:=by
 have:=h.bp.finish (P:=P) h.g0 h.lv h.df;rw[aj,aj] at this;exact this
theorem cA.at (h:cA P d k O g gs w t Z q) (x:Nat):cA P d k O g gs (w.at x) t Z q:=⟨h.lk,h.g0,h.lv,h.df,h.bp.at x⟩
theorem cA.yv (h:cA P d k O g gs w t Z q) (e:tC w w'):cA P d k O g gs w' t Z q:=⟨h.lk,h.g0,h.lv,h.df,h.bp.yv e⟩
theorem cA.sat (h:cA P d k O g gs w t Z q):Sat k O w:=by have:=h.bp.sat 0;rwa [aj,aj] at this
theorem tD {α:Type} (f:Nat->α) (i:Nat) (x y:α):ba (ba f i x) i y=ba f i y:=by
 funext j
 by_cases e:j=i
 . subst e;rw[aj,aj]
 . rw[an _ _ e,an _ _ e,an _ _ e]
theorem cA.own (h:cA P d k O g gs w t Z q) {es:Array Event} {fn:FuncId} {pos:String} (hs:Sat k' O' w') (he:Eff k O w k' O' w' es.toList∨(w'=w∧k'=k∧O'=O∧(es=#[⟨.mark .disable,false,true⟩]∨es=#[⟨.mark .enable,false,true⟩]))) :
 cA P (deafBehind d es) k' O' g' (gs.setIfInBounds 0 g') w' (t ++ MemOp.ofEvents 0 fn pos es) Z q:=by
 have hlt:=(Array.getElem?_eq_some_iff.1 h.g0).1;have hops:∀ op∈MemOp.ofEvents 0 fn pos es,op.g=0:=fun op hop=>by obtain⟨e,_,rfl⟩:=Go.Conc.mem_ofEvents hop;rfl
 refine⟨h.lk,Array.getElem?_setIfInBounds_self_of_lt hlt,⟨fun i x hi hx=>?_,fun j hj=>?_⟩,by rw[Deaf_own,h.df],?_⟩
 . rw[Array.getElem?_setIfInBounds_ne (by omega)] at hx
   rw[Deaf_other t (by omega) _ hops];exact h.lv.old i x hi hx
 . rw[Array.size_setIfInBounds] at hj
   rw[Deaf_other t (by omega) _ hops];exact h.lv.above j hj
 . rcases he with he|⟨rfl,rfl,rfl,he⟩
   . have:=h.bp.own (i:=0) h.lk (.inl rfl) (k':=k') (O':=O') (fn:=fn) (pos:=pos) (by rw[aj,aj];exact he) hs
     rwa [tD,tD] at this
   . have hnt:∀ op∈MemOp.ofEvents 0 fn pos es,op.act.touch? = none∧op.act.low w'.heap.size:=fun op hop=>by
      obtain⟨e,hm,rfl⟩:=Go.Conc.mem_ofEvents hop
      rcases he with rfl|rfl <;> simp at hm <;> subst hm <;> exact⟨rfl,trivial⟩
     exact h.bp.oB (fun a b=>a=b) rfl ⟨⟨.refl _,rfl⟩,fun _ _=>rfl⟩ (fun b => .inl rfl) (fun op hop=>(hnt op hop).2) (fun a b e n x _ _ _ hk=>by subst e;exact hk.app _) (fun j b n v h=>⟨j,rfl,h⟩) (fun j b n h=>⟨j,rfl,h⟩) (fun j b x h=>⟨j,rfl,h,fun _ h=>h⟩) h.bp.fR
      (fun said=>noRace_appendMute (h.bp.clean said) fun op hop=>(hnt op hop).1) (fun op hop a ha=>by rw[(hnt op hop).1] at ha;cases ha) (fun m op a hop ha=>by rw[(hnt op (Array.mem_of_getElem? hop)).1] at ha;cases ha) (fun n a ha hm h=>h.elim (fun ⟨_,h,_⟩=>h.elim) (fun ⟨_,h,_⟩=>h.elim))
theorem sJ (hL:Leavers P t gs q) {a a' x:Goroutine} {w':World}:(gs.map (woken P a a' w')).setIfInBounds 0 x=gs.setIfInBounds 0 x:=by
 apply Array.ext_getElem?;intro j
 by_cases hj:0=j
 . subst hj
   by_cases hlt:0<gs.size
   . rw[Array.getElem?_setIfInBounds_self_of_lt (by simpa using hlt),Array.getElem?_setIfInBounds_self_of_lt hlt]
   . rw[Array.getElem?_eq_none (by rw[Array.size_setIfInBounds,Array.size_map];omega),Array.getElem?_eq_none (by rw[Array.size_setIfInBounds];omega)]
 . rw[Array.getElem?_setIfInBounds_ne hj,Array.getElem?_setIfInBounds_ne hj,Array.getElem?_map]
   cases hg:gs[j]? with
   | none=>rfl
   | some y=>
     simp only[Option.map_some,Option.some.injEq];exact woken_quitsD (hL.old j y (by omega) hg)
theorem tE {N:ag->ah->Goroutine->Nat->Prop} (hrun:g.status = .running) (hstep:Ht P k O g d N) :
 ∀ (n:Nat) (gs:Array Goroutine) (w:World) (sl:Option (Nat × Nat)) (t:Trace) (q:Nat->Nat),sumTo gs.size q=n->cA P d k O g gs w t Z q ->
   ∃ M gs' w' sl' t' q' k' O' g' d',runNT P M (crowd gs w sl) t=(.next (crowd gs' w' sl'),t')∧cA P d' k' O' g' gs' w' t' Z q'∧N k' O' g' d':=by
 intro n
 induction n using Nat.strongRecOn with
 | ind n ih=>
 intro gs w sl t q hn hS
 have haw:∀ x∈gs,awake x:=by
  intro x hx;obtain⟨i,hi,rfl⟩:=Array.mem_iff_getElem.1 hx
  rcases Nat.eq_zero_or_pos i with rfl|hpos
  . have:gs[0]=g:=by simpa[Array.getElem?_eq_getElem hi] using hS.g0
    rw[this];exact awake_of (.inl hrun)
  . exact awake_of ((hS.lv.old i _ hpos (Array.getElem?_eq_getElem hi)).status.elim .inl fun x => .inr (.inr x))
 obtain⟨i,x,dr,sl',hi,hg,hst⟩:=crowd_pick (P:=P) (w:=w) (sl:=sl) haw ⟨0,g,hS.g0,hrun⟩;have hlt:=(Array.getElem?_eq_some_iff.1 hi).1;have hSd:=hS.at dr
 rcases Nat.eq_zero_or_pos i with rfl|hpos
 . obtain rfl:x=g:=by rw[hS.g0] at hi;exact (Option.some.inj hi).symm
   obtain⟨g',w',es,k',O',s1,⟨w2,s0,s2,s3⟩,s4⟩:=hstep (w.at dr) hSd.sat;have hrunT:=runT_crowd_go (P:=P) (sl:=sl') (i:=0) hi (show stepG P (0 == 0) x (w.at dr)=_ from s1)
   rw[sJ hS.lv] at hrunT;exact⟨1,_,w',sl',_,q,k',O',g',_,by simp only[runNT,hst,hrunT],(hSd.own (fn:=x.frame.fn) (pos:=x.frame.place) s2 s3).yv s0,s4⟩
 . have hq := hS.lv.old i x hpos hi
   have hi0:(i == 0)=false:=by simp;omega
   cases hqi:q i with
   | zero=>rw[hqi] at hq;rw[hq.1] at hg;cases hg
   | succ k0=>
     rw[hqi] at hq
     rcases hq with ⟨hf,_⟩|⟨_,g',es,hm,hstp,hq'⟩
     . rw[hf] at hg;cases hg
     have hrunT:=runT_crowd_go (P:=P) (sl:=sl') (i:=i) hi (by rw[hi0];exact hstp (w.at dr))
     have hsum:sumTo gs.size (upd q i k0)+(k0+1)=sumTo gs.size q+k0:=by
      have:=sumTo_upd q k0 id hlt;simpa[hqi] using this
     have hops:∀ op∈MemOp.ofEvents i x.frame.fn x.frame.place es,op.g=i:=fun op hop=>by obtain⟨e,_,rfl⟩:=Go.Conc.mem_ofEvents hop;rfl
     have hnt:∀ op∈MemOp.ofEvents i x.frame.fn x.frame.place es,op.act.touch? = none:=fun op hop=>by obtain⟨e,he,rfl⟩:=Go.Conc.mem_ofEvents hop;exact touch_mute (hm e he)
     have hlow:∀ op∈MemOp.ofEvents i x.frame.fn x.frame.place es,op.act.low (w.at dr).heap.size:=fun op hop=>by obtain⟨e,he,rfl⟩:=Go.Conc.mem_ofEvents hop;exact low_mute (hm e he) _
     have hP:=hSd.bp.oB (w':=w.at dr) (kk':=ba (fun _=>ag.bot) 0 k) (OO':=ba (fun _=>ah.bot) 0 O) (J':=fun _=>False) (M':=fun _=>False) (u:=MemOp.ofEvents i x.frame.fn x.frame.place es) (fun a b=>a=b) rfl ⟨⟨.refl _,rfl⟩,fun _ _=>rfl⟩ (fun b => .inl rfl) hlow (fun a b e n y _ _ _ h=>by subst e;exact h.app _) (fun j b n v h=>⟨j,rfl,h⟩) (fun j b n h=>⟨j,rfl,h⟩) (fun j b x h=>⟨j,rfl,h,fun _ h=>h⟩) hSd.bp.fR
      (fun said=>noRace_appendMute (hSd.bp.clean said) hnt) (fun op hop a ha=>by rw[hnt op hop] at ha;cases ha) (fun m op a hop ha=>by rw[hnt op (Array.mem_of_getElem? hop)] at ha;cases ha) (fun n a ha hm h=>h.elim (fun ⟨_,h,_⟩=>h.elim) (fun ⟨_,h,_⟩=>h.elim))
     have hS':cA P d k O g ((gs.map (woken P x g' (w.at dr))).setIfInBounds i g') (w.at dr) (t ++ MemOp.ofEvents i x.frame.fn x.frame.place es) Z (upd q i k0):=by
      refine⟨hS.lk,?_,⟨fun j y hj hy=>?_,fun j hj=>?_⟩,?_,hP⟩
      . rw[Array.getElem?_setIfInBounds_ne (by omega),Array.getElem?_map,hS.g0]
        simp[woken_run hrun]
      . by_cases hji:i=j
        . subst hji
          rw[Array.getElem?_setIfInBounds_self_of_lt (by simpa using hlt)] at hy
          obtain rfl:=Option.some.inj hy;rw[upd_same,Deaf_own];exact hq'
        . rw[Array.getElem?_setIfInBounds_ne hji,Array.getElem?_map] at hy
          obtain⟨z,hz,rfl⟩:=Option.map_eq_some_iff.1 hy;have hqj:=hS.lv.old j z hj hz;rw[woken_quitsD hqj,upd_ne q k0 (Ne.symm hji),Deaf_other t hji _ hops];exact hqj
      . rw[Deaf_other t (g':=i) (by simp at hj;omega) _ hops]
        exact hS.lv.above j (by simpa using hj)
      . rw[Deaf_other t (by omega) _ hops];exact hS.df
     obtain⟨M,gs',w'',sl'',t',q',k',O',g'',d',e1,e2,e3⟩:=ih (sumTo gs.size (upd q i k0)) (by omega) _ (w.at dr) sl' _ (upd q i k0) (by simp) hS'
     exact⟨M+1,gs',w'',sl'',t',q',k',O',g'',d',by simp only[runNT,hst,hrunT];exact e1,e2,e3⟩
inductive fH (P:Program) (N:ag->ah->Goroutine->Prop):ag->ah->Goroutine->Nat->Prop
 | done {k:ag} {O:ah} {g:Goroutine}:N k O g->fH P N k O g 0
 | step {k:ag} {O:ah} {g:Goroutine} {d:Nat} (N':ag->ah->Goroutine->Nat->Prop):g.status = .running->Ht P k O g d N'->(∀ k' O' g' d',N' k' O' g' d'->fH P N k' O' g' d')->fH P N k O g d
theorem Dz {N:ag->ah->Goroutine->Prop} (h:fH P N k O g d):∀ (gs:Array Goroutine) (w:World) (sl:Option (Nat × Nat)) (t:Trace) (q:Nat->Nat),cA P d k O g gs w t Z q ->
 ∃ M gs' w' sl' t' k' O' g',runNT P M (crowd gs w sl) t=(.next (crowd gs' w' sl'),t')∧cQ P Z.W0 k' O' g' gs' w' t'∧N k' O' g':=by
 induction h with
 | done h=>exact fun gs w sl t q hs=>⟨0,gs,w,sl,t,_,_,_,rfl,hs.back,h⟩
 | step N' h1 h2 _ ih=>
   intro gs w sl t q hs;obtain⟨M1,gs1,w1,sl1,t1,q1,k1,O1,g1,d1,e1,e2,e3⟩:=tE h1 h2 _ gs w sl t q rfl hs;obtain⟨M2,gs2,w2,sl2,t2,k2,O2,g2,f1,f2,f3⟩:=ih _ _ _ _ e3 gs1 w1 sl1 t1 q1 e2;exact⟨M1+M2,gs2,w2,sl2,t2,k2,O2,g2,by rw[runNT_add _ _ _ _ _ _ e1];exact f1,f2,f3⟩
theorem fH.phase {N:ag->ah->Goroutine->Prop} (h:fH P N k O g 0):uo P k O g N:=fun W0 gs w sl t hs=>by
 obtain⟨Z,q,rfl,hS⟩:=hs.LP;exact Dz h gs w sl t q hS
theorem cQ.ghost {W0:World} (h:cQ P W0 k O g gs w t) {k':ag} {O':ah} (hg:iZ k O k' O'):cQ P W0 k' O' g gs w t:=by
 obtain⟨Z,q,rfl,hS⟩:=h.LP;obtain⟨h1,h2⟩:=hg w hS.sat;have:=hS.own (g':=g) (es:=#[]) (fn:=0) (pos :=  "") h1 (.inl h2)
 have e1:t ++ MemOp.ofEvents 0 0  "" #[]=t:=by rw[ofEvents_eq];simp
 have e2:gs.setIfInBounds 0 g=gs:=by
  apply Array.ext_getElem?;intro j
  by_cases hj:0=j
  . subst hj
    rw[Array.getElem?_setIfInBounds_self_of_lt (Array.getElem?_eq_some_iff.1 hS.g0).1,hS.g0]
  . rw[Array.getElem?_setIfInBounds_ne hj]
 rw[e1,e2] at this;exact this.back
theorem DA {m:Mo} (hm:m.main=true) (hno:∀ k O g N,¬ m.bV k O g N) {Q:ag->ah->Goroutine->Prop} (h:T P m Q k O g) :
 ∀ (W0:World) (gs:Array Goroutine) (w:World) (sl:Option (Nat × Nat)) (t:Trace),cQ P W0 k O g gs w t ->
   ∃ M gs' w' sl' t' k' O' g',runNT P M (crowd gs w sl) t=(.next (crowd gs' w' sl'),t')∧cQ P W0 k' O' g' gs' w' t'∧Q k' O' g':=by
 induction h with
 | stop h=>exact fun W0 gs w sl t hs=>⟨0,gs,w,sl,t,_,_,_,rfl,hs,h⟩
 | step N h1 _ h3 ih=>
   intro W0 gs w sl t hs;rw[hm] at h3;obtain⟨Z,q,rfl,hS⟩:=hs.LP
   obtain⟨M1,gs1,w1,sl1,t1,q1,k1,O1,g1,d1,e1,e2,rfl,e3⟩:=tE (N:=fun k' O' g' d'=>d'=0∧N k' O' g') h1 (fun w hw=>by
    obtain⟨g',w',es,k',O',a1,a2,a3,a4⟩:=h3 w hw;refine⟨g',w',es,k',O',a1,⟨w',.refl _,a3,.inl a2⟩,?_,a4⟩;have hl:=bi (t:=#[]) (qZ (fun e he=>a2.evs e he) 0 0  "") 0
    rw[Deaf_own] at hl;exact hl) _ gs w sl t q rfl hS
   obtain⟨M2,gs2,w2,sl2,t2,k2,O2,g2,f1,f2,f3⟩:=ih _ _ _ e3 _ gs1 w1 sl1 t1 e2.back;exact⟨M1+M2,gs2,w2,sl2,t2,k2,O2,g2,by rw[runNT_add _ _ _ _ _ _ e1];exact f1,f2,f3⟩
 | ghost h1 _ ih=>exact fun W0 gs w sl t hs=>ih W0 gs w sl t (hs.ghost h1)
 | phase N h1 _ h3 ih=>
   intro W0 gs w sl t hs;obtain⟨M1,gs1,w1,sl1,t1,k1,O1,g1,e1,e2,e3⟩:=h3 W0 gs w sl t hs;obtain⟨M2,gs2,w2,sl2,t2,k2,O2,g2,f1,f2,f3⟩:=ih _ _ _ e3 W0 gs1 w1 sl1 t1 e2;exact⟨M1+M2,gs2,w2,sl2,t2,k2,O2,g2,by rw[runNT_add _ _ _ _ _ _ e1];exact f1,f2,f3⟩
 | bV N h0 h1 _ _=>exact absurd h1 (hno _ _ _ _)
end
def dC (fo:Nat) (s:Mu.Sh):Nat->Option Value:=fun i=>if i=fo then some (.int .i32 (enc s.w.L s.w.K s.w.S s.w.N)) else if i=fo+1 then some (.int .u32 s.ms) else none
def iz:Mu.Sh:=⟨.zero,0⟩
def lE:Mu.Sh:=⟨{ Mu.Wd.zero with L:=true },0⟩
theorem rH (fo:Nat):dC fo iz=bc fo:=by
 funext i
 simp[dC,bc,iz,enc,Mu.Wd.zero]
def eN (fo:Nat):Nat->Option Value:=dC fo lE
section
variable {P:Program} {k:ag} {O:ah} {b o:Nat} {w w':World} {s s':Mu.Sh}
theorem qo (hs:Sat k O w) (hO:O b=some (.part (dC o s))):ShM b o w s:=by
 obtain⟨c,e,h1,h2,h3⟩:=hs.part _ _ hO;refine⟨?_,?_,fun i=>?_⟩
 . exact lZ h1 (h3 o _ (by simp[dC]))
 . exact lZ h1 (h3 (o+1) _ (by simp[dC]))
 . exact kK h1
theorem heap_set {w:World} {b i:Nat} {v:Value} {c:Array Value} {e:TypeId} {z:Nat × Nat} (h:w.heap[b]? = some (.cells c e z)):(w.setCell ⟨b,i,none⟩ v).heap[b]? = some (.cells (c.setIfInBounds i v) e z):=by
 have hlt:=(Array.getElem?_eq_some_iff.1 h).1;simp[World.setCell,Array.getElem?_modify,h]
theorem wY {w:World} {b i d:Nat} {v:Value} (h:d≠b):(w.setCell ⟨b,i,none⟩ v).heap[d]? = w.heap[d]?:=by
 simp[World.setCell,Array.getElem?_modify,Ne.symm h]
theorem DB {es : Array Event} (hs:Sat k O w) (hO:O b=some (.part (dC o s))) (hmw:MW b o w w') (hsm:ShM b o w' s') (hev:EvM b o es) (hnd:∀ e∈es,∀ m,e.loc ≠ .mark m) :
 ∃ w2:World,tC w2 w'∧Sat k (O.set b (.part (dC o s'))) w2∧Eff k O w k (O.set b (.part (dC o s'))) w2 es.toList:=by
 obtain⟨c,e,h1,h2,h3⟩:=hs.part _ _ hO;have hlt:=(Array.getElem?_eq_some_iff.1 h1).1
 have key:∃ c',w'.heap[b]? = some (.cells c' e (0,0))∧c'.size=c.size∧(∀ i,i≠o->i≠o+1->c'[i]? = c[i]?)∧(∀ d,d≠b->w'.heap[d]? = w.heap[d]?)∧w'.heap.size=w.heap.size:=by
  rcases hmw.2 with hq|⟨i,v,hi,hf,hq⟩
  . exact⟨c,by rw[hq];exact h1,rfl,fun _ _ _=>rfl,fun d _=>by rw[hq],by rw[hq]⟩
  . refine⟨c.setIfInBounds i v,by rw[hq];exact heap_set h1,by simp,fun j hj hj'=>?_,fun d hd=>by rw[hq];exact wY hd,by rw[hq];simp[World.setCell]⟩
    exact Array.getElem?_setIfInBounds_ne (by rcases hi with rfl|rfl <;> omega)
 obtain⟨c',k1,k2,k3,k4,k5⟩:=key;have hcw:c'[o]? = some (.int .i32 (enc s'.w.L s'.w.K s'.w.S s'.w.N)):=by have:=hsm.cw;simpa[World.cell?,k1] using this
 have hcs:c'[o+1]? = some (.int .u32 s'.ms):=by have:=hsm.cs;simpa[World.cell?,k1] using this
 have hcov:∀ i,(i=o∨i=o+1)->aG O b i:=fun i hi => .inr (.inr ⟨_,hO,by rcases hi with rfl|rfl <;> simp[dC]⟩)
 have hown:∀ d y,(O.set b (.part (dC o s'))) d=some y->(d=b∧y = .part (dC o s'))∨(d≠b∧O d=some y):=fun d y h=>by
  by_cases hd:d=b
  . subst hd;simp[ah.set] at h;exact .inl ⟨rfl,h.symm⟩
  . simp[ah.set,hd] at h;exact .inr ⟨hd,h⟩
 have hsame:∀ i v,k.cell b i=some v->i≠o∧i≠o+1:=fun i v hv=>⟨fun e=>hs.apart _ _ _ hv (hcov i (.inl e)),fun e=>hs.apart _ _ _ hv (hcov i (.inr e))⟩
 refine⟨{ w with heap:=w'.heap },⟨rfl,hmw.1⟩,⟨fun d i v hv hc=>?_,fun d i v hv=>?_,fun d z hz=>?_,fun d y hy=>?_,fun d n hy=>?_,fun d f hy=>?_⟩,⟨.refl k,?_,fun d hd hn=>?_,fun d n hd hn c2 e2 hh=>?_,fun d f hd hn c2 e2 hh=>?_,fun d hd=>?_,fun d y hy=>?_,fun d i v hv => .inl hv,fun d z hz => .inl hz,fun ev hev'=>?_,rfl,rfl,rfl,fun ev hev'=>?_,fun d f hf=>?_⟩⟩
 . by_cases hd:d=b
   . subst hd
     obtain⟨n1,n2⟩:=hsame i v hv
     rcases hc with ⟨_,q⟩|⟨_,q,_⟩|⟨f,q,hf⟩
     . simp[ah.set] at q
     . simp[ah.set] at q
     . simp[ah.set] at q;subst q
       simp[dC,n1,n2] at hf
   . exact hs.apart d i v hv (by simpa[aG,ah.set,hd] using hc)
 . have h0:=hs.cell d i v hv
   by_cases hd:d=b
   . subst hd
     obtain⟨n1,n2⟩:=hsame i v hv;simp only[World.cell?,h1,k1] at h0 ⊢;rw[k3 i n1 n2];exact h0
   . simpa[World.cell?,k4 d hd] using h0
 . have h0:=hs.sh d z hz
   by_cases hd:d=b
   . subst hd
     simp only[World.shape?,h1,k1,k2] at h0 ⊢;exact h0
   . simpa[World.shape?,k4 d hd] using h0
 . rcases hown d _ hy with ⟨_,q⟩|⟨hd,hy'⟩
   . cases q
   . rw[show ({ w with heap:=w'.heap }:World).heap[d]? = w.heap[d]? from k4 d hd];exact hs.obj d y hy'
 . rcases hown d _ hy with ⟨_,q⟩|⟨hd,hy'⟩
   . cases q
   . rw[show ({ w with heap:=w'.heap }:World).heap[d]? = w.heap[d]? from k4 d hd];exact hs.tail d n hy'
 . rcases hown d _ hy with ⟨rfl,q⟩|⟨hd,hy'⟩
   . cases q
     refine⟨c',e,k1,by rw[k2];exact h2,fun i v hi=>?_⟩
     unfold dC at hi;split at hi
     . next q=>subst q;rw[hcw];exact hi
     . split at hi
       . next q=>subst q;rw[hcs];exact hi
       . cases hi
   . rw[show ({ w with heap:=w'.heap }:World).heap[d]? = w.heap[d]? from k4 d hd];exact hs.part d f hy'
 . exact Nat.le_of_eq k5.symm
 . have hd':d≠b:=fun q=>by rw[q,hO] at hn;cases hn
   exact k4 d hd'
 . have hd':d≠b:=fun q=>by rw[q,hO] at hn;cases hn
   exact⟨c2,(k4 d hd').trans hh,rfl,fun _ _=>rfl⟩
 . by_cases hd':d=b
   . subst hd'
     rw[hO] at hn;cases hn;rw[h1] at hh;cases hh;exact⟨c',k1,k2,fun i hi=>k3 i (fun q=>by subst q;simp[dC] at hi) (fun q=>by subst q;simp[dC] at hi)⟩
   . exact⟨c2,(k4 d hd').trans hh,rfl,fun _ _=>rfl⟩
 . by_cases hd':d=b
   . subst hd'
     simp only[World.shape?,h1,k1,k2]
   . simp[World.shape?,k4 d hd']
 . rcases hown d _ hy with ⟨rfl,rfl⟩|⟨hd',hy'⟩
   . refine .inl ⟨_,hO,fun i hi=>?_⟩
     unfold dC at hi ⊢;split
     . simp
     . next n1 => split
                  . simp
                  . next n2=>simp[n1,n2] at hi
   . exact .inl ⟨y,hy',.refl y⟩
 . rcases hev ev (by simpa using hev') with q|⟨i,hi,q,_⟩
   . rcases q with q|q <;> exact absurd q (hnd ev (by simpa using hev') _)
   . simp only[fK,q];exact .inl (hcov i hi)
 . rcases hev ev (by simpa using hev') with q|⟨i,hi,q,_⟩
   . rcases q with q|q <;> exact absurd q (hnd ev (by simpa using hev') _)
   . simp only[gh,q];rw[show ({ w with heap:=w'.heap }:World).heap.size=w.heap.size from k5];exact hlt
 . by_cases hd':d=b
   . subst hd';exact⟨dC o s',by simp[ah.set]⟩
   . exact⟨f,by simp[ah.set,hd',hf]⟩
variable {n:tl} (C:fA P n) (X:fB P n) {kind:CallKind} {Wd:World->Prop} {cs:List Frame} {g:Goroutine} {main:Bool}
def Kh (b o:Nat):Array Event:=#[⟨.cell ⟨b,o,none⟩,false,true⟩,⟨.cell ⟨b,o,none⟩,true,true⟩]
theorem H7 (b o:Nat):EvM b o (Kh b o)∧(∀ e∈Kh b o,∀ m,e.loc ≠ .mark m)∧∀ d,deafBehind d (Kh b o)=d:=by
 refine⟨iu (.inl rfl),fun e he m h=>?_,fun d=>rfl⟩
 simp[Kh] at he
 rcases he with rfl|rfl <;> cases h
include C X in
theorem DC (hs:ShM b o w iz) (h:kq P n b o kind .er cs g):∃ g1 w',stepG P main g w = .go g1 w' (Kh b o)∧MW b o w w'∧ShM b o w' lE∧Next P n b o kind Wd cs .le g1:=by
 obtain⟨c,y,fr,frs,rfl,hy,hr,hrs,rfl⟩:=h;have hk:(oO P n b o kind).1.kind ≠ .early:=by simp[oO,jx]
 have hc:=hs.cw;rw[show enc iz.w.L iz.w.K iz.w.S iz.w.N=0 from rfl] at hc
 exact⟨_,_,dX hr (C.o2 b o kind) hk X.im (v:=0) (n:=1) (fun x h=>h) (fun x h=>h) hc (hs.fz o),qc rfl,hs.aC { Mu.Wd.zero with L:=true },nxt (C.e2 _ b o kind) hy hr hrs rfl (.inl rfl)⟩
include C X in
theorem DD (hs:ShM b o w lE) (h:kq P n b o kind .held cs g):∃ g1 w' es,stepG P main g w = .go g1 w' es∧MW b o w w'∧ShM b o w' iz∧EvM b o es∧(∀ e∈es,∀ m,e.loc ≠ .mark m)∧(∀ d,deafBehind d es=d)∧Next P n b o kind Wd cs .ue g1:=by
 obtain⟨c,y,fr,frs,rfl,hy,hr,hrs,rfl⟩:=h;have hy':({ y with N:=0 }:Sy).ok:=⟨⟨by simp,by simp⟩,hy.2⟩
 have hr':=hr.re (y':={ y with N:=0 }) (.inr rfl) (.inl rfl) (.inl rfl) (.inl rfl)
 have hrs':=hrs.dQ (y':={ y with N:=0 }) (by simpa[mT,kS] using (C.p3 b o kind).1)
 have hst:=lw (main:=main) (cs:=frs ++ cs) (w:=w) hr (C.Lm b o kind) (by simp[mT,kS]) X.add (fun x h=>h) hs.cw (hs.fz _)
 have e:IntKind.i32.wrap (enc lE.w.L lE.w.K lE.w.S lE.w.N + -1)=enc false false false 0:=by decide
 rw[e] at hst;have hsh:=hs.aC Mu.Wd.zero;have hv:SR { y with N:=0 } (.word false false false 0) (.int .i32 (enc false false false 0)):=lX rfl
 have key:=C.u5 (Fl.of { y with N:=0 }) b o kind true false (by rfl)
 exact⟨_,_,_,hst,qc rfl,hsh,iu (.inl rfl),(fun e he m h=>(by simp at he;rcases he with rfl|rfl <;> cases h)),(fun d=>rfl),nxt (y:={ y with N:=0 }) key hy' hr' hrs' hv rfl⟩
theorem fH.te {N:ag->ah->Goroutine->Prop} {Wd:World->Prop} {g2:Goroutine} {d:Nat} (hW:∀ w,Sat k O w->Wd w) {m:Nat}:∀ {g:Goroutine},gZ P Wd m g g2->fH P N k O g2 d->fH P N k O g d:=by
 induction m with
 | zero=>intro g h hl;obtain rfl:g=g2:=h;exact hl
 | succ m ih=>
   intro g h hl;obtain⟨g1,h1,h2⟩:=h;refine .step (fun k' O' g' d'=>k=k'∧O=O'∧g1=g'∧d=d') h1.1 (fun w hw=>⟨g1,w,#[],k,O,h1.2 true w (hW w hw),⟨w,.refl _,hw,.inl (.refl ..)⟩,rfl,rfl,rfl,rfl⟩) ?_
   rintro k' O' g' d' ⟨rfl,rfl,rfl,rfl⟩
   exact ih h2 hl
theorem fH.next {N:ag->ah->Goroutine->Prop} {p:nE} {g1:Goroutine} {d:Nat} (hW:∀ w,Sat k O w->Wd w) (h:Next P n b o kind Wd cs p g1) (hl:∀ g2,kq P n b o kind p cs g2->fH P N k O g2 d):fH P N k O g1 d:=by
 obtain⟨_,g2,⟨m,h1⟩,h2⟩:=h;exact fH.te hW h1 (hl g2 h2)
variable {N:ag->ah->Goroutine->Prop}
theorem wZ {e:Event} (hs:Sat k O w) (hO:O b=some (.part (dC o s))) (he:e.loc = .mark (.acquire ⟨b,o,none⟩)∨e.loc = .mark (.releaseMerge ⟨b,o,none⟩)):Eff k O w k O w [e]:=by
 have h0:=Eff.refl k O w;have hlt:=hs.kY hO;refine⟨h0.le,h0.size,h0.keep,h0.tail,h0.part,h0.shape,h0.own,h0.cell,h0.sh,fun x hx=>?_,rfl,rfl,rfl,fun x hx=>?_,h0.tok⟩
 . rw[List.mem_singleton] at hx;subst hx
   rcases he with q|q <;> simp[fK,q,gN]
 . rw[List.mem_singleton] at hx;subst hx
   rcases he with q|q <;> simp only[gh,q] <;> exact hlt
theorem vk (hO:O b=some (.part (dC o s))):∀ w,Sat k O w->∃ v,w.cell? ⟨b,o,none⟩=some v:=fun w hs=>⟨_,(qo hs hO).cw⟩
include C X in
theorem yw (F:mV P n) {c:Frame} {rest:List Frame} (hk:kind ≠ .early) (hO:O b=some (.part (bc o))) (hN:N k (O.set b (.part (eN o))) (ip kind c rest (.tuple #[]))):fH P N k O (G (Frame.enter P n.lock #[.pointer (some ⟨b,o,none⟩)] kind) (c :: rest)) 0:=by
 rw[← rH] at hO;have hO':(O.set b (.part (eN o))) b=some (.part (dC o lE)):=by simp[ah.set,eN]
 have hW:=vk (k:=k) hO;have hW':=vk (k:=k) hO';obtain⟨g2,⟨m,hs⟩,hA⟩:=my (P:=P) (n:=n) (b:=b) (o:=o) (kind:=kind) (Wd:=fun w => ∃ v,w.cell? ⟨b,o,none⟩=some v) (cs:=c :: rest) F
 refine fH.te hW hs ?_;refine .step (fun k' O' g' d'=>k=k'∧O=O'∧d'=1∧Next P n b o kind (fun w => ∃ v,w.cell? ⟨b,o,none⟩=some v) (c :: rest) .er g') hA.running.1 (fun w hw=>?_) ?_
 . obtain⟨g1,h1,h2⟩:=uT (main:=true) (w:=w) C X hA
   exact⟨g1,w,_,k,O,h1,⟨w,.refl _,hw,.inr ⟨rfl,rfl,rfl,.inl rfl⟩⟩,rfl,rfl,rfl,h2⟩
 rintro _ _ g1 _ ⟨rfl,rfl,rfl,hx⟩
 refine fH.next hW hx fun g2 hA=>?_
 refine .step (fun k' O' g' d'=>k=k'∧O.set b (.part (eN o))=O'∧d'=1∧Next P n b o kind (fun w => ∃ v,w.cell? ⟨b,o,none⟩=some v) (c :: rest) .le g') hA.running.1 (fun w hw=>?_) ?_
 . obtain⟨g1,w',h1,h2,h3,h4⟩:=DC (main:=true) (w:=w) C X (qo hw hO) hA
   obtain⟨q1,q2,q3⟩:=H7 b o;obtain⟨w2,a1,a2,a3⟩:=DB hw hO h2 h3 q1 q2;exact⟨g1,w',_,k,_,h1,⟨w2,a1,a2,.inl a3⟩,rfl,rfl,q3 1,h4⟩
 rintro _ _ g1 _ ⟨rfl,rfl,rfl,hx⟩
 refine fH.next hW' hx fun g2 hA=>?_
 refine .step (fun k' O' g' d'=>k=k'∧O.set b (.part (eN o))=O'∧d'=0∧Next P n b o kind (fun w => ∃ v,w.cell? ⟨b,o,none⟩=some v) (c :: rest) .la g') hA.running.1 (fun w hw=>?_) ?_
 . obtain⟨g1,h1,h2⟩:=zx (main:=true) (w:=w) C X (fun w h=>h) hA
   exact⟨g1,w,_,k,_,h1,⟨w,.refl _,hw,.inr ⟨rfl,rfl,rfl,.inr rfl⟩⟩,rfl,rfl,rfl,h2⟩
 rintro _ _ g1 _ ⟨rfl,rfl,rfl,hx⟩
 refine fH.next hW' hx fun g2 hA=>?_
 refine .step (fun k' O' g' d'=>k=k'∧O.set b (.part (eN o))=O'∧d'=0∧Next P n b o kind (fun w => ∃ v,w.cell? ⟨b,o,none⟩=some v) (c :: rest) .back g') hA.running.1 (fun w hw=>?_) ?_
 . obtain⟨g1,h1,h2⟩:=zw (main:=true) (w:=w) C X hA
   exact⟨g1,w,_,k,_,h1,⟨w,.refl _,hw,.inl (wZ hw hO' (.inl rfl))⟩,rfl,rfl,rfl,h2⟩
 rintro _ _ g1 _ ⟨rfl,rfl,rfl,hx⟩
 refine fH.next hW' hx fun g2 hA=>?_
 obtain⟨m,hs⟩:=nI (Wd:=fun w => ∃ v,w.cell? ⟨b,o,none⟩=some v) F hA hk
 exact fH.te hW' hs (.done hN)
include C X in
theorem vl (F:mV P n) {c:Frame} {rest:List Frame} (hk:kind ≠ .early) (hO:O b=some (.part (eN o))) (hN:N k (O.set b (.part (bc o))) (ip kind c rest (.tuple #[]))):fH P N k O (G (Frame.enter P n.unlock #[.pointer (some ⟨b,o,none⟩)] kind) (c :: rest)) 0:=by
 rw[← rH] at hN;have hO':(O.set b (.part (dC o iz))) b=some (.part (dC o iz)):=by simp[ah.set]
 have hW:=vk (k:=k) hO;have hW':=vk (k:=k) hO';obtain⟨g2,⟨m,hs⟩,hA⟩:=kT (P:=P) (n:=n) (b:=b) (o:=o) (kind:=kind) (Wd:=fun w => ∃ v,w.cell? ⟨b,o,none⟩=some v) (cs:=c :: rest) F
 refine fH.te hW hs ?_;refine .step (fun k' O' g' d'=>k=k'∧O=O'∧d'=0∧Next P n b o kind (fun w => ∃ v,w.cell? ⟨b,o,none⟩=some v) (c :: rest) .ur g') hA.running.1 (fun w hw=>?_) ?_
 . obtain⟨g1,h1,h2⟩:=rf (main:=true) (w:=w) C X (fun w h=>h) (qo hw hO).cw hA
   exact⟨g1,w,_,k,O,h1,⟨w,.refl _,hw,.inl (.refl ..)⟩,rfl,rfl,rfl,h2⟩
 rintro _ _ g1 _ ⟨rfl,rfl,rfl,hx⟩
 refine fH.next hW hx fun g2 hA=>?_
 refine .step (fun k' O' g' d'=>k=k'∧O=O'∧d'=0∧Next P n b o kind (fun w => ∃ v,w.cell? ⟨b,o,none⟩=some v) (c :: rest) .ud g') hA.running.1 (fun w hw=>?_) ?_
 . obtain⟨g1,h1,h2⟩:=zv (main:=true) (w:=w) C X hA
   exact⟨g1,w,_,k,_,h1,⟨w,.refl _,hw,.inl (wZ hw hO (.inr rfl))⟩,rfl,rfl,rfl,h2⟩
 rintro _ _ g1 _ ⟨rfl,rfl,rfl,hx⟩
 refine fH.next hW hx fun g2 hA=>?_
 refine .step (fun k' O' g' d'=>k=k'∧O=O'∧d'=1∧Next P n b o kind (fun w => ∃ v,w.cell? ⟨b,o,none⟩=some v) (c :: rest) .held g') hA.running.1 (fun w hw=>?_) ?_
 . obtain⟨g1,h1,h2⟩:=zt (main:=true) (w:=w) C X hA
   exact⟨g1,w,_,k,_,h1,⟨w,.refl _,hw,.inr ⟨rfl,rfl,rfl,.inl rfl⟩⟩,rfl,rfl,rfl,h2⟩
 rintro _ _ g1 _ ⟨rfl,rfl,rfl,hx⟩
 refine fH.next hW hx fun g2 hA=>?_
 refine .step (fun k' O' g' d'=>k=k'∧O.set b (.part (dC o iz))=O'∧d'=1∧Next P n b o kind (fun w => ∃ v,w.cell? ⟨b,o,none⟩=some v) (c :: rest) .ue g') hA.running.1 (fun w hw=>?_) ?_
 . obtain⟨g1,w',es,h1,h2,h3,h4,h5,h6,h7⟩:=DD (main:=true) (w:=w) C X (qo hw hO) hA
   obtain⟨w2,a1,a2,a3⟩:=DB hw hO h2 h3 h4 h5;exact⟨g1,w',_,k,_,h1,⟨w2,a1,a2,.inl a3⟩,rfl,rfl,h6 1,h7⟩
 rintro _ _ g1 _ ⟨rfl,rfl,rfl,hx⟩
 refine fH.next hW' hx fun g2 hA=>?_
 refine .step (fun k' O' g' d'=>k=k'∧O.set b (.part (dC o iz))=O'∧d'=0∧Next P n b o kind (fun w => ∃ v,w.cell? ⟨b,o,none⟩=some v) (c :: rest) .wo g') hA.running.1 (fun w hw=>?_) ?_
 . obtain⟨g1,h1,h2⟩:=zu (main:=true) (w:=w) C X hA
   exact⟨g1,w,_,k,_,h1,⟨w,.refl _,hw,.inr ⟨rfl,rfl,rfl,.inr rfl⟩⟩,rfl,rfl,rfl,h2⟩
 rintro _ _ g1 _ ⟨rfl,rfl,rfl,hx⟩
 refine fH.next hW' hx fun g2 hA=>?_
 obtain⟨m,hs⟩:=ly (Wd:=fun w => ∃ v,w.cell? ⟨b,o,none⟩=some v) F hA hk
 exact fH.te hW' hs (.done hN)
theorem Rel.zV {σ:aa} {f:Nat->Option Value} (hr:Rel k O σ) (h:σ b=some (.part f)):O b=some (.part f):=by
 obtain⟨x,h1,h2⟩:=hr.1 b _ h (by simp)
 cases h2;exact h1
def m5 (b o:Nat) (a:AV):Prop := ∀ k v,V k v a->v = .pointer (some ⟨b,o,none⟩)
theorem tF (b o:Nat) (l:List AV) (h:List Nat):m5 b o (.kp b l h o):=fun k v hv=>by cases hv;rfl
theorem Vs.one {a:AV} {c:List Value} (h:Vs k c [a]):∃ v,c=[v]∧V k v a:=by
 obtain⟨h1,h2⟩:=h
 match c with
 | [v]=>exact⟨v,rfl,h2 0 v a rfl rfl⟩
 | []=>simp at h1
 | _ :: _ :: _=>simp at h1
include C X in
theorem AU (F:mV P n) {m:Mo} (hs:m.solo=true) {a:AV} (ha:m5 b o a) {σ:aa} {KF:cV->aa->Prop} (hσ:σ b=some (.part (bc o))) (h:KF (.val (.cB [])) (σ.set b (.part (eN o)))):ar P m n.lock [a] σ KF:=by
 intro Q k O cargs c rest kind h1 h2 h3 h4 h5;obtain⟨v,rfl,hv⟩:=h2.one;obtain rfl:=ha _ _ hv;refine .phase (fun k' O' g'=>T P m Q k' O' g') hs (fun _ _ _ h=>h) (fH.phase (yw C X F h1 (h3.zV hσ) ?_))
 exact h4 k _ (.tuple #[]) (.cB []) _ (.refl k) (.cB _ _ rfl fun i v a h=>by simp at h) (h3.set (.part _)) h
include C X in
theorem xa (F:mV P n) {m:Mo} (hs:m.solo=true) {a:AV} (ha:m5 b o a) {σ:aa} {KF:cV->aa->Prop} (hσ:σ b=some (.part (eN o))) (h:KF (.val (.cB [])) (σ.set b (.part (bc o)))):ar P m n.unlock [a] σ KF:=by
 intro Q k O cargs c rest kind h1 h2 h3 h4 h5;obtain⟨v,rfl,hv⟩:=h2.one;obtain rfl:=ha _ _ hv;refine .phase (fun k' O' g'=>T P m Q k' O' g') hs (fun _ _ _ h=>h) (fH.phase (vl C X F h1 (h3.zV hσ) ?_))
 exact h4 k _ (.tuple #[]) (.cB []) _ (.refl k) (.cB _ _ rfl fun i v a h=>by simp at h) (h3.set (.part _)) h
theorem Rel.del {σ:aa} (h:Rel k O σ) (r:Nat):Rel k (O.del r) (σ.del r):=⟨fun b a e hn=>by
 by_cases hb:b=r
 . subst hb;simp[aa.del] at e
 . simp only[aa.del,hb,if_false] at e
   obtain⟨x,h1,h2⟩:=h.1 b a e hn;exact⟨x,by simp[ah.del,hb,h1],h2⟩,fun b e=>by
 by_cases hb:b=r
 . subst hb;simp[aa.del] at e
 . simp only[aa.del,hb,if_false] at e
   obtain⟨h1,h2⟩:=h.2 b e;exact⟨by simp[ah.del,hb,h1],h2⟩⟩
theorem Rel.eE {σ:aa} (h:Rel k O σ) (r:Nat) (hsh:∃ s,k.sh r=some s):Rel k (O.del r) (σ.set r .eE):=⟨fun b a e hn=>by
 by_cases hb:b=r
 . subst hb;simp[aa.set] at e;exact absurd e.symm hn
 . simp only[aa.set,hb,if_false] at e
   obtain⟨x,h1,h2⟩:=h.1 b a e hn;exact⟨x,by simp[ah.del,hb,h1],h2⟩,fun b e=>by
 by_cases hb:b=r
 . subst hb;exact⟨by simp[ah.del],hsh⟩
 . simp only[aa.set,hb,if_false] at e
   obtain⟨h1,h2⟩:=h.2 b e;exact⟨by simp[ah.del,hb,h1],h2⟩⟩
theorem T.sat {m:Mo} {Q:ag->ah->Goroutine->Prop} (hrun:g.status = .running) (h:(∃ w,Sat k O w)->T P m Q k O g):T P m Q k O g:=by
 by_cases hsat:∃ w,Sat k O w
 . exact h hsat
 . exact .step (fun _ _ _=>False) hrun (fun _ _ _ h=>h.elim) fun w hw=>absurd ⟨w,hw⟩ hsat
variable {A:cC} {j:Nat}
theorem AW {a:AV} (ha:m5 A.fb A.fo a) {σ:aa} {KF:cV->aa->Prop} (hσ:σ A.fb=some .eE) (h:∀ x,A.GI x->(∀ y,σ A.mb=some y->y = .eE)->KF (.val (.cB [])) ((σ.set A.mb x).set A.fb (.part nJ))):ar P (iK P A j) A.nm.lock [a] σ KF:=by
 intro Q k O cargs c rest kind h1 h2 h3 h4 h5;obtain⟨v,rfl,hv⟩:=h2.one;obtain rfl:=ha _ _ hv;obtain⟨hO,e,he⟩:=h3.2 _ hσ;refine .bV (fun k' O' g'=>T P (iK P A j) Q k' O' g') rfl (.inl ⟨kind,c,rest,e,h1,rfl,hO,he,fun k' x y hle hor hgi hnm=>?_⟩) (fun _ _ _ h=>h)
 refine h4 k' _ (.tuple #[]) (.cB []) _ hle (.cB _ _ rfl fun i v a h=>by simp at h) (((h3.mono hle).set hor).set (.part _)) (h y hgi fun z hz=>?_)
 apply Classical.byContradiction;intro hne;obtain⟨x',q1,_⟩:=h3.1 _ z hz hne;rw[hnm] at q1;cases q1
theorem xc {a:AV} (ha:m5 A.fb A.fo a) {σ:aa} {KF:cV->aa->Prop} {f:Nat->Option Value} {y:iH} (hσ:σ A.fb=some (.part f)) (hm:σ A.mb=some y) (hy:A.GI y) (hna:y ≠ .eE) (h:KF (.val (.cB [])) ((σ.del A.mb).set A.fb .eE)):ar P (iK P A j) A.nm.unlock [a] σ KF:=by
 intro Q k O cargs c rest kind h1 h2 h3 h4 h5;obtain⟨v,rfl,hv⟩:=h2.one;obtain rfl:=ha _ _ hv;obtain⟨x,hx,hor⟩:=h3.1 _ _ hm hna;have hO:=h3.zV hσ;refine T.sat rfl fun ⟨w,hw⟩=>?_
 obtain⟨c0,e0,_,hsh,_⟩:=hw.part _ _ hO;refine .bV (fun k' O' g'=>T P (iK P A j) Q k' O' g') rfl (.inr (.inl ⟨kind,c,rest,f,x,y,h1,rfl,hO,hx,hor,hy,?_⟩)) (fun _ _ _ h=>h)
 exact h4 k _ (.tuple #[]) (.cB []) _ (.refl k) (.cB _ _ rfl fun i v a h=>by simp at h) ((h3.del A.mb).eE A.fb ⟨_,hsh⟩) h
end
end Go.aZ
