/- Part 20 of the proof. -/
import Derived.Test.YtalogdafegmilaaGreatDoorC19
set_option linter.all false
namespace Go.aN
open Go.Conc
open Go.ConcN (sumTo upd sumTo_upd upd_ne upd_same)
def be.ji{P:Program}:be P->Bool
 |.lk ..=>true|.un ..=>true|_=>false
theorem fY{P:Program}{x:be P}(h:x.ji=true):x.work=true:=by cases x<;>simp_all [be.ji,be.work]
section
variable{P:Program}{A:dM}{Fin:ag->ah->Goroutine->Prop}{Z:Base}{s:MS P}{f:Nat->Node P}{q:Nat->Nat}{kk:Nat->ag}{OO:Nat->ah}{J M:Nat->Prop}{gs:Array Goroutine}{w w':World}{t:Trace}{j:Nat}{x:be P}{sh:Mu.Sh}{g g1:Goroutine}
theorem ub(hj:j<A.n)(h:(s.w j).busy=true):eX P A s (A.b+j):=.inl ⟨j,hj,rfl,h⟩
theorem gW(I:bD A.n s)(hj:j<A.n)(h:(s.w j).iW=false):bE P A s (A.b+j):=by refine .inr (.inl ⟨j,?_,rfl⟩);have:=I.idle j hj;rw[h]at this;exact Nat.lt_of_not_le λhh=>by simpa using this.2 hh
theorem ik(hj:j<A.n)(h:(s.w j).ji=true):eV P A s (A.b+j):=.inr (.inl ⟨j,hj,rfl,by cases e:s.w j<;>simp_all [be.ji]⟩)
theorem iA(hj:j<A.n)(h:(s.w j).ji=true):¬dg P A s (A.b+j):=by
 have:=A.hb;rintro(⟨e,_⟩|⟨l,h1,h2,h3⟩|⟨e,_⟩)
 . omega
 . obtain rfl:l=j:=by omega
   cases e:s.w l<;>simp_all [be.ji]
 . omega
theorem oe(hj:j<A.n)(h:(s.w j).ji=true):¬dW P A s (A.b+j):=by
 have:=A.hb;rintro(⟨e,_⟩|⟨l,h1,h2,h3⟩)
 . omega
 . obtain rfl:l=j:=by omega
   rw[h3]at h;cases h
theorem dY(hj:j<A.n):cN P A s (A.b+j)=(s.w j).deaf:=by
 have:=A.hb;unfold cN;rw[if_neg (by omega),if_pos (by omega)];have e:A.b+j-A.b=j:=by omega
 rw[e]
theorem vo(hZ:A.b+A.n+1<=Z.lk)(hC:br (bW P A Fin Z hZ) Z s f q kk OO J M gs w t)(hj:j<A.n)(h1:(s.w j).ji=true)(h2:x.ji=true)(ho:x.owns=(s.w j).owns)(hI:bD A.n (s.aE j x sh))(hL:MS.fX A.n (s.aE j x sh) s)
 (hg:gs[A.b+j]?=some g){es:Array Event}(hst:stepG P false g w=.go g1 w' es) (hmw:MW A.fb A.fo w w') (hmu:ShM A.fb A.fo w' sh) (hev:EvM A.fb A.fo es) (hd:deafBehind (s.w j).deaf es=x.deaf)
 (hs:∃n g',jG P (kF A) n g1 g'/\ER P A j x (kk (A.b+j)) (OO (A.b+j)) g') (hdry:(s.sh.ms=0->sh.ms=0)\/(mayWake P g=true/\g1.status=.running)) (sl:Option (Nat × Nat)):
 ∃ops m',runT P (crowd gs w sl) (A.b+j)=(.next m',ops)/\∃s' f' q' kk' OO' J' M' gs' w'' sl',m'=crowd gs' w'' sl'/\MS.fX A.n s' s/\br (bW P A Fin Z hZ) Z s' f' q' kk' OO' J' M' gs' w'' (t++ops):=by
 obtain⟨n,g',hsil,hat⟩:=hs;have hb:=A.hb;have B:=ba (P:=P) (A:=A) (Fin:=Fin) (Z:=Z) hZ;have w1:=fY h1;have w2:=fY h2;have hE:cW P A Z s kk OO J M gs.size w t:=hC.ex;have hi0:(A.b+j==0)=false:=by simp;omega
 have hrun:=runT_crowd_go (P:=P) (sl:=sl) (i:=A.b+j) hg (by rw[hi0];exact hst)
 have hbeg:bE P A s (A.b+j):=gW hE.I hj (bb w1).2.2.2.2.1;obtain⟨y1,y2,y3⟩:=hE.Ht hev hbeg g.frame.fn g.frame.place;have hops:∀op∈MemOp.ofEvents (A.b+j) g.frame.fn g.frame.place es,op.g=A.b+j:=λop hop=>by obtain⟨e,_,rfl⟩:=Go.Conc.mem_ofEvents hop;rfl
 obtain⟨m1,m2,c,e,c',m3,m4,_⟩:=lG hmw hE.ti;have hP:=hC.bY.sync (i:=A.b+j) (.inr ((hE.hJ _).2 (ub hj (bb w1).2.2.2.2.2.1))) hops m1 (hE.calm hmw) (hE.kept hmw) y2 y1;have hEx:cW P A Z (s.aE j x sh) kk OO J M gs.size w' (t++MemOp.ofEvents (A.b+j) g.frame.fn g.frame.place es):=hE.work hj w1 w2 ho hI hmu m2 ⟨c',e,m4⟩ y3
 have hbs:Beside (bW P A Fin Z hZ) s (s.aE j x sh) f f q (upd q (A.b+j) n) kk kk OO OO J J w' (A.b+j) g g1:=jJ hZ hj w1 w2 (λ_ _=>rfl) (λi hi=>upd_ne q n hi) (λ_ _ _=>rfl) (λ_ _ _=>rfl) (λ_ h=>h) hdry (λ{i k O y} hA=>B.kU (s:=s) (i:=i) (k:=k) (O:=O) (g:=y) hA)
 have hwk:=ik (P:=P) (A:=A) (s:=s) hj h1;have hx':((s.aE j x sh).w j).ji=true:=by rw[aD];exact h2
 refine⟨_,_,hrun,s.aE j x sh,f,upd q (A.b+j) n,kk,OO,J,M,_,_,_,rfl,hL,?_⟩;refine br.step B hC hg hops hP hEx (λl y hl hA=>?_) hbs ⟨λhl=>absurd hl (iA hj hx'),λ_=>⟨iA hj hx',?_,?_,g',?_,?_⟩,λhh=>absurd hh (oe hj hx'),λ_ hn _=>absurd (ik hj hx') hn⟩
 . have hne:l≠A.b+j:=λe=>(hC.held l hl).2.1 (by rw[e];exact hwk)
   exact B.r7 hEx ((hbs.held l hne).2 hl) _ _ (hbs.L7 l _ _ _ hne hl hA)
 . show A.b+j<A.b+A.n+1;omega
 . obtain⟨_,_,hd0,_⟩:=hC.walk _ hwk
   rw[Deaf_own,hd0];show deafBehind (cN P A s (A.b+j)) es=cN P A (s.aE j x sh) (A.b+j);rw[dY hj,dY hj,aD];exact hd
 . exact .inr (.inl ⟨j,hj,rfl,by rw[aD];exact hat⟩)
 . exact .inr (by rw[upd_same];exact hsil)
end
end Go.aN
namespace Go.aN
open Go.Conc
open Go.ConcN (sumTo upd sumTo_upd upd_ne upd_same)
namespace Mu
section
variable{n:Nat}{pcs:Nat->Pc}{s:Sh}{i:Nat}
theorem Ke{f:Pc->Nat}(h:∀p,f p<=1)(pcs:Nat->Pc)(n:Nat):eN n (λi=>f (pcs i))<=n:=by
 have:=Cm (f:=λi=>f (pcs i)) (c:=1) (λi=>h _) n;omega
theorem Inv.P3(h:Inv n pcs s):s.w.N<=n+1/\s.ms<=1:=by
 have hp:=Ke (f:=ci) (λp=>by cases p<;>simp[ci]) pcs n
 cases e:s.w.S with
 | false=>
   obtain⟨h1,_,h3⟩:=h.j2 e;have:s.w.K.toNat<=1:=by cases s.w.K<;>simp
   omega
 | true=>
   obtain⟨_,_,h3,h4⟩:=h.j3 e;have:(!s.w.L).toNat<=1:=by cases s.w.L<;>simp
   omega
theorem Inv.Kf(h:Inv n pcs s)(hi:i<n)(hp:pcs i=.held):s.w.L=true:=by
 have:bI (pcs i)<=eN n (λj=>bI (pcs j)):=ij (λj=>bI (pcs j)) hi;rw[h.j1,hp,show bI .held=1 from rfl]at this;cases e:s.w.L<;>simp_all
theorem Inv.L8(h:Inv n pcs s)(hi:i<n){old:Wd}{sv:Bool}(hp:pcs i=.add old sv):s.w.L=false/\s.w.S=true/\s.w.N≠0:=by
 have:cQ (pcs i)<=eN n (λj=>cQ (pcs j)):=ij (λj=>cQ (pcs j)) hi;rw[hp,show cQ (.add old sv)=1 from rfl]at this;cases e:s.w.S with
 |false=>obtain⟨_,h2,_⟩:=h.j2 e;omega
 | true=>
   obtain⟨_,_,h3,h4⟩:=h.j3 e;refine⟨?_,rfl,by omega⟩;cases e2:s.w.L with
   |false=>rfl
   |true=>rw[e2]at h3;simp at h3;omega
end
def yR:Pc->Bool
 |.rd _=>true|.sq ..=>true|.sw ..=>true|.jS ..=>true|.fN _=>true|.tq=>true|.up _=>true|.add ..=>true|.held=>true|_=>false
def CA:Pc->Bool
 |.out=>true|.iC _=>true|.tF=>true|.give=>true|_=>false
theorem Ln(old:Wd)(l:Lo):yR (nx old l)=true:=by unfold nx;split<;>rfl
theorem Of{old:Wd}{l:Lo}{p:Pc}(h:p∈hd old l):yR p=true:=by
 unfold hd at h;rw[List.mem_append]at h;rcases h with h|h
 . split at h
   . rw[List.mem_singleton]at h;subst h;split<;>rfl
   . cases h
 . rw[List.mem_singleton]at h;subst h;rfl
theorem Og{p q:Pc}{s s':Sh}(hp:p=.gx\/(yR p=true/\p≠.held))(h:(q,s')∈mv p s)(hq:q≠.bad):yR q=true:=by
 rcases hp with rfl|⟨hp,hne⟩
 . simp only[mv]at h
   split at h<;>(rw[List.mem_singleton,Prod.mk.injEq]at h;obtain⟨rfl,rfl⟩:=h;rfl)
 cases p<;>simp only[yR,Bool.false_eq_true]at hp
 case rd l=>simp only[mv,List.mem_singleton,Prod.mk.injEq]at h;obtain⟨rfl,rfl⟩:=h;exact Ln _ _
 case sq old l=>simp only[mv,List.mem_map,Prod.mk.injEq]at h;obtain⟨a,h1,rfl,rfl⟩:=h;exact Of h1
 case sw old l=>simp only[mv]at h;split at h<;>(rw[List.mem_singleton,Prod.mk.injEq]at h;obtain⟨rfl,rfl⟩:=h;rfl)
 case jS old l=>
  simp only[mv]at h;split at h
  . rw[List.mem_singleton,Prod.mk.injEq]at h;exact absurd h.1 hq
  split at h
  . rw[List.mem_singleton,Prod.mk.injEq]at h;obtain⟨rfl,rfl⟩:=h;split<;>rfl
  . rw[List.mem_singleton,Prod.mk.injEq]at h;obtain⟨rfl,rfl⟩:=h;rfl
 case fN sv=>
  simp only[mv]at h;split at h
  . cases h
  . rw[List.mem_singleton,Prod.mk.injEq]at h;obtain⟨rfl,rfl⟩:=h;split<;>rfl
 case tq=>
  simp only[mv,List.mem_cons,Prod.mk.injEq,List.not_mem_nil,or_false]at h;rcases h with⟨rfl,rfl⟩|⟨rfl,rfl⟩<;>rfl
 case up sv=>
  simp only[mv]at h;split at h
  . split at h
    . rw[List.mem_singleton,Prod.mk.injEq]at h;exact absurd h.1 hq
    . rw[List.mem_singleton,Prod.mk.injEq]at h;obtain⟨rfl,rfl⟩:=h;rfl
  . rw[List.mem_singleton,Prod.mk.injEq]at h;obtain⟨rfl,rfl⟩:=h;exact Ln _ _
 case add old sv=>simp only[mv,List.mem_singleton,Prod.mk.injEq]at h;obtain⟨rfl,rfl⟩:=h;rfl
 case held=>exact absurd rfl hne
theorem Oh{p q:Pc}{s s':Sh}(hp:p=.held\/(CA p=true/\p≠.out))(h:(q,s')∈mv p s)(hq:q≠.bad):CA q=true:=by
 rcases hp with rfl|⟨hp,hne⟩
 . simp only[mv]at h
   split at h
   . rw[List.mem_singleton,Prod.mk.injEq]at h;exact absurd h.1 hq
   . rw[List.mem_singleton,Prod.mk.injEq]at h
     obtain⟨rfl,rfl⟩:=h;split
     . rfl
     split
     . rfl
     split<;>rfl
 cases p<;>simp only[CA,Bool.false_eq_true]at hp
 case out=>exact absurd rfl hne
 case iC old=>simp only[mv]at h;split at h<;>(rw[List.mem_singleton,Prod.mk.injEq]at h;obtain⟨rfl,rfl⟩:=h;rfl)
 case tF=>simp only[mv,List.mem_singleton,Prod.mk.injEq]at h;obtain⟨rfl,rfl⟩:=h;split<;>rfl
 case give=>simp only[mv,List.mem_singleton,Prod.mk.injEq]at h;obtain⟨rfl,rfl⟩:=h;rfl
theorem Lp{p q:Pc}{s s':Sh}(hp:p≠.give)(h:(q,s')∈mv p s)(h0:s.ms=0):s'.ms=0:=by
 cases p<;>simp only[mv]at h
 case out=>cases h
 case bad=>cases h
 case give=>exact absurd rfl hp
 case sq=>simp only[List.mem_map,Prod.mk.injEq]at h;obtain⟨a,h1,rfl,rfl⟩:=h;exact h0
 case tq=>simp only[List.mem_cons,Prod.mk.injEq,List.not_mem_nil,or_false]at h;rcases h with⟨_,rfl⟩|⟨_,rfl⟩<;>exact h0
 all_goals repeat' split at h
 all_goals first
  |(cases h;done)
  |(rw[List.mem_singleton,Prod.mk.injEq]at h;obtain⟨_,rfl⟩:=h;first|exact h0|(show s.ms-1=0;omega))
end Mu
def sk:qW->Bool
 |.gx=>true|.rd _=>true|.sq ..=>true|.sw ..=>true|.jS ..=>true|.fN _=>true|.tq=>true|.up _=>true|.add ..=>true|.held=>true|.iC _=>true|.tF=>true|.give=>true
 |_=>false
theorem Hu{q:Mu.Pc}{p:qW}(h:To q p):p.abs=q:=by cases h<;>rfl
theorem Oi{q:Mu.Pc}{p:qW}(h:To q p)(hq:Mu.yR q=true):AB p=true/\p≠.ld/\p≠.la:=by cases h<;>simp_all [Mu.yR,AB]
theorem Oj{q:Mu.Pc}{p:qW}(h:To q p)(hq:Mu.CA q=true):wu p=true/\p≠.Dy/\p≠.ur/\p≠.ud:=by cases h<;>simp_all [Mu.CA,wu]
theorem Hv{q:Mu.Pc}{p:qW}(h:To q p):q≠.bad:=by cases h<;>simp
section
variable{P:Program}{nm:xp}(C:iy P nm)(X:iz P nm){n:Nat}{pcs:Nat->Mu.Pc}{s:Mu.Sh}{i:Nat}{p:qW}{b o:Nat}{kind:CallKind}{Wd:World->Prop}{cs:List Frame}{g:Goroutine}{w:World}{main:Bool}
include C X in
theorem AJ(I:Mu.Inv n pcs s)(hi:i<n)(hn:n<=900)(hpc:pcs i=p.abs)(hm:sk p=true)(hs:ShM b o w s)(h:mL P nm b o kind p cs g):
 kV P nm b o kind Wd cs g w main p.abs s\/((∃sv,p=.fN sv)/\s.ms=0/\stepG P main g w=.go {g with status:=.blocked} w #[]):=by
 obtain⟨hN,hms⟩:=I.P3;have hb:s.w.N<=1000:=by omega
 have hl:∀{q s'},(q,s')∈Mu.mv (pcs i) s->Mu.loc q:=λ{q s'} hm=>by
  have:=(I.step hi hm).j0 i hi
  rwa [Mu.ao]at this
 have h0:Mu.loc (pcs i):=I.j0 i hi;rw[hpc]at hl h0;cases p<;>simp only[sk,Bool.false_eq_true]at hm
 case gx=>exact .inl (EJ C X hs h)
 case rd l=>exact .inl (J4 C X hs hb (hl (q:=Mu.nx s.w l) (s':=s) (by simp[qW.abs,Mu.mv])) h)
 case sq old l=>exact .inl (J5 C X hs h0 h)
 case sw old l=>exact .inl (J6 C X hs h0 h)
 case jS old l=>exact .inl (Hf C X hs h0 h)
 case fN sv=>
  by_cases e:s.ms=0
  . exact .inr ⟨⟨sv,rfl⟩,e,AA C X hs e h⟩
  . exact .inl (EK C X hs e h)
 case tq=>exact .inl (J7 C X hs h)
 case up sv=>exact .inl (J8 C X hs hb (λq s' hq=>hl hq) h)
 case add old sv=>obtain⟨a1,a2,a3⟩:=I.L8 hi hpc;exact .inl (Hg C X hs hb a1 a2 a3 h)
 case held=>exact .inl (EL C X hs hb (I.Kf hi hpc) h)
 case iC old=>exact .inl (EM C X hs h)
 case tF=>exact .inl (Hh C X hs hb h)
 case give=>exact .inl (EN C X hs (by omega) h)
end
end Go.aN
namespace Go.aN
open Go.Conc
open Go.ConcN (sumTo upd sumTo_upd upd_ne upd_same)
section
variable{P:Program}{A:dM}{Fin:ag->ah->Goroutine->Prop}{Z:Base}{s:MS P}{f:Nat->Node P}{q:Nat->Nat}{kk:Nat->ag}{OO:Nat->ah}{J M:Nat->Prop}{gs:Array Goroutine}{w:World}{t:Trace}{j:Nat}{g:Goroutine}
def Goes(P:Program)(A:dM)(Fin:ag->ah->Goroutine->Prop)(Z:Base)(hZ:A.b+A.n+1<=Z.lk)(s:MS P)(gs:Array Goroutine)(w:World)(t:Trace)(sl:Option (Nat × Nat))(i:Nat):Prop:=∃ops m',runT P (crowd gs w sl) i=(.next m',ops)/\∃s' f' q' kk' OO' J' M' gs' w'' sl',m'=crowd gs' w'' sl'/\MS.fX A.n s' s/\br (bW P A Fin Z hZ) Z s' f' q' kk' OO' J' M' gs' w'' (t++ops)
def CB(P:Program)(A:dM)(s:MS P)(gs:Array Goroutine)(w:World)(sl:Option (Nat × Nat))(i:Nat)(g:Goroutine):Prop:=L4 P A s i/\runT P (crowd gs w sl) i=(.next (crowd (gs.setIfInBounds i (blk g)) w sl),#[])
theorem AL(hg:gs[A.b+j]?=some g)(hst:stepG P false g w=.go {g with status:=.blocked} w #[])(sl:Option (Nat × Nat)):runT P (crowd gs w sl) (A.b+j)=(.next (crowd (gs.setIfInBounds (A.b+j) (blk g)) w sl),#[]):=by
 have hb:=A.hb;have hi0:(A.b+j==0)=false:=by simp;omega
 have h:=runT_crowd_go (P:=P) (sl:=sl) (i:=A.b+j) hg (by rw[hi0];exact hst)
 have hid:woken P g {g with status:=.blocked} w=id:=funext λo=>by unfold Go.Conc.woken;simp
 rw[hid,Array.map_id]at h;exact h
variable(C:iy P A.nm)(X:iz P A.nm)
include C X in
theorem Kg(hZ:A.b+A.n+1<=Z.lk)(hC:br (bW P A Fin Z hZ) Z s f q kk OO J M gs w t)(hj:j<A.n){p:qW}{Y:vl P}(hw:s.w j=.lk p Y)(hg:gs[A.b+j]?=some g)(hat:ER P A j (.lk p Y) (kk (A.b+j)) (OO (A.b+j)) g)(hla:p≠.la)(sl:Option (Nat × Nat)):
 Goes P A Fin Z hZ s gs w t sl (A.b+j)\/CB P A s gs w sl (A.b+j) g:=by
 have hE:cW P A Z s kk OO J M gs.size w t:=hC.ex;have hok:AB p=true:=by have:=hE.I.ok j hj;rw[hw]at this;exact this
 have h1:(s.w j).ji=true:=by rw[hw];rfl
 have w1:=fY h1;have hpc:(s.w j).pc=p.abs:=by rw[hw];rfl
 have hn:=A.hn;have hb:=A.hb;have hi0:(A.b+j==0)=false:=by simp;omega
 obtain⟨kind,c,rest,e,hk,hM,hm,hO,hsh,hN⟩:=hat
 by_cases hmv:sk p=true
 . rcases AJ (Wd:=kF A) (main:=false) C X hE.I.mu hj hn hpc hmv hE.mu hM with⟨g1,w',es,qq,s',p',hst,hmm,hto,⟨hr,g2,⟨k,hsil⟩,hA⟩,hmw,hsm,hev,hdf⟩|⟨⟨sv,rfl⟩,h0,hst⟩
   . left
     have hlk:Mu.yR qq=true:=Mu.Og (by cases p<;>simp_all [AB,sk,qW.abs,Mu.yR]) hmm (Hv hto)
     obtain⟨k1,k2,k3⟩:=Oi hto hlk;have hmm':((be.lk p' Y).pc,s')∈Mu.mv (s.w j).pc s.sh:=by rw[hpc,show(be.lk p' Y).pc=p'.abs from rfl,Hu hto];exact hmm
     have hd1:(s.w j).deaf=1:=by rw[hw];cases p<;>simp_all [be.deaf,sk,AB]
     have hd2:(be.lk p' Y).deaf=1:=by cases p'<;>simp_all [be.deaf]
     refine vo (x:=.lk p' Y) hZ hC hj h1 rfl (by rw[hw];rfl) (hE.I.mv hj w1 rfl k1 hmm') (DN hE.I hj w1 rfl (by rw[hw];rfl) hmm' ?_) hg hst hmw hsm hev (by rw[hdf,hd1,hd2]) ⟨k,g2,hsil,kind,c,rest,e,hk,hA,hm,hO,hsh,hN⟩ (.inl λh0=>Mu.Lp ?_ hmm h0) sl
     . cases p'<;>simp_all [be.ex]
     . cases p<;>simp_all [sk,AB,qW.abs]
   . right
     exact⟨.inl ⟨j,sv,Y,hj,rfl,hw,h0⟩,AL hg hst sl⟩
 . cases p<;>simp only[sk,AB,not_true_eq_false,Bool.false_eq_true]at hmv hok
   case ld=>obtain⟨g1,hst,hr,g2,⟨k,hsil⟩,hA⟩:=yH (Wd:=kF A) (main:=false) (w:=w) C X hM;left;exact vo (x:=.lk .gx Y) (sh:=s.sh) hZ hC hj h1 rfl (by rw[hw];rfl) (hE.I.Q2 hj w1 rfl rfl hpc rfl) (Hr hj w1 rfl (by rw[hw];rfl) hpc rfl (by rw[hw];rfl) rfl) hg hst (aY rfl) hE.mu (λe he=>by simp at he;subst he;exact .inl (.inl rfl)) (by rw[hw];rfl) ⟨k,g2,hsil,kind,c,rest,e,hk,hA,hm,hO,hsh,hN⟩ (.inl λh0=>h0) sl
   case t1 sv=>obtain⟨g1,hst,hr,g2,⟨k,hsil⟩,hA⟩:=J2 (Wd:=kF A) (main:=false) (w:=w) C X hM;left;exact vo (x:=.lk (.fN sv) Y) (sh:=s.sh) hZ hC hj h1 rfl (by rw[hw];rfl) (hE.I.still hj w1 rfl rfl (by rw[hpc];rfl)) (kX hj w1 rfl (by rw[hw];rfl) (by rw[hpc];rfl) (by rw[hw];simp[be.ex])) hg hst (aY rfl ⟨⟨w.tick,rfl⟩,rfl⟩) (hE.mu.heap rfl) fq (by rw[hw];rfl) ⟨k,g2,hsil,kind,c,rest,e,hk,hA,hm,hO,hsh,hN⟩ (.inl λh0=>h0) sl
   case le=>
    obtain⟨g1,hst,hr,g2,⟨k,hsil⟩,hA⟩:=DF (Wd:=kF A) (main:=false) (w:=w) C X (λw h=>h.2.2) hM
    left;exact vo (x:=.lk .la Y) (sh:=s.sh) hZ hC hj h1 rfl (by rw[hw];rfl) (hE.I.still hj w1 rfl rfl (by rw[hpc];rfl)) (kX hj w1 rfl (by rw[hw];rfl) (by rw[hpc];rfl) (by rw[hw];simp[be.ex])) hg hst (aY rfl) hE.mu (λe he=>by simp at he;subst he;exact .inl (.inr rfl)) (by rw[hw];rfl) ⟨k,g2,hsil,kind,c,rest,e,hk,hA,hm,hO,hsh,hN⟩ (.inl λh0=>h0) sl
   case la=>exact absurd rfl hla
end
section
variable{P:Program}{A:dM}{Fin:ag->ah->Goroutine->Prop}{Z:Base}{s:MS P}{f:Nat->Node P}{q:Nat->Nat}{kk:Nat->ag}{OO:Nat->ah}{J M:Nat->Prop}{gs:Array Goroutine}{w:World}{t:Trace}{j:Nat}{g:Goroutine}
variable(C:iy P A.nm)(X:iz P A.nm)
include C X in
theorem Kh(hZ:A.b+A.n+1<=Z.lk)(hC:br (bW P A Fin Z hZ) Z s f q kk OO J M gs w t)(hj:j<A.n){p:qW}{Y:vl P}(hw:s.w j=.un p Y)(hg:gs[A.b+j]?=some g)(hat:ER P A j (.un p Y) (kk (A.b+j)) (OO (A.b+j)) g)(hur:p≠.ur)(hue:p≠.ue)(sl:Option (Nat × Nat)):
 Goes P A Fin Z hZ s gs w t sl (A.b+j):=by
 have hE:cW P A Z s kk OO J M gs.size w t:=hC.ex;have hok:wu p=true:=by have:=hE.I.ok j hj;rw[hw]at this;exact this
 have h1:(s.w j).ji=true:=by rw[hw];rfl
 have w1:=fY h1;have hpc:(s.w j).pc=p.abs:=by rw[hw];rfl
 have hn:=A.hn;have hb:=A.hb;obtain⟨kind,c,rest,hk,hM,hm,hA1,hA2⟩:=hat
 by_cases hmv:sk p=true
 . have hno:¬(p=.Dy\/p=.ur):=by rintro(rfl|rfl)<;>cases hmv
   have hN:=hA2 hno
   rcases AJ (Wd:=kF A) (main:=false) C X hE.I.mu hj hn hpc hmv hE.mu hM with⟨g1,w',es,qq,s',p',hst,hmm,hto,⟨hr,g2,⟨k,hsil⟩,hA⟩,hmw,hsm,hev,hdf⟩|⟨⟨sv,rfl⟩,h0,hst⟩
   . have hlk:Mu.CA qq=true:=Mu.Oh (by cases p<;>simp_all [wu,sk,qW.abs,Mu.CA]) hmm (Hv hto)
     obtain⟨k1,k2,k3,k4⟩:=Oj hto hlk;have hmm':((be.un p' Y).pc,s')∈Mu.mv (s.w j).pc s.sh:=by rw[hpc,show(be.un p' Y).pc=p'.abs from rfl,Hu hto];exact hmm
     have hd1:(s.w j).deaf=1:=by rw[hw];cases p<;>simp_all [be.deaf,sk,wu]
     have hd2:(be.un p' Y).deaf=1:=by cases p'<;>simp_all [be.deaf]
     have ho1:(s.w j).owns=false:=by rw[hw];cases p<;>simp_all [be.owns,sk,wu]
     have ho2:(be.un p' Y).owns=false:=by cases p'<;>simp_all [be.owns]
     refine vo (x:=.un p' Y) hZ hC hj h1 rfl (by rw[ho1,ho2]) (hE.I.mv hj w1 rfl k1 hmm') (DN hE.I hj w1 rfl (by rw[hw];rfl) hmm' ?_) hg hst hmw hsm hev (by rw[hdf,hd1,hd2]) ⟨k,g2,hsil,kind,c,rest,hk,hA,hm,λh=>absurd h (λh=>h.elim k2 k3),λ_=>hN⟩ ?_ sl
     . cases p'<;>simp_all [be.ex]
     . by_cases hgv:p=.give
       . subst hgv;exact .inr ⟨ES C X hM,hr⟩
       . refine .inl λh0=>Mu.Lp ?_ hmm h0
         cases p<;>simp_all [sk,wu,qW.abs]
   . exact absurd hok (by simp[wu])
 . cases p<;>simp only[sk,wu,not_true_eq_false,Bool.false_eq_true]at hmv hok
   case Dy=>
    obtain⟨v,hv⟩:=((ba (P:=P) (A:=A) (Fin:=Fin) (Z:=Z) hZ).wd hE).2.2;obtain⟨g1,hst,hr,g2,⟨k,hsil⟩,hA⟩:=ve (Wd:=kF A) (main:=false) (w:=w) C X (λw h=>h.2.2) hv hM
    exact vo (x:=.un .ur Y) (sh:=s.sh) hZ hC hj h1 rfl (by rw[hw];rfl) (hE.I.still hj w1 rfl rfl (by rw[hpc];rfl)) (kX hj w1 rfl (by rw[hw];rfl) (by rw[hpc];rfl) (by rw[hw];simp[be.ex])) hg hst (aY rfl) hE.mu fq (by rw[hw];rfl) ⟨k,g2,hsil,kind,c,rest,hk,hA,hm,λ_=>hA1 (.inl rfl),λh=>absurd (.inr rfl) h⟩ (.inl λh0=>h0) sl
   case ud=>
    have hN:=hA2 (by rintro(h|h)<;>cases h)
    obtain⟨g1,hst,hr,g2,⟨k,hsil⟩,hA⟩:=DA (Wd:=kF A) (main:=false) (w:=w) C X hM;exact vo (x:=.un .held Y) (sh:=s.sh) hZ hC hj h1 rfl (by rw[hw];rfl) (hE.I.still hj w1 rfl rfl (by rw[hpc];rfl)) (kX hj w1 rfl (by rw[hw];rfl) (by rw[hpc];rfl) (by rw[hw];simp[be.ex])) hg hst (aY rfl) hE.mu (λe he=>by simp at he;subst he;exact .inl (.inl rfl)) (by rw[hw];rfl) ⟨k,g2,hsil,kind,c,rest,hk,hA,hm,λh=>absurd h (by simp),λ_=>hN⟩ (.inl λh0=>h0) sl
   case ur=>exact absurd rfl hur
   case ue=>exact absurd rfl hue
end
def TT.L9{P:Program}{m:Mo}{K:ag}{O:ah}{g1 g2:Goroutine}(h:qd P (λ_=>True) g1 g2)(T':TT P m K O g2):TT P m K O g1:=.step (λk' O' g'=>k'=K/\O'=O/\g'=g2) h.1 (λk' O' g' hn=>by obtain⟨rfl,rfl,rfl⟩:=hn;exact T') (λw hw=>⟨g2,w,#[],K,O,h.2 _ w trivial,Eff.refl _ _ _,hw,rfl,rfl,rfl⟩)
theorem TT.AM{P:Program}{m:Mo}{K:ag}{O:ah}{g1 g2:Goroutine}(h:qd P (λ_=>True) g1 g2)(T':TT P m K O g2){z:Node P}(hz:nF z ⟨m,K,O,g1,TT.L9 h T'⟩):z=⟨m,K,O,g2,T'⟩:=by
 unfold TT.L9 at hz;cases hz with
 |step _ _ _ _ hn=>obtain⟨rfl,rfl,rfl⟩:=hn;rfl
theorem TT.pre{P:Program}{m:Mo}{K:ag}{O:ah}:∀{k:Nat}{g1 gB:Goroutine},jG P (λ_=>True) k g1 gB->(X:TT P m K O gB)->∃T:TT P m K O g1,tj ⟨m,K,O,g1,T⟩ ⟨m,K,O,gB,X⟩
 |0,g1,gB,h,X=>by obtain rfl:g1=gB:=h;exact⟨X,.refl _⟩
 | k + 1,g1,gB,⟨g2,h1,h⟩,X=>by
   obtain⟨T',hU⟩:=TT.pre h X;refine⟨TT.L9 h1 T',λy hy ht=>?_⟩;rcases hy with rfl|hy
   . exact ht.elim
   . have:y=⟨m,K,O,g2,T'⟩\/Relation.TransGen nF y ⟨m,K,O,g2,T'⟩:=by
      cases hy with
      |single h=>exact .inl (TT.AM h1 T' h)
      |tail h1' h2=>have e:=TT.AM h1 T' h2;rw[e]at h1';exact .inr h1'
     exact hU y this ht
section
variable{P:Program}{A:dM}{Fin:ag->ah->Goroutine->Prop}{Z:Base}{s:MS P}{f:Nat->Node P}{q:Nat->Nat}{kk:Nat->ag}{OO:Nat->ah}{J M:Nat->Prop}{gs:Array Goroutine}{w:World}{t:Trace}{j:Nat}{g:Goroutine}
theorem jK(hj:j<A.n){h:Bool}{X:Node P}(e:s.w j=.run h X):dg P A s (A.b+j):=.inr (.inl ⟨j,hj,rfl,by rw[e];trivial⟩)
theorem sm(hj:j<A.n){h:Bool}{X:Node P}(e:s.w j=.run h X):¬eV P A s (A.b+j):=by
 have:=A.hb;rintro(⟨e,_⟩|⟨l,h1,h2,h3⟩|⟨e,_⟩)
 . omega
 . obtain rfl:l=j:=by omega
   rw[e]at h3;exact h3
 . omega
theorem jq(hj:j<A.n){h:Bool}{X:Node P}(e:s.w j=.run h X):¬dW P A s (A.b+j):=by
 have:=A.hb;rintro(⟨e,_⟩|⟨l,h1,h2,h3⟩)
 . omega
 . obtain rfl:l=j:=by omega
   rw[e]at h3;cases h3
theorem mF(hj:j<A.n){h:Bool}{X:Node P}(e:s.w j=.run h X):bu P A Fin s (A.b+j)=kh P A j:=by
 have:=A.hb;unfold bu;rw[if_neg (by omega),if_pos (by omega)];have e2:A.b+j-A.b=j:=by omega
 rw[e2,e]
variable(C:iy P A.nm)(X:iz P A.nm)(F:qg P A.nm)
include C X F in
theorem Ki(hZ:A.b+A.n+1<=Z.lk)(hC:br (bW P A Fin Z hZ) Z s f q kk OO J M gs w t)(hj:j<A.n){Y:vl P}(hw:s.w j=.un .ue Y)(hg:gs[A.b+j]?=some g)(hat:ER P A j (.un .ue Y) (kk (A.b+j)) (OO (A.b+j)) g)(sl:Option (Nat × Nat)):
 Goes P A Fin Z hZ s gs w t sl (A.b+j):=by
 have hE:cW P A Z s kk OO J M gs.size w t:=hC.ex;have B:=ba (P:=P) (A:=A) (Fin:=Fin) (Z:=Z) hZ;have h1:(s.w j).ji=true:=by rw[hw];rfl
 have w1:=fY h1;have hb:=A.hb;have hi0:(A.b+j==0)=false:=by simp;omega
 obtain⟨kind,c,rest,hk,hM,hm,hA1,hA2⟩:=hat;have hN:=hA2 (by simp)
 obtain⟨g1,hst,hr,g2,hsil,hA⟩:=DB (Wd:=λ_=>True) (main:=false) (w:=w) C X hM
 obtain⟨k,hk2⟩:=hsil.trans (oc F hA hk);obtain⟨T,hU⟩:=TT.pre hk2 (Y.c _ _ _ hN);obtain⟨x,hx⟩:∃x:be P,x=.run false ⟨Y.m,kk (A.b+j),OO (A.b+j),_,Y.c _ _ _ hN⟩:=⟨_,rfl⟩;have w2:x.work=true:=by rw[hx];rfl
 have hsx:∀sh,((s.aE j x sh).w j)=.run false ⟨Y.m,kk (A.b+j),OO (A.b+j),_,Y.c _ _ _ hN⟩:=λsh=>by rw[aD,hx]
 have hev:EvM A.fb A.fo #[⟨.mark .enable,false,true⟩]:=λe he=>by simp at he;subst he;exact .inl (.inr rfl)
 have hrun:=runT_crowd_go (P:=P) (sl:=sl) (i:=A.b+j) hg (by rw[hi0];exact hst)
 have hbeg:bE P A s (A.b+j):=gW hE.I hj (bb w1).2.2.2.2.1;obtain⟨y1,y2,y3⟩:=hE.Ht hev hbeg g.frame.fn g.frame.place;have hops:∀op∈MemOp.ofEvents (A.b+j) g.frame.fn g.frame.place #[⟨.mark .enable,false,true⟩],op.g=A.b+j:=λop hop=>by obtain⟨e,_,rfl⟩:=Go.Conc.mem_ofEvents hop;rfl
 have hJ:J (A.b+j):=(hE.hJ _).2 (ub hj (bb w1).2.2.2.2.2.1);have hP:=hC.bY.sync (i:=A.b+j) (.inr hJ) hops rfl ⟨⟨.refl _,rfl⟩,λ_ _=>rfl⟩ (λb=>.inl rfl) y2 y1
 have hI:bD A.n (s.aE j x s.sh):=hE.I.still hj w1 w2 (by rw[hx];rfl) (by rw[hx,hw];rfl)
 have hL:MS.fX A.n (s.aE j x s.sh) s:=yO hj w1 w2 ⟨_,_,by rw[hx];rfl,by rw[hw];rfl,.single (nF.dc Y.N Y.h0 Y.ht Y.c hN)⟩
 have hEx:cW P A Z (s.aE j x s.sh) kk OO J M gs.size w (t++MemOp.ofEvents (A.b+j) g.frame.fn g.frame.place #[⟨.mark .enable,false,true⟩]):=hE.work hj w1 w2 (by rw[hx,hw];rfl) hI hE.mu (λ_ _=>rfl) hE.ti y3
 have hbs:Beside (bW P A Fin Z hZ) s (s.aE j x s.sh) f (bv f (A.b+j) ⟨Y.m,kk (A.b+j),OO (A.b+j),g1,T⟩) q q kk kk OO OO J J w (A.b+j) g g1:=jJ hZ hj w1 w2 (λi hi=>ar _ _ hi) (λi hi=>rfl) (λ_ _ _=>rfl) (λ_ _ _=>rfl) (λ_ h=>h) (.inl λh=>h) (λ{i k O y} hA=>B.kU (s:=s) (i:=i) (k:=k) (O:=O) (g:=y) hA)
 have hwk:=ik (P:=P) (A:=A) (s:=s) hj h1;refine⟨_,_,hrun,s.aE j x s.sh,bv f (A.b+j) ⟨Y.m,kk (A.b+j),OO (A.b+j),g1,T⟩,q,kk,OO,J,M,_,_,_,rfl,hL,?_⟩;refine br.step B hC hg hops hP hEx (λl y hl hA=>?_) hbs ⟨λ_=>?_,λh=>absurd h (sm hj (hsx _)),λh=>absurd h (jq hj (hsx _)),λh=>absurd (jK hj (hsx _)) h⟩
 . have hne:l≠A.b+j:=λe=>(hC.held l hl).2.1 (by rw[e];exact hwk)
   exact B.r7 hEx ((hbs.held l hne).2 hl) _ _ (hbs.L7 l _ _ _ hne hl hA)
 . rw[an]
   refine⟨by show A.b+j<A.b+A.n+1;omega,rfl,?_,rfl,rfl,hr,?_,.inr hJ,λl b X' h3 h4 h5=>?_⟩
   . show Y.m=bu P A Fin (s.aE j x s.sh) (A.b+j)
     rw[mF hj (hsx _)];exact hm
   . obtain⟨_,_,hd0,_⟩:=hC.walk _ hwk
     rw[Deaf_own,hd0];show deafBehind (cN P A s (A.b+j)) _=0;rw[dY hj,hw];rfl
   . obtain rfl:l=j:=by omega
     rw[hsx]at h5;cases h5;exact hU
end
section
variable{Z:Base}{kk:Nat->ag}{OO:Nat->ah}{J M:Nat->Prop}{w:World}{t:Trace}
theorem vp{O:ah}{b c n:Nat}(hc:aP (O.set b (.part q9)) c n):aP O c n:=by
 by_cases hcb:c=b
 . subst hcb
   rcases hc with⟨o,q⟩|⟨m,q,_⟩|⟨g,q,hg⟩
   . simp[ah.set]at q
   . simp[ah.set]at q
   . simp only[ah.set,if_true,Option.some.injEq,Own.part.injEq]at q
     subst q;exact absurd rfl hg
 . simpa[aP,ah.set,hcb]using hc
theorem bV.token(h:bV Z kk OO J M w t){j b:Nat}(hb:∀i,OO i b=none)(hw:∃c e,w.heap[b]?=some (.cells c e (0,0))/\(kk j).sh b=some (e,c.size))(hlow:Z.W0.heap.size<=b):
 bV Z kk (bv OO j ((OO j).set b (.part q9))) J M w t:=by
 have hcov:∀i c n,aP (bv OO j ((OO j).set b (.part q9)) i) c n->aP (OO i) c n:=λi c n hc=>by
  by_cases hi:i=j
  . subst hi;rw[an]at hc;exact vp hc
  . rw[ar _ _ hi]at hc;exact hc
 have hobj:∀i c o,bv OO j ((OO j).set b (.part q9)) i c=some (.obj o)->OO i c=some (.obj o):=λi c o hc=>by
  by_cases hi:i=j
  . subst hi
    rw[an]at hc;by_cases hcb:c=b
    . subst hcb;simp[ah.set]at hc
    . simpa[ah.set,hcb]using hc
  . rw[ar _ _ hi]at hc;exact hc
 have hS:Sat (kk j) ((OO j).set b (.part q9)) w:=by
  refine⟨λc n v hv hc=>(h.sat j).apart c n v hv (vp hc),(h.sat j).cell,(h.sat j).sh,λc o hc=>?_,λc n hc=>?_,λc g hc=>?_⟩
  . by_cases hcb:c=b
    . subst hcb;simp[ah.set]at hc
    . exact(h.sat j).obj c o (by simpa[ah.set,hcb]using hc)
  . by_cases hcb:c=b
    . subst hcb;simp[ah.set]at hc
    . exact(h.sat j).tail c n (by simpa[ah.set,hcb]using hc)
  . by_cases hcb:c=b
    . subst hcb
      simp only[ah.set,if_true,Option.some.injEq,Own.part.injEq]at hc;subst hc;obtain⟨c',e,h1,h2⟩:=hw;exact⟨c',e,h1,h2,λn v hv=>by cases hv⟩
    . exact(h.sat j).part c g (by simpa[ah.set,hcb]using hc)
 refine⟨λi=>?_,λi l c x hij hx=>?_,λi l c n v hij hv hc=>h.my i l c n v hij hv (hcov i c n hc),λi n a ha hm=>?_,h.clean,h.seen,h.acc,h.n0,h.u0,λa ha=>⟨(h.jE a ha).1,λi=>⟨λhc=>((h.jE a ha).2 i).1 (hcov i _ _ hc),((h.jE a ha).2 i).2⟩⟩,λr hr=>⟨(h.mz r hr).1,λi o hc=>(h.mz r hr).2 i o (hobj i r o hc)⟩,h.wo,λi c x hc=>?_⟩
 . by_cases hi:i=j
   . subst hi;rw[an];exact hS
   . rw[ar _ _ hi];exact h.sat i
 . by_cases hcb:c=b
   . subst hcb
     by_cases hl:l=j
     . subst hl
       rw[ar _ _ hij,hb i]at hx;cases hx
     . rw[ar _ _ hl];exact hb l
   . have e:∀l,bv OO j ((OO j).set b (.part q9)) l c=OO l c:=λl=>by
      by_cases hl:l=j
      . subst hl;rw[an];simp[ah.set,hcb]
      . rw[ar _ _ hl]
     rw[e]at hx ⊢;exact h.iV i l c x hij hx
 . rcases h.yB i n a ha hm with h1|h1
   . exact .inl h1
   . refine .inr ?_
     unfold nE at h1 ⊢;split
     . next ad hl=>rw[hl]at h1;exact⟨h1.1,λhc=>h1.2.1 (hcov i _ _ hc),h1.2.2⟩
     . next r hl=>rw[hl]at h1;exact⟨h1.1,λo hc=>h1.2 o (hobj i r o hc)⟩
     . trivial
 . by_cases hi:i=j
   . subst hi
     rw[an]at hc;by_cases hcb:c=b
     . subst hcb;exact hlow
     . exact h.mine i c x (by simpa[ah.set,hcb]using hc)
   . rw[ar _ _ hi]at hc;exact h.mine i c x hc
end
section
variable{Z:Base}{kk:Nat->ag}{OO:Nat->ah}{J M:Nat->Prop}{w:World}{t:Trace}
def iY(kk:Nat->ag)(lk i:Nat):Nat->ag:=bv kk i ((kk i).join (kk lk))
def gE(OO:Nat->ah)(lk i mb:Nat)(x:Own):Nat->ah:=bv (bv OO i ((OO i).set mb x)) lk ah.bot
theorem bV.Ok(h:bV Z kk OO J M w t){i mb:Nat}{x:Own}(hi:i≠Z.lk)(hx:OO Z.lk mb=some x)(ho:∀c,OO Z.lk c≠none->c=mb)(hla:Z.la.block<w.heap.size)(hd:Deaf t i=0)(hold:∀m a,m<Z.N0->touchAt t m=some a->a.loc.isMemory=true -> ¬Z.Shun a.loc->Knows t i m)(hnr:∀m a,Z.N0<=m->t.act? m≠some (.mark (.release a)))(fn:FuncId)(pos:String):
 bV Z (iY kk Z.lk i) (gE OO Z.lk i mb x) J M w (t++MemOp.ofEvents i fn pos #[⟨.mark (.acquire Z.la),false,true⟩]):=by
 obtain⟨u,hu⟩:∃u,u=MemOp.ofEvents i fn pos #[⟨.mark (.acquire Z.la),false,true⟩]:=⟨_,rfl⟩;have hu':u=#[⟨i,fn,pos,.mark (.acquire Z.la)⟩]:=by rw[hu,ofEvents_eq];simp[MemAct.ofEvent]
 rw[<-hu];have hloud:kP u:=λop hop=>by rw[hu']at hop;simp at hop;subst hop;simp
 have hnt:∀op∈u,op.act.touch?=none:=λop hop=>by rw[hu']at hop;simp at hop;subst hop;rfl
 have hops:∀op∈u,op.g=i:=λop hop=>by rw[hu']at hop;simp at hop;subst hop;rfl
 have hnr':∀m a,Z.N0<=m->(t++u).act? m≠some (.mark (.release a)):=λm a hm e=>by
  rcases sf e with⟨h1,_⟩|⟨op,hop,h1⟩
  . exact hnr m a hm h1
  . rw[hu']at hop;simp at hop;subst hop;simp at h1
 have hOi:OO i mb=none:=h.iV Z.lk i mb x (Ne.symm hi) hx;have eK:∀l,l≠i->iY kk Z.lk i l=kk l:=λl hl=>ar _ _ hl
 have eKi:iY kk Z.lk i i=(kk i).join (kk Z.lk):=an _ _ _;have eO:∀l,l≠i->l≠Z.lk->gE OO Z.lk i mb x l=OO l:=λl h1 h2=>by unfold gE;rw[ar _ _ h2,ar _ _ h1]
 have eOi:gE OO Z.lk i mb x i=(OO i).set mb x:=by unfold gE;rw[ar _ _ hi,an]
 have eOl:gE OO Z.lk i mb x Z.lk=ah.bot:=by unfold gE;rw[an]
 refine h.rY (λa b=>a=b\/(a=Z.lk/\b=i)) rfl ⟨⟨.refl _,rfl⟩,λ_ _=>rfl⟩ (λb=>.inl rfl) (λop hop=>by rw[hu']at hop;simp at hop;subst hop;simpa[MemAct.low]using hla) (λa b e n y hta hm hz hk=>?_) (λl b n v hv=>?_) (λl b sv hv=>?_) (λl b y hy=>?_) (λa l b y hal hy=>?_)
  (λsaid=>noRace_append (h.clean said) hops λn a ha op hop b hb _=>by rw[hnt op hop]at hb;cases hb) (λop hop a ha=>by rw[hnt op hop]at ha;cases ha) (λm op a hop ha=>by rw[hnt op (Array.mem_of_getElem? hop)]at ha;cases ha)
  (λn a ha hm h=>h.elim (λ⟨j,h1,h2⟩=>.inr (.inl ⟨j,h1,h2.app _⟩)) (λ⟨p,h1,h2⟩=>.inr (.inr (.inl ⟨p,h1,h2.app _⟩))))
 . rcases e with rfl|⟨rfl,rfl⟩
   . exact hk.app u
   . refine(mR hi).2 ?_
     unfold ED at hk;rw[if_pos rfl]at hk
     rcases hk with hk|⟨p,h0,h1,h2,h3⟩
     . exact(hold n y hk hta hm hz).app u
     . exact pr (y:=⟨b,fn,pos,.mark (.acquire Z.la)⟩) (m:=0) hloud (by rw[hu'];rfl) rfl hd h1 h2 (λk hk=>hnr' k _ (by omega)) h3
 . by_cases e:l=i
   . subst e;rw[eKi]at hv
     exact(ag.kC hv).elim (λh=>⟨l,.inl rfl,h⟩) (λh=>⟨Z.lk,.inr ⟨rfl,rfl⟩,h⟩)
   . rw[eK l e]at hv;exact⟨l,.inl rfl,hv⟩
 . by_cases e:l=i
   . subst e;rw[eKi]at hv
     exact(ag.yA hv).elim (λh=>⟨l,.inl rfl,h⟩) (λh=>⟨Z.lk,.inr ⟨rfl,rfl⟩,h⟩)
   . rw[eK l e]at hv;exact⟨l,.inl rfl,hv⟩
 . by_cases e:l=i
   . subst e;rw[eOi]at hy
     by_cases eb:b=mb
     . subst eb
       simp only[ah.set,if_true,Option.some.injEq]at hy;subst hy;exact⟨Z.lk,.inr ⟨rfl,rfl⟩,hx,λsv hs=>by rw[eKi];exact(ag.nZ (h.sat l) (h.sat Z.lk)).2 b sv hs⟩
     . simp only[ah.set,eb,if_false]at hy
       exact⟨l,.inl rfl,hy,λsv hs=>by rw[eKi];exact(ag.lC _ _).2 b sv hs⟩
   . by_cases e2:l=Z.lk
     . subst e2;rw[eOl]at hy;cases hy
     . rw[eO l e e2]at hy;exact⟨l,.inl rfl,hy,λsv hs=>by rw[eK l e];exact hs⟩
 . by_cases ea2:a=Z.lk
   . subst ea2;rw[eOl]at hy;cases hy
   by_cases el2:l=Z.lk
   . subst el2;rw[eOl];rfl
   by_cases ea:a=i
   . subst ea
     rw[eOi]at hy;rw[eO l (Ne.symm hal) el2]
     by_cases eb:b=mb
     . subst eb;exact h.iV Z.lk l b x (Ne.symm el2) hx
     . simp only[ah.set,eb,if_false]at hy;exact h.iV a l b y hal hy
   . rw [eO a ea ea2]at hy
     by_cases el:l=i
     . subst el
       rw[eOi]
       by_cases eb:b=mb
       . subst eb
         have:=h.iV Z.lk a b x (Ne.symm ea2) hx;rw[hy]at this;cases this
       . simp only[ah.set,eb,if_false];exact h.iV a l b y hal hy
     . rw[eO l el el2];exact h.iV a l b y hal hy
end
section
variable{Z:Base}{kk:Nat->ag}{OO:Nat->ah}{J M:Nat->Prop}{w:World}{t:Trace}
def mX(kk:Nat->ag)(lk i:Nat):Nat->ag:=bv kk lk (kk i)
def fu(OO:Nat->ah)(lk i mb fb:Nat)(x:Own):Nat->ah:=bv (bv OO i (((OO i).del mb).del fb)) lk (ah.bot.set mb x)
theorem bV.Ol(h:bV Z kk OO J M w t){i mb fb:Nat}{x:Own}(hi:i≠Z.lk)(hx:OO i mb=some x)(ho:∀c,OO Z.lk c=none)(hla:Z.la.block<w.heap.size)(hd:Deaf t i=0)(fn:FuncId)(pos:String):
 bV Z (mX kk Z.lk i) (fu OO Z.lk i mb fb x) J M w (t++MemOp.ofEvents i fn pos #[⟨.mark (.releaseMerge Z.la),false,true⟩]):=by
 obtain⟨u,hu⟩:∃u,u=MemOp.ofEvents i fn pos #[⟨.mark (.releaseMerge Z.la),false,true⟩]:=⟨_,rfl⟩;have hu':u=#[⟨i,fn,pos,.mark (.releaseMerge Z.la)⟩]:=by rw[hu,ofEvents_eq];simp[MemAct.ofEvent]
 rw[<-hu];have hloud:kP u:=λop hop=>by rw[hu']at hop;simp at hop;subst hop;simp
 have hnt:∀op∈u,op.act.touch?=none:=λop hop=>by rw[hu']at hop;simp at hop;subst hop;rfl
 have hops:∀op∈u,op.g=i:=λop hop=>by rw[hu']at hop;simp at hop;subst hop;rfl
 have hu0:u[0]?=some ⟨i,fn,pos,.mark (.releaseMerge Z.la)⟩:=by rw[hu'];rfl
 have eK:∀l,l≠Z.lk->mX kk Z.lk i l=kk l:=λl hl=>ar _ _ hl
 have eKl:mX kk Z.lk i Z.lk=kk i:=an _ _ _;have eO:∀l,l≠i->l≠Z.lk->fu OO Z.lk i mb fb x l=OO l:=λl h1 h2=>by unfold fu;rw[ar _ _ h2,ar _ _ h1]
 have eOi:fu OO Z.lk i mb fb x i=((OO i).del mb).del fb:=by unfold fu;rw[ar _ _ hi,an]
 have eOl:fu OO Z.lk i mb fb x Z.lk=ah.bot.set mb x:=by unfold fu;rw[an]
 have hdel:∀b y,(((OO i).del mb).del fb) b=some y->b≠mb/\OO i b=some y:=λb y hy=>by
  by_cases e1:b=fb
  . simp[ah.del,e1]at hy
  by_cases e2:b=mb
  . simp[ah.del,e2]at hy
  . exact⟨e2,by simpa[ah.del,e1,e2]using hy⟩
 have hset:∀b y,(ah.bot.set mb x) b=some y->b=mb/\y=x:=λb y hy=>by
  by_cases e:b=mb
  . subst e;simp only[ah.set,if_true,Option.some.injEq]at hy;exact⟨rfl,hy.symm⟩
  . simp only[ah.set,e,if_false]at hy;cases hy
 have hnone:∀b,OO i b=none->(((OO i).del mb).del fb) b=none:=λb hn=>by
  by_cases e1:b=fb
  . simp[ah.del,e1]
  by_cases e2:b=mb
  . simp[ah.del,e2]
  . simpa[ah.del,e1,e2]using hn
 refine h.rY (λa b=>a=b\/(a=i/\b=Z.lk)) rfl ⟨⟨.refl _,rfl⟩,λ_ _=>rfl⟩ (λb=>.inl rfl) (λop hop=>by rw[hu']at hop;simp at hop;subst hop;simpa[MemAct.low]using hla) (λa b e n y hta hm hz hk=>?_) (λl b n v hv=>?_) (λl b sv hv=>?_) (λl b y hy=>?_) (λa l b y hal hy=>?_)
  (λsaid=>noRace_append (h.clean said) hops λn a ha op hop b hb _=>by rw[hnt op hop]at hb;cases hb) (λop hop a ha=>by rw[hnt op hop]at ha;cases ha) (λm op a hop ha=>by rw[hnt op (Array.mem_of_getElem? hop)]at ha;cases ha)
  (λn a ha hm h=>h.elim (λ⟨j,h1,h2⟩=>.inr (.inl ⟨j,h1,h2.app _⟩)) (λ⟨p,h1,h2⟩=>.inr (.inr (.inl ⟨p,h1,h2.app _⟩))))
 . rcases e with rfl|⟨rfl,rfl⟩
   . exact hk.app u
   . have hk':Knows t a n:=(mR hi).1 hk
     unfold ED;rw[if_pos rfl];exact .inr ⟨t.size+0,by have:=h.n0;omega,by rw[act?_of (cY hu0)],heard_new hloud hu0 hd,kQ hk' hu0 rfl⟩
 . by_cases e:l=Z.lk
   . subst e;rw[eKl]at hv;exact⟨i,.inr ⟨rfl,rfl⟩,hv⟩
   . rw[eK l e]at hv;exact⟨l,.inl rfl,hv⟩
 . by_cases e:l=Z.lk
   . subst e;rw[eKl]at hv;exact⟨i,.inr ⟨rfl,rfl⟩,hv⟩
   . rw[eK l e]at hv;exact⟨l,.inl rfl,hv⟩
 . by_cases e2:l=Z.lk
   . subst e2;rw[eOl]at hy
     obtain⟨rfl,rfl⟩:=hset b y hy;exact⟨i,.inr ⟨rfl,rfl⟩,hx,λsv hs=>by rw[eKl];exact hs⟩
   by_cases e:l=i
   . subst e;rw[eOi]at hy
     exact⟨l,.inl rfl,(hdel b y hy).2,λsv hs=>by rw[eK l e2];exact hs⟩
   . rw[eO l e e2]at hy;exact⟨l,.inl rfl,hy,λsv hs=>by rw[eK l e2];exact hs⟩
 . by_cases ea2:a=Z.lk
   . subst ea2;rw[eOl]at hy
     obtain⟨rfl,rfl⟩:=hset b y hy
     by_cases el:l=i
     . subst el;rw[eOi]
       by_cases e1:b=fb
       . simp[ah.del,e1]
       . simp[ah.del,e1]
     . rw[eO l el (Ne.symm hal)];exact h.iV i l b y (Ne.symm el) hx
   by_cases el2:l=Z.lk
   . subst el2;rw[eOl]
     have hbm:b≠mb:=by
      by_cases ea:a=i
      . subst ea;rw[eOi]at hy;exact(hdel b y hy).1
      . rw[eO a ea ea2]at hy
        intro e;subst e;have:=h.iV a i b y ea hy;rw[hx]at this;cases this
     simp only[ah.set,hbm,if_false];rfl
   by_cases ea:a=i
   . subst ea
     rw[eOi]at hy;rw[eO l (Ne.symm hal) el2];exact h.iV a l b y hal (hdel b y hy).2
   . rw[eO a ea ea2]at hy
     by_cases el:l=i
     . subst el;rw[eOi];exact hnone b (h.iV a l b y hal hy)
     . rw[eO l el el2];exact h.iV a l b y hal hy
end
section
variable{P:Program}{A:dM}{Fin:ag->ah->Goroutine->Prop}{Z:Base}{s:MS P}{f:Nat->Node P}{q:Nat->Nat}{kk:Nat->ag}{OO:Nat->ah}{J M:Nat->Prop}{gs:Array Goroutine}{gsz:Nat}{w:World}{t u:Trace}{j:Nat}{g:Goroutine}{x:be P}{xo:Own}
theorem ET{x:be P}(h:x.owns=true):x.pc=.held:=by
 cases x with
 |run b X=>cases b<;>simp_all [be.owns,be.pc]
 |un p Y=>cases p<;>simp_all [be.owns,be.pc,qW.abs]
 |_=>simp_all [be.owns]
theorem AN(I:bD A.n s)(hj:j<A.n)(hp:(s.w j).pc=.held){l:Nat}(hl:l<A.n)(ho:(s.w l).owns=true):l=j:=by
 by_cases e:l=j
 . exact e
 . have h1:=I.mu.j1
   have h2:=Mu.fL Mu.bI (λi=>(s.w i).pc) j .out hj
   have h3:Mu.bI (Mu.set (λi=>(s.w i).pc) j .out l)<=Mu.eN A.n (λi=>Mu.bI (Mu.set (λi=>(s.w i).pc) j .out i)):=Mu.ij (λi=>Mu.bI (Mu.set (λi=>(s.w i).pc) j .out i)) hl
   rw[Mu.ai _ _ e,ET ho]at h3;have c1:Mu.bI .held=1:=rfl;have c0:Mu.bI .out=0:=rfl;rw[hp]at h2;have:s.sh.w.L.toNat<=1:=by cases s.sh.w.L<;>simp
   omega
def kb(A:dM)(Z:Base)(OO:Nat->ah)(i:Nat)(x:Own):Nat->ah:=bv (gE OO Z.lk i A.mb x) i ((gE OO Z.lk i A.mb x i).set A.fb (.part q9))
theorem cW.take(hZ:A.b+A.n+1<=Z.lk)(h:cW P A Z s kk OO J M gsz w t)(hj:j<A.n)(h1:(s.w j).work=true)(h2:x.work=true)(hno:∀l,l<A.n->(s.w l).owns=false)(hx:x.owns=true)(hI:bD A.n (s.aE j x s.sh))(hu:∀op∈u,op.act.touch?=none/\∀a,op.act≠.mark (.release a)):
 cW P A Z (s.aE j x s.sh) (iY kk Z.lk (A.b+j)) (kb A Z OO (A.b+j) xo) J M gsz w (t++u):=by
 have hi:A.b+j≠Z.lk:=by omega
 have hbusy:x.busy=(s.w j).busy:=by rw[(bb h1).2.2.2.2.2.1,(bb h2).2.2.2.2.2.1]
 have eK:∀l,l≠A.b+j->iY kk Z.lk (A.b+j) l=kk l:=λl hl=>ar _ _ hl
 have eKi:iY kk Z.lk (A.b+j) (A.b+j)=(kk (A.b+j)).join (kk Z.lk):=an _ _ _;have eO:∀l,l≠A.b+j->l≠Z.lk->kb A Z OO (A.b+j) xo l=OO l:=λl h1 h2=>by unfold kb gE;rw[ar _ _ h1,ar _ _ h2,ar _ _ h1]
 have eOi:kb A Z OO (A.b+j) xo (A.b+j)=((OO (A.b+j)).set A.mb xo).set A.fb (.part q9):=by unfold kb gE;rw[an,ar _ _ hi,an]
 have eOl:kb A Z OO (A.b+j) xo Z.lk=ah.bot:=by unfold kb gE;rw[ar _ _ (Ne.symm hi),an]
 have hbeg:bE P A s (A.b+j):=gW h.I hj (bb h1).2.2.2.2.1
 have hnoF:∀i,OO i A.fb=none:=λi=>by
  cases e:OO i A.fb with
  |none=>rfl
  |some y=>obtain⟨l,_,hl,_,ho,_⟩:=h.tok i y e;rw[hno l hl]at ho;cases ho
 have hjn:∀{c n:Nat},(∀i,(kk i).cell c n=none)->(iY kk Z.lk (A.b+j) (A.b+j)).cell c n=none:=λ{c n} hn=>by
  rw[eKi];cases e:((kk (A.b+j)).join (kk Z.lk)).cell c n with
  |none=>rfl
  |some v=>rcases ag.kC e with h|h<;>rw[hn]at h<;>cases h
 refine⟨hI,h.size,h.v7,h.mu,h.gr,h.ti,h.wv,λi=>?_,λi=>?_,λi y hy=>?_,λl hl hlo=>?_,λhlo=>?_,λc hc=>?_,
  λi=>by rw[h.hJ i];exact(kY hj hbusy i).symm,h.rb u,h.ki u,h.iX u (λop hop a ha=>by rw[(hu op hop).1]at ha;cases ha),h.lF u (λop hop a ha=>by rw[(hu op hop).1]at ha;cases ha),h.mW u,h.gV u (λop hop=>(hu op hop).2),λi hl hb=>?_,h.qc,h.jp,h.dX,h.la,by simp;exact Nat.le_trans h.n0 (Nat.le_add_right _ _)⟩
 . by_cases e:i=A.b+j
   . subst e;rw[eOi]
     have:=h.fB (A.b+j);simp only[ah.set,A.d1,A.d3,Ne.symm A.d4,A.d6,if_false];exact this
   by_cases e2:i=Z.lk
   . subst e2;rw[eOl];exact⟨rfl,rfl⟩
   . rw[eO i e e2];exact h.fB i
 . by_cases e:i=A.b+j
   . subst e
     exact⟨hjn λi=>(h.dI i).1,hjn λi=>(h.dI i).2.1,hjn λi=>(h.dI i).2.2.1,hjn λi=>(h.dI i).2.2.2⟩
   . rw[eK i e];exact h.dI i
 . by_cases e:i=A.b+j
   . subst e;rw[eOi]at hy
     simp only[ah.set,if_true,Option.some.injEq]at hy;exact⟨j,q9,hj,rfl,by rw[aD];exact hx,hy.symm,λ_=>rfl⟩
   by_cases e2:i=Z.lk
   . subst e2;rw[eOl]at hy;cases hy
   . rw[eO i e e2,hnoF]at hy;cases hy
 . by_cases e:l=j
   . subst e;rw[eOi];simp[ah.set]
   . rw[bf e,hno l hl]at hlo;cases hlo
 . have:=hlo j hj
   rw[aD,hx]at this;cases this
 . rw[eOl]at hc;exact absurd rfl hc
 . have e:i≠A.b+j:=λe=>hb (e ▸ hbeg)
   rw[eK i e,eO i e hl];exact h.AE i hl hb
end
section
variable{P:Program}{A:dM}{Fin:ag->ah->Goroutine->Prop}{Z:Base}{s:MS P}{f:Nat->Node P}{q:Nat->Nat}{kk:Nat->ag}{OO:Nat->ah}{J M:Nat->Prop}{gs:Array Goroutine}{w:World}{t:Trace}{j:Nat}{g:Goroutine}
variable(C:iy P A.nm)(X:iz P A.nm)(F:qg P A.nm)
include C X F in
theorem Kj(hZ:A.b+A.n+1<=Z.lk)(hC:br (bW P A Fin Z hZ) Z s f q kk OO J M gs w t)(hj:j<A.n){Y:vl P}(hw:s.w j=.lk .la Y)(hg:gs[A.b+j]?=some g)(hat:ER P A j (.lk .la Y) (kk (A.b+j)) (OO (A.b+j)) g)(sl:Option (Nat × Nat)):
 Goes P A Fin Z hZ s gs w t sl (A.b+j):=by
 have hE:cW P A Z s kk OO J M gs.size w t:=hC.ex;have B:=ba (P:=P) (A:=A) (Fin:=Fin) (Z:=Z) hZ;have h1:(s.w j).ji=true:=by rw[hw];rfl
 have w1:=fY h1;have hpc:(s.w j).pc=.held:=by rw[hw];rfl
 have hb:=A.hb;have hilk:A.b+j≠Z.lk:=by omega
 have hi0:(A.b+j==0)=false:=by simp;omega
 have hno:∀l,l<A.n->(s.w l).owns=false:=λl hl=>by
  cases e:(s.w l).owns with
  |false=>rfl
  |true=>obtain rfl:=AN hE.I hj hpc hl e;rw[hw]at e;cases e
 have hnoF:∀i,OO i A.fb=none:=λi=>by
  cases e:OO i A.fb with
  |none=>rfl
  |some y=>obtain⟨l,_,hl,_,ho,_⟩:=hE.tok i y e;rw[hno l hl]at ho;cases ho
 obtain⟨xo,a,hxo,hor,hgi⟩:=hE.Hp hno;obtain⟨kind,c,rest,e,hk,hM,hm,hO,hsh,hN⟩:=hat;have hle':(kk Z.lk).Le ((kk (A.b+j)).join (kk Z.lk)):=ag.nZ (hC.bY.sat (A.b+j)) (hC.bY.sat Z.lk);have hN':=hN ((kk (A.b+j)).join (kk Z.lk)) xo a (ag.lC _ _) (hor.mono hle') hgi (hC.bY.iV Z.lk (A.b+j) _ _ (Ne.symm hilk) hxo);obtain⟨g1,hst,hr,g2,hsil,hA⟩:=DD (Wd:=λ_=>True) (main:=false) (w:=w) C X hM
 obtain⟨k,hk2⟩:=hsil.trans (q8 F hA hk);rw[<-hE.la]at hst;have eKi:iY kk Z.lk (A.b+j) (A.b+j)=(kk (A.b+j)).join (kk Z.lk):=an _ _ _;have eOi:kb A Z OO (A.b+j) xo (A.b+j)=((OO (A.b+j)).set A.mb xo).set A.fb (.part q9):=by unfold kb gE;rw[an,ar _ _ hilk,an]
 rw[<-eKi,<-eOi]at hN';obtain⟨T,hU⟩:=TT.pre hk2 (Y.c _ _ _ hN');obtain⟨x,hx⟩:∃x:be P,x=.run true ⟨Y.m,iY kk Z.lk (A.b+j) (A.b+j),kb A Z OO (A.b+j) xo (A.b+j),_,Y.c _ _ _ hN'⟩:=⟨_,rfl⟩;have w2:x.work=true:=by rw[hx];rfl
 have hsx:∀sh,((s.aE j x sh).w j)=.run true ⟨Y.m,iY kk Z.lk (A.b+j) (A.b+j),kb A Z OO (A.b+j) xo (A.b+j),_,Y.c _ _ _ hN'⟩:=λsh=>by rw[aD,hx]
 have hrun:=runT_crowd_go (P:=P) (sl:=sl) (i:=A.b+j) hg (by rw[hi0];exact hst)
 have hwk:=ik (P:=P) (A:=A) (s:=s) hj h1
 have hd0:Deaf t (A.b+j)=0:=by obtain⟨_,_,hd0,_⟩:=hC.walk _ hwk;rw[hd0];show cN P A s (A.b+j)=0;rw[dY hj,hw];rfl
 have hbeg:bE P A s (A.b+j):=gW hE.I hj (bb w1).2.2.2.2.1;have hJ:J (A.b+j):=(hE.hJ _).2 (ub hj (bb w1).2.2.2.2.2.1);have hops:∀op∈MemOp.ofEvents (A.b+j) g.frame.fn g.frame.place #[⟨.mark (.acquire Z.la),false,true⟩],op.g=A.b+j:=λop hop=>by obtain⟨e,_,rfl⟩:=Go.Conc.mem_ofEvents hop;rfl
 have hmu:∀op∈MemOp.ofEvents (A.b+j) g.frame.fn g.frame.place #[⟨.mark (.acquire Z.la),false,true⟩],op.act.touch?=none/\∀a,op.act≠.mark (.release a):=λop hop=>by obtain⟨e,he,rfl⟩:=Go.Conc.mem_ofEvents hop;simp at he;subst he;exact⟨rfl,λa h=>by simp[MemAct.ofEvent]at h⟩
 have hFlt:A.fb<w.heap.size:=by obtain⟨c,e,h1⟩:=hE.ti;exact(Array.getElem?_eq_some_iff.1 h1).1
 have hP1:=hC.bY.Ok hilk hxo (λc hc=>(hE.Gk c hc).1) (by rw[hE.la];exact hFlt) hd0 (λm a hm ha hmem hz=>hE.old _ hbeg m a hm ha hmem hz) hE.norel g.frame.fn g.frame.place
 have hnone:∀l,gE OO Z.lk (A.b+j) A.mb xo l A.fb=none:=λl=>by
  unfold gE
  by_cases e1:l=Z.lk
  . subst e1;rw[an];rfl
  by_cases e2:l=A.b+j
  . subst e2;rw[ar _ _ e1,an];simp only[ah.set,A.d5,if_false];exact hnoF _
  . rw[ar _ _ e1,ar _ _ e2];exact hnoF _
 have hP:=hP1.token (j:=A.b+j) hnone (by obtain⟨cc,ee,hcc⟩:=hE.ti;have hs:=(hC.bY.sat (A.b+j)).sh _ _ hsh;simp only[World.shape?,hcc]at hs;refine⟨cc,ee,hcc,?_⟩;rw[eKi];refine(ag.lC _ _).2 _ _ ?_;rw[hsh];exact hs.symm) hE.dX.2.1
 have hI:bD A.n (s.aE j x s.sh):=hE.I.still hj w1 w2 (by rw[hx];rfl) (by rw[hx,hw];rfl)
 have hL:MS.fX A.n (s.aE j x s.sh) s:=yO hj w1 w2 ⟨_,_,by rw[hx];rfl,by rw[hw];rfl,.single (nF.dc Y.N Y.h0 Y.ht Y.c hN')⟩
 have hEx:=hE.take (xo:=xo) hZ hj w1 w2 hno (by rw[hx];rfl) hI hmu
 have hbs:Beside (bW P A Fin Z hZ) s (s.aE j x s.sh) f (bv f (A.b+j) ⟨Y.m,iY kk Z.lk (A.b+j) (A.b+j),kb A Z OO (A.b+j) xo (A.b+j),g1,T⟩) q q kk (iY kk Z.lk (A.b+j)) OO (kb A Z OO (A.b+j) xo) J J w (A.b+j) g g1:=jJ hZ hj w1 w2 (λi hi=>ar _ _ hi) (λi hi=>rfl) (λi hi _=>ar _ _ hi) (λi hi ht=>by unfold kb gE;rw[ar _ _ hi,ar _ _ (show i≠Z.lk by omega),ar _ _ hi]) (λ_ h=>h) (.inl λh=>h) (λ{i k O y} hA=>B.kU (s:=s) (i:=i) (k:=k) (O:=O) (g:=y) hA)
 refine⟨_,_,hrun,s.aE j x s.sh,bv f (A.b+j) ⟨Y.m,iY kk Z.lk (A.b+j) (A.b+j),kb A Z OO (A.b+j) xo (A.b+j),g1,T⟩,q,iY kk Z.lk (A.b+j),kb A Z OO (A.b+j) xo,J,M,_,_,_,rfl,hL,?_⟩;refine br.step B hC hg hops hP hEx (λl y hl hA=>?_) hbs ⟨λ_=>?_,λh=>absurd h (sm hj (hsx _)),λh=>absurd h (jq hj (hsx _)),λh=>absurd (jK hj (hsx _)) h⟩
 . have hne:l≠A.b+j:=λe=>(hC.held l hl).2.1 (by rw[e];exact hwk)
   exact B.r7 hE hl _ _ hA
 . rw[an]
   refine⟨by show A.b+j<A.b+A.n+1;omega,rfl,?_,rfl,rfl,hr,?_,.inr hJ,λl b X' h3 h4 h5=>?_⟩
   . show Y.m=bu P A Fin (s.aE j x s.sh) (A.b+j)
     rw[mF hj (hsx _)];exact hm
   . rw[Deaf_own,hd0];rfl
   . obtain rfl:l=j:=by omega
     rw[hsx]at h5;cases h5;exact hU
end
section
variable{P:Program}{A:dM}{Fin:ag->ah->Goroutine->Prop}{Z:Base}{s:MS P}{f:Nat->Node P}{q:Nat->Nat}{kk:Nat->ag}{OO:Nat->ah}{J M:Nat->Prop}{gs:Array Goroutine}{gsz:Nat}{w:World}{t u:Trace}{j:Nat}{g:Goroutine}{x:be P}{xo:Own}{a:jy}
theorem cW.give(hZ:A.b+A.n+1<=Z.lk)(h:cW P A Z s kk OO J M gsz w t)(hj:j<A.n)(h1:(s.w j).work=true)(h2:x.work=true)(hone:∀l,l<A.n->(s.w l).owns=true->l=j)(hx:x.owns=false)(hI:bD A.n (s.aE j x s.sh))(hor:lc (kk (A.b+j)) xo a)(hgi:A.GI a)(hu:∀op∈u,op.act.touch?=none/\∀a,op.act≠.mark (.release a)):
 cW P A Z (s.aE j x s.sh) (mX kk Z.lk (A.b+j)) (fu OO Z.lk (A.b+j) A.mb A.fb xo) J M gsz w (t++u):=by
 have hi:A.b+j≠Z.lk:=by omega
 have hbusy:x.busy=(s.w j).busy:=by rw[(bb h1).2.2.2.2.2.1,(bb h2).2.2.2.2.2.1]
 have eK:∀l,l≠Z.lk->mX kk Z.lk (A.b+j) l=kk l:=λl hl=>ar _ _ hl
 have eKl:mX kk Z.lk (A.b+j) Z.lk=kk (A.b+j):=an _ _ _;have eO:∀l,l≠A.b+j->l≠Z.lk->fu OO Z.lk (A.b+j) A.mb A.fb xo l=OO l:=λl h1 h2=>by unfold fu;rw[ar _ _ h2,ar _ _ h1]
 have eOi:fu OO Z.lk (A.b+j) A.mb A.fb xo (A.b+j)=((OO (A.b+j)).del A.mb).del A.fb:=by unfold fu;rw[ar _ _ hi,an]
 have eOl:fu OO Z.lk (A.b+j) A.mb A.fb xo Z.lk=ah.bot.set A.mb xo:=by unfold fu;rw[an]
 have hbeg:bE P A s (A.b+j):=gW h.I hj (bb h1).2.2.2.2.1
 have hnew:∀l,l<A.n->((s.aE j x s.sh).w l).owns=false:=λl hl=>by
  by_cases e:l=j
  . subst e;rw[aD];exact hx
  . rw[bf e]
    cases q:(s.w l).owns with
    |false=>rfl
    |true=>exact absurd (hone l hl q) e
 refine⟨hI,h.size,h.v7,h.mu,h.gr,h.ti,h.wv,λi=>?_,λi=>?_,λi y hy=>?_,λl hl hlo=>?_,λhlo=>?_,λc hc=>?_,
  λi=>by rw[h.hJ i];exact(kY hj hbusy i).symm,h.rb u,h.ki u,h.iX u (λop hop a ha=>by rw[(hu op hop).1]at ha;cases ha),h.lF u (λop hop a ha=>by rw[(hu op hop).1]at ha;cases ha),h.mW u,h.gV u (λop hop=>(hu op hop).2),λi hl hb=>?_,h.qc,h.jp,h.dX,h.la,by simp;exact Nat.le_trans h.n0 (Nat.le_add_right _ _)⟩
 . by_cases e2:i=Z.lk
   . subst e2;rw[eOl];simp only[ah.set,A.d3,A.d6,if_false];exact⟨rfl,rfl⟩
   by_cases e:i=A.b+j
   . subst e;rw[eOi]
     have:=h.fB (A.b+j);simp only[ah.del,A.d1,A.d3,Ne.symm A.d4,A.d6,if_false];exact this
   . rw[eO i e e2];exact h.fB i
 . by_cases e2:i=Z.lk
   . subst e2;rw[eKl];exact h.dI _
   . rw[eK i e2];exact h.dI i
 . exfalso
   by_cases e2:i=Z.lk
   . subst e2;rw[eOl]at hy
     simp only[ah.set,A.d5,if_false]at hy;cases hy
   by_cases e:i=A.b+j
   . subst e;rw[eOi]at hy;simp[ah.del]at hy
   . rw[eO i e e2]at hy
     obtain⟨l,_,hl,h3,ho,_⟩:=h.tok i y hy;exact e (by rw[h3,hone l hl ho])
 . rw[hnew l hl]at hlo;cases hlo
 . refine⟨xo,a,by rw[eOl];simp[ah.set],by rw[eKl];exact hor,hgi⟩
 . rw[eOl]at hc
   refine⟨?_,hnew⟩
   by_cases e:c=A.mb
   . exact e
   . simp only[ah.set,e,if_false]at hc;exact absurd rfl hc
 . have e:i≠A.b+j:=λe=>hb (e ▸ hbeg)
   rw[eK i hl,eO i e hl];exact h.AE i hl hb
variable(C:iy P A.nm)(X:iz P A.nm)
include C X in
theorem Kk(hZ:A.b+A.n+1<=Z.lk)(hC:br (bW P A Fin Z hZ) Z s f q kk OO J M gs w t)(hj:j<A.n){Y:vl P}(hw:s.w j=.un .ur Y)(hg:gs[A.b+j]?=some g)(hat:ER P A j (.un .ur Y) (kk (A.b+j)) (OO (A.b+j)) g)(sl:Option (Nat × Nat)):
 Goes P A Fin Z hZ s gs w t sl (A.b+j):=by
 have hE:cW P A Z s kk OO J M gs.size w t:=hC.ex;have B:=ba (P:=P) (A:=A) (Fin:=Fin) (Z:=Z) hZ;have h1:(s.w j).ji=true:=by rw[hw];rfl
 have w1:=fY h1;have hpc:(s.w j).pc=.held:=by rw[hw];rfl
 have hb:=A.hb;have hilk:A.b+j≠Z.lk:=by omega
 have hi0:(A.b+j==0)=false:=by simp;omega
 have hone:∀l,l<A.n->(s.w l).owns=true->l=j:=λl hl e=>AN hE.I hj hpc hl e
 obtain⟨kind,c,rest,hk,hM,hm,hA1,hA2⟩:=hat;obtain⟨tf,xo,a,hfb,zy,hor,hgi,hN⟩:=hA1 (.inr rfl);obtain⟨g1,hst,hr,g2,⟨k,hsil⟩,hA⟩:=DC (Wd:=kF A) (main:=false) (w:=w) C X hM;rw[<-hE.la]at hst;have eKi:mX kk Z.lk (A.b+j) (A.b+j)=kk (A.b+j):=ar _ _ hilk;have eOi:fu OO Z.lk (A.b+j) A.mb A.fb xo (A.b+j)=((OO (A.b+j)).del A.mb).del A.fb:=by unfold fu;rw[ar _ _ hilk,an]
 have hrun:=runT_crowd_go (P:=P) (sl:=sl) (i:=A.b+j) hg (by rw[hi0];exact hst)
 have hwk:=ik (P:=P) (A:=A) (s:=s) hj h1
 have hd0:Deaf t (A.b+j)=0:=by obtain⟨_,_,hd0,_⟩:=hC.walk _ hwk;rw[hd0];show cN P A s (A.b+j)=0;rw[dY hj,hw];rfl
 have hops:∀op∈MemOp.ofEvents (A.b+j) g.frame.fn g.frame.place #[⟨.mark (.releaseMerge Z.la),false,true⟩],op.g=A.b+j:=λop hop=>by obtain⟨e,_,rfl⟩:=Go.Conc.mem_ofEvents hop;rfl
 have hmu:∀op∈MemOp.ofEvents (A.b+j) g.frame.fn g.frame.place #[⟨.mark (.releaseMerge Z.la),false,true⟩],op.act.touch?=none/\∀a,op.act≠.mark (.release a):=λop hop=>by obtain⟨e,he,rfl⟩:=Go.Conc.mem_ofEvents hop;simp at he;subst he;exact⟨rfl,λa h=>by simp[MemAct.ofEvent]at h⟩
 have hFlt:A.fb<w.heap.size:=by obtain⟨c,e,h1⟩:=hE.ti;exact(Array.getElem?_eq_some_iff.1 h1).1
 have hlk0:∀c,OO Z.lk c=none:=λc=>by
  cases e:OO Z.lk c with
  |none=>rfl
  | some y=>
    have:=(hE.Gk c (by rw[e];simp)).2 j hj
    rw[hw]at this;cases this
 have hP:=hC.bY.Ol (fb:=A.fb) hilk zy hlk0 (by rw[hE.la];exact hFlt) hd0 g.frame.fn g.frame.place
 obtain⟨x,hx⟩:∃x:be P,x=.un .ud Y:=⟨_,rfl⟩;have w2:x.work=true:=by rw[hx];rfl
 have hx':((s.aE j x s.sh).w j).ji=true:=by rw[aD,hx];rfl
 have hI:bD A.n (s.aE j x s.sh):=hE.I.still hj w1 w2 (by rw[hx];rfl) (by rw[hx,hw];rfl)
 have hL:MS.fX A.n (s.aE j x s.sh) s:=kX hj w1 w2 (by rw[hx,hw];rfl) (by rw[hx,hw];rfl) (by rw[hx,hw];simp[be.ex])
 have hEx:=hE.give hZ hj w1 w2 hone (by rw[hx];rfl) hI hor hgi hmu
 have hbs:Beside (bW P A Fin Z hZ) s (s.aE j x s.sh) f f q (upd q (A.b+j) k) kk (mX kk Z.lk (A.b+j)) OO (fu OO Z.lk (A.b+j) A.mb A.fb xo) J J w (A.b+j) g g1:=jJ hZ hj w1 w2 (λi hi=>rfl) (λi hi=>upd_ne q k hi) (λi hi ht=>ar _ _ (show i≠Z.lk by omega)) (λi hi ht=>by unfold fu;rw[ar _ _ (show i≠Z.lk by omega),ar _ _ hi]) (λ_ h=>h) (.inl λh=>h) (λ{i k O y} hA=>B.kU (s:=s) (i:=i) (k:=k) (O:=O) (g:=y) hA)
 refine⟨_,_,hrun,s.aE j x s.sh,f,upd q (A.b+j) k,mX kk Z.lk (A.b+j),fu OO Z.lk (A.b+j) A.mb A.fb xo,J,M,_,_,_,rfl,hL,?_⟩;refine br.step B hC hg hops hP hEx (λl y hl hA=>B.r7 hE hl _ _ hA) hbs ⟨λhl=>absurd hl (iA hj hx'),λ_=>⟨iA hj hx',?_,?_,g2,?_,?_⟩,λhh=>absurd hh (oe hj hx'),λ_ hn _=>absurd (ik hj hx') hn⟩
 . show A.b+j<A.b+A.n+1;omega
 . rw[Deaf_own,hd0]
   show _=cN P A (s.aE j x s.sh) (A.b+j);rw[dY hj,aD,hx];rfl
 . refine .inr (.inl ⟨j,hj,rfl,?_⟩)
   rw[aD,hx,eKi,eOi];exact⟨kind,c,rest,hk,hA,hm,λh=>absurd h (by simp),λ_=>hN⟩
 . exact .inr (by rw[upd_same];exact hsil)
end
end Go.aN
