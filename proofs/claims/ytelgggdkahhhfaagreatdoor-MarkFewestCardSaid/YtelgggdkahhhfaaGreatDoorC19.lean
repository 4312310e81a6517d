/- Part 19 of the proof. -/
import Derived.Test.YtelgggdkahhhfaaGreatDoorC18
set_option linter.all false
namespace Go.aZ
open Go.Conc
open Go.ConcN (sumTo upd sumTo_upd upd_ne upd_same)
def aM.gn {P:Program}:aM P->Bool
 | .lk .. => true | .un .. => true|_=>false
theorem dS {P:Program} {x:aM P} (h:x.gn=true):x.work=true:=by cases x <;> simp_all [aM.gn,aM.work]
section
variable {P:Program} {A:cC} {Fin:ag->ah->Goroutine->Prop} {Z:Base} {s:MS P} {f:Nat->Node P} {q:Nat->Nat} {kk:Nat->ag} {OO:Nat->ah} {J M:Nat->Prop} {gs:Array Goroutine} {w w':World} {t:Trace} {j:Nat} {x:aM P} {sh:Mu.Sh} {g g1:Goroutine}
theorem qm (hj:j<A.n) (h:(s.w j).busy=true):dk P A s (A.b+j):=.inl ⟨j,hj,rfl,h⟩
theorem eM (I:bd A.n s) (hj:j<A.n) (h:(s.w j).fS=false):be P A s (A.b+j):=by
 refine .inr (.inl ⟨j,?_,rfl⟩);have:=I.idle j hj;rw[h] at this;exact Nat.lt_of_not_le fun hh=>by simpa using this.2 hh
theorem fg (hj:j<A.n) (h:(s.w j).gn=true):di P A s (A.b+j):=.inr (.inl ⟨j,hj,rfl,by cases e:s.w j <;> simp_all [aM.gn]⟩)
theorem fC (hj:j<A.n) (h:(s.w j).gn=true) : ¬ bW P A s (A.b+j):=by
 have:=A.hb
 rintro (⟨e,_⟩|⟨l,h1,h2,h3⟩|⟨e,_⟩)
 . omega
 . obtain rfl:l=j:=by omega
   cases e:s.w l <;> simp_all [aM.gn]
 . omega
theorem lC (hj:j<A.n) (h:(s.w j).gn=true) : ¬ cL P A s (A.b+j):=by
 have:=A.hb
 rintro (⟨e,_⟩|⟨l,h1,h2,h3⟩)
 . omega
 . obtain rfl:l=j:=by omega
   rw[h3] at h;cases h
theorem cN (hj:j<A.n):bF P A s (A.b+j)=(s.w j).deaf:=by
 have:=A.hb;unfold bF;rw[if_neg (by omega),if_pos (by omega)]
 have e:A.b+j-A.b=j:=by omega
 rw[e]
theorem rp (hZ:A.b+A.n+1≤Z.lk) (hC:aW (bn P A Fin Z hZ) Z s f q kk OO J M gs w t) (hj:j<A.n) (h1:(s.w j).gn=true) (h2:x.gn=true) (ho:x.owns=(s.w j).owns) (hI:bd A.n (s.aC j x sh)) (hL:MS.dR A.n (s.aC j x sh) s)
 (hg:gs[A.b+j]? = some g) {es:Array Event} (hst:stepG P false g w = .go g1 w' es) (hmw:MW A.fb A.fo w w') (hmu:ShM A.fb A.fo w' sh) (hev:EvM A.fb A.fo es) (hd:deafBehind (s.w j).deaf es=x.deaf)
 (hs:∃ n g',gZ P (iV A) n g1 g'∧Az P A j x (kk (A.b+j)) (OO (A.b+j)) g') (hdry:(s.sh.ms=0->sh.ms=0)∨(mayWake P g=true∧g1.status = .running)) (sl:Option (Nat × Nat)) :
 ∃ ops m',runT P (crowd gs w sl) (A.b+j)=(.next m',ops)∧∃ s' f' q' kk' OO' J' M' gs' w'' sl',m'=crowd gs' w'' sl'∧MS.dR A.n s' s∧aW (bn P A Fin Z hZ) Z s' f' q' kk' OO' J' M' gs' w'' (t ++ ops):=by
 obtain⟨n,g',hsil,hat⟩:=hs;have hb:=A.hb;have B:=aJ (P:=P) (A:=A) (Fin:=Fin) (Z:=Z) hZ;have w1:=dS h1;have w2:=dS h2;have hE:bO P A Z s kk OO J M gs.size w t:=hC.ex;have hi0:(A.b+j == 0)=false:=by simp;omega
 have hrun:=runT_crowd_go (P:=P) (sl:=sl) (i:=A.b+j) hg (by rw[hi0];exact hst)
 have hbeg:be P A s (A.b+j):=eM hE.I hj (aK w1).2.2.2.2.1;obtain⟨y1,y2,y3⟩:=hE.Df hev hbeg g.frame.fn g.frame.place;have hops:∀ op∈MemOp.ofEvents (A.b+j) g.frame.fn g.frame.place es,op.g=A.b+j:=fun op hop=>by obtain⟨e,_,rfl⟩:=Go.Conc.mem_ofEvents hop;rfl
 obtain⟨m1,m2,c,e,c',m3,m4,_⟩:=jA hmw hE.pN;have hP:=hC.bp.sync (i:=A.b+j) (.inr ((hE.hJ _).2 (qm hj (aK w1).2.2.2.2.2.1))) hops m1 (hE.calm hmw) (hE.kept hmw) y2 y1;have hEx:bO P A Z (s.aC j x sh) kk OO J M gs.size w' (t ++ MemOp.ofEvents (A.b+j) g.frame.fn g.frame.place es):=hE.work hj w1 w2 ho hI hmu m2 ⟨c',e,m4⟩ y3
 have hbs:Beside (bn P A Fin Z hZ) s (s.aC j x sh) f f q (upd q (A.b+j) n) kk kk OO OO J J w' (A.b+j) g g1:=
  ib hZ hj w1 w2 (fun _ _=>rfl) (fun i hi=>upd_ne q n hi) (fun _ _ _=>rfl) (fun _ _ _=>rfl) (fun _ h=>h) hdry (fun {i k O y} hA=>B.je (s:=s) (i:=i) (k:=k) (O:=O) (g:=y) hA)
 have hwk:=fg (P:=P) (A:=A) (s:=s) hj h1;have hx':((s.aC j x sh).w j).gn=true:=by rw[aA];exact h2
 refine⟨_,_,hrun,s.aC j x sh,f,upd q (A.b+j) n,kk,OO,J,M,_,_,_,rfl,hL,?_⟩;refine aW.step B hC hg hops hP hEx (fun l y hl hA=>?_) hbs ⟨fun hl=>absurd hl (fC hj hx'),fun _=>⟨fC hj hx',?_,?_,g',?_,?_⟩,fun hh=>absurd hh (lC hj hx'),fun _ hn _=>absurd (fg hj hx') hn⟩
 . have hne:l≠A.b+j:=fun e=>(hC.held l hl).2.1 (by rw[e];exact hwk)
   exact B.oE hEx ((hbs.held l hne).2 hl) _ _ (hbs.HZ l _ _ _ hne hl hA)
 . show A.b+j<A.b+A.n+1;omega
 . obtain⟨_,_,hd0,_⟩:=hC.walk _ hwk
   rw[Deaf_own,hd0];show deafBehind (bF P A s (A.b+j)) es=bF P A (s.aC j x sh) (A.b+j);rw[cN hj,cN hj,aA];exact hd
 . exact .inr (.inl ⟨j,hj,rfl,by rw[aA];exact hat⟩)
 . exact .inr (by rw[upd_same];exact hsil)
end
end Go.aZ
namespace Go.aZ
open Go.Conc
open Go.ConcN (sumTo upd sumTo_upd upd_ne upd_same)
namespace Mu
section
variable {n:Nat} {pcs:Nat->Pc} {s:Sh} {i:Nat}
theorem Gd {f:Pc->Nat} (h:∀ p,f p≤1) (pcs:Nat->Pc) (n:Nat):dc n (fun i=>f (pcs i))≤n:=by
 have:=ya (f:=fun i=>f (pcs i)) (c:=1) (fun i=>h _) n
 omega
theorem Inv.LM (h:Inv n pcs s):s.w.N≤n+1∧s.ms≤1:=by
 have hp:=Gd (f:=bq) (fun p=>by cases p <;> simp[bq]) pcs n
 cases e:s.w.S with
 | false=>
   obtain⟨h1,_,h3⟩:=h.j2 e;have:s.w.K.toNat≤1:=by cases s.w.K <;> simp
   omega
 | true=>
   obtain⟨_,_,h3,h4⟩:=h.j3 e;have:(!s.w.L).toNat≤1:=by cases s.w.L <;> simp
   omega
theorem Inv.Ge (h:Inv n pcs s) (hi:i<n) (hp:pcs i = .held):s.w.L=true:=by
 have:bh (pcs i)≤dc n (fun j=>bh (pcs j)):=fe (fun j=>bh (pcs j)) hi
 rw[h.j1,hp,show bh .held=1 from rfl] at this
 cases e:s.w.L <;> simp_all
theorem Inv.H1 (h:Inv n pcs s) (hi:i<n) {old:Wd} {sv:Bool} (hp:pcs i = .add old sv):s.w.L=false∧s.w.S=true∧s.w.N≠0:=by
 have:bH (pcs i)≤dc n (fun j=>bH (pcs j)):=fe (fun j=>bH (pcs j)) hi
 rw[hp,show bH (.add old sv)=1 from rfl] at this
 cases e:s.w.S with
 | false=>obtain⟨_,h2,_⟩:=h.j2 e;omega
 | true=>
   obtain⟨_,_,h3,h4⟩:=h.j3 e;refine⟨?_,rfl,by omega⟩
   cases e2:s.w.L with
   | false=>rfl
   | true=>rw[e2] at h3;simp at h3;omega
end
def va:Pc->Bool
 | .rd _=>true | .sq .. => true | .sw .. => true | .im .. => true | .dM _=>true | .tq=>true | .up _=>true | .add .. => true | .held=>true|_=>false
def ym:Pc->Bool
 | .out=>true | .fG _=>true | .qa=>true | .give=>true|_=>false
theorem Ho (old:Wd) (l:Lo):va (nx old l)=true:=by unfold nx;split <;> rfl
theorem J3 {old:Wd} {l:Lo} {p:Pc} (h:p∈hd old l):va p=true:=by
 unfold hd at h;rw[List.mem_append] at h
 rcases h with h|h
 . split at h
   . rw[List.mem_singleton] at h;subst h;split <;> rfl
   . cases h
 . rw[List.mem_singleton] at h;subst h;rfl
theorem J4 {p q:Pc} {s s':Sh} (hp:p = .er∨(va p=true∧p ≠ .held)) (h:(q,s')∈mv p s) (hq:q ≠ .bad):va q=true:=by
 rcases hp with rfl|⟨hp,hne⟩
 . simp only[mv] at h
   split at h <;> (rw[List.mem_singleton,Prod.mk.injEq] at h;obtain⟨rfl,rfl⟩:=h;rfl)
 cases p <;> simp only[va,Bool.false_eq_true] at hp
 case rd l=>simp only[mv,List.mem_singleton,Prod.mk.injEq] at h;obtain⟨rfl,rfl⟩:=h;exact Ho _ _
 case sq old l=>simp only[mv,List.mem_map,Prod.mk.injEq] at h;obtain⟨a,h1,rfl,rfl⟩:=h;exact J3 h1
 case sw old l=>
  simp only[mv] at h;split at h <;> (rw[List.mem_singleton,Prod.mk.injEq] at h;obtain⟨rfl,rfl⟩:=h;rfl)
 case im old l=>
  simp only[mv] at h;split at h
  . rw[List.mem_singleton,Prod.mk.injEq] at h;exact absurd h.1 hq
  split at h
  . rw[List.mem_singleton,Prod.mk.injEq] at h;obtain⟨rfl,rfl⟩:=h;split <;> rfl
  . rw[List.mem_singleton,Prod.mk.injEq] at h;obtain⟨rfl,rfl⟩:=h;rfl
 case dM sv=>
  simp only[mv] at h;split at h
  . cases h
  . rw[List.mem_singleton,Prod.mk.injEq] at h;obtain⟨rfl,rfl⟩:=h;split <;> rfl
 case tq=>
  simp only[mv,List.mem_cons,Prod.mk.injEq,List.not_mem_nil,or_false] at h
  rcases h with ⟨rfl,rfl⟩|⟨rfl,rfl⟩ <;> rfl
 case up sv=>
  simp only[mv] at h;split at h
  . split at h
    . rw[List.mem_singleton,Prod.mk.injEq] at h;exact absurd h.1 hq
    . rw[List.mem_singleton,Prod.mk.injEq] at h;obtain⟨rfl,rfl⟩:=h;rfl
  . rw[List.mem_singleton,Prod.mk.injEq] at h;obtain⟨rfl,rfl⟩:=h;exact Ho _ _
 case add old sv=>simp only[mv,List.mem_singleton,Prod.mk.injEq] at h;obtain⟨rfl,rfl⟩:=h;rfl
 case held=>exact absurd rfl hne
theorem J5 {p q:Pc} {s s':Sh} (hp:p = .held∨(ym p=true∧p ≠ .out)) (h:(q,s')∈mv p s) (hq:q ≠ .bad):ym q=true:=by
 rcases hp with rfl|⟨hp,hne⟩
 . simp only[mv] at h
   split at h
   . rw[List.mem_singleton,Prod.mk.injEq] at h;exact absurd h.1 hq
   . rw[List.mem_singleton,Prod.mk.injEq] at h
     obtain⟨rfl,rfl⟩:=h;split
     . rfl
     split
     . rfl
     split <;> rfl
 cases p <;> simp only[ym,Bool.false_eq_true] at hp
 case out=>exact absurd rfl hne
 case fG old=>
  simp only[mv] at h;split at h <;> (rw[List.mem_singleton,Prod.mk.injEq] at h;obtain⟨rfl,rfl⟩:=h;rfl)
 case qa=>simp only[mv,List.mem_singleton,Prod.mk.injEq] at h;obtain⟨rfl,rfl⟩:=h;split <;> rfl
 case give=>simp only[mv,List.mem_singleton,Prod.mk.injEq] at h;obtain⟨rfl,rfl⟩:=h;rfl
theorem Hp {p q:Pc} {s s':Sh} (hp:p ≠ .give) (h:(q,s')∈mv p s) (h0:s.ms=0):s'.ms=0:=by
 cases p <;> simp only[mv] at h
 case out=>cases h
 case bad=>cases h
 case give=>exact absurd rfl hp
 case sq=>simp only[List.mem_map,Prod.mk.injEq] at h;obtain⟨a,h1,rfl,rfl⟩:=h;exact h0
 case tq=>simp only[List.mem_cons,Prod.mk.injEq,List.not_mem_nil,or_false] at h;rcases h with ⟨_,rfl⟩|⟨_,rfl⟩ <;> exact h0
 all_goals repeat' split at h
 all_goals first
  | (cases h;done)
  | (rw[List.mem_singleton,Prod.mk.injEq] at h;obtain⟨_,rfl⟩:=h;first|exact h0 | (show s.ms-1=0;omega))
end Mu
def oU:nE->Bool
 | .er=>true | .rd _=>true | .sq .. => true | .sw .. => true | .im .. => true | .dM _=>true | .tq=>true | .up _=>true | .add .. => true | .held=>true | .fG _=>true | .qa=>true | .give=>true
 | _=>false
theorem Dg {q:Mu.Pc} {p:nE} (h:To q p):p.abs=q:=by cases h <;> rfl
theorem J6 {q:Mu.Pc} {p:nE} (h:To q p) (hq:Mu.va q=true):wq p=true∧p ≠ .ld∧p ≠ .la:=by cases h <;> simp_all [Mu.va,wq]
theorem J7 {q:Mu.Pc} {p:nE} (h:To q p) (hq:Mu.ym q=true):sF p=true∧p ≠ .zq∧p ≠ .ur∧p ≠ .ud:=by cases h <;> simp_all [Mu.ym,sF]
theorem Dh {q:Mu.Pc} {p:nE} (h:To q p):q ≠ .bad:=by cases h <;> simp
section
variable {P:Program} {nm:tl} (C:fA P nm) (X:fB P nm) {n:Nat} {pcs:Nat->Mu.Pc} {s:Mu.Sh} {i:Nat} {p:nE} {b o:Nat} {kind:CallKind} {Wd:World->Prop} {cs:List Frame} {g:Goroutine} {w:World} {main:Bool}
include C X in
theorem wB (I:Mu.Inv n pcs s) (hi:i<n) (hn:n≤900) (hpc:pcs i=p.abs) (hm:oU p=true) (hs:ShM b o w s) (h:kq P nm b o kind p cs g) :
 jf P nm b o kind Wd cs g w main p.abs s∨((∃ sv,p = .dM sv)∧s.ms=0∧stepG P main g w = .go { g with status:=.blocked } w #[]):=by
 obtain⟨hN,hms⟩:=I.LM;have hb:s.w.N≤1000:=by omega
 have hl:∀ {q s'},(q,s')∈Mu.mv (pcs i) s->Mu.loc q:=fun {q s'} hm=>by
  have:=(I.step hi hm).j0 i hi
  rwa [Mu.ao] at this
 have h0:Mu.loc (pcs i):=I.j0 i hi;rw[hpc] at hl h0;cases p <;> simp only[oU,Bool.false_eq_true] at hm
 case er=>exact .inl (Aq C X hs h)
 case rd l=>exact .inl (F3 C X hs hb (hl (q:=Mu.nx s.w l) (s':=s) (by simp[nE.abs,Mu.mv])) h)
 case sq old l=>exact .inl (F4 C X hs h0 h)
 case sw old l=>exact .inl (F5 C X hs h0 h)
 case im old l=>exact .inl (C3 C X hs h0 h)
 case dM sv=>
  by_cases e:s.ms=0
  . exact .inr ⟨⟨sv,rfl⟩,e,wp C X hs e h⟩
  . exact .inl (Ar C X hs e h)
 case tq=>exact .inl (F6 C X hs h)
 case up sv=>exact .inl (F7 C X hs hb (fun q s' hq=>hl hq) h)
 case add old sv=>obtain⟨a1,a2,a3⟩:=I.H1 hi hpc;exact .inl (C4 C X hs hb a1 a2 a3 h)
 case held=>exact .inl (As C X hs hb (I.Ge hi hpc) h)
 case fG old=>exact .inl (Au C X hs h)
 case qa=>exact .inl (C5 C X hs hb h)
 case give=>exact .inl (Av C X hs (by omega) h)
end
end Go.aZ
namespace Go.aZ
open Go.Conc
open Go.ConcN (sumTo upd sumTo_upd upd_ne upd_same)
section
variable {P:Program} {A:cC} {Fin:ag->ah->Goroutine->Prop} {Z:Base} {s:MS P} {f:Nat->Node P} {q:Nat->Nat} {kk:Nat->ag} {OO:Nat->ah} {J M:Nat->Prop} {gs:Array Goroutine} {w:World} {t:Trace} {j:Nat} {g:Goroutine}
def Goes (P:Program) (A:cC) (Fin:ag->ah->Goroutine->Prop) (Z:Base) (hZ:A.b+A.n+1≤Z.lk) (s:MS P) (gs:Array Goroutine) (w:World) (t:Trace) (sl:Option (Nat × Nat)) (i:Nat):Prop:=
 ∃ ops m',runT P (crowd gs w sl) i=(.next m',ops)∧∃ s' f' q' kk' OO' J' M' gs' w'' sl',m'=crowd gs' w'' sl'∧MS.dR A.n s' s∧aW (bn P A Fin Z hZ) Z s' f' q' kk' OO' J' M' gs' w'' (t ++ ops)
def yn (P:Program) (A:cC) (s:MS P) (gs:Array Goroutine) (w:World) (sl:Option (Nat × Nat)) (i:Nat) (g:Goroutine):Prop:=
 HW P A s i∧runT P (crowd gs w sl) i=(.next (crowd (gs.setIfInBounds i (blk g)) w sl),#[])
theorem wC (hg:gs[A.b+j]? = some g) (hst:stepG P false g w = .go { g with status:=.blocked } w #[]) (sl:Option (Nat × Nat)):runT P (crowd gs w sl) (A.b+j)=(.next (crowd (gs.setIfInBounds (A.b+j) (blk g)) w sl),#[]):=by
 have hb:=A.hb;have hi0:(A.b+j == 0)=false:=by simp;omega
 have h:=runT_crowd_go (P:=P) (sl:=sl) (i:=A.b+j) hg (by rw[hi0];exact hst)
 have hid:woken P g { g with status:=.blocked } w=id:=funext fun o=>by
  unfold Go.Conc.woken;simp
 rw[hid,Array.map_id] at h;exact h
variable (C:fA P A.nm) (X:fB P A.nm)
include C X in
theorem Gf (hZ:A.b+A.n+1≤Z.lk) (hC:aW (bn P A Fin Z hZ) Z s f q kk OO J M gs w t) (hj:j<A.n) {p:nE} {Y:rl P} (hw:s.w j = .lk p Y) (hg:gs[A.b+j]? = some g) (hat:Az P A j (.lk p Y) (kk (A.b+j)) (OO (A.b+j)) g) (hla:p ≠ .la) (sl:Option (Nat × Nat)) :
 Goes P A Fin Z hZ s gs w t sl (A.b+j)∨yn P A s gs w sl (A.b+j) g:=by
 have hE:bO P A Z s kk OO J M gs.size w t:=hC.ex;have hok:wq p=true:=by have:=hE.I.ok j hj;rw[hw] at this;exact this
 have h1:(s.w j).gn=true:=by rw[hw];rfl
 have w1:=dS h1;have hpc:(s.w j).pc=p.abs:=by rw[hw];rfl
 have hn:=A.hn;have hb:=A.hb;have hi0:(A.b+j == 0)=false:=by simp;omega
 obtain⟨kind,c,rest,e,hk,hM,hm,hO,hsh,hN⟩:=hat
 by_cases hmv:oU p=true
 . rcases wB (Wd:=iV A) (main:=false) C X hE.I.mu hj hn hpc hmv hE.mu hM with ⟨g1,w',es,qq,s',p',hst,hmm,hto,⟨hr,g2,⟨k,hsil⟩,hA⟩,hmw,hsm,hev,hdf⟩|⟨⟨sv,rfl⟩,h0,hst⟩
   . left
     have hlk:Mu.va qq=true:=Mu.J4 (by cases p <;> simp_all [wq,oU,nE.abs,Mu.va]) hmm (Dh hto)
     obtain⟨k1,k2,k3⟩:=J6 hto hlk;have hmm':((aM.lk p' Y).pc,s')∈Mu.mv (s.w j).pc s.sh:=by rw[hpc,show (aM.lk p' Y).pc=p'.abs from rfl,Dg hto];exact hmm
     have hd1:(s.w j).deaf=1:=by rw[hw];cases p <;> simp_all [aM.deaf,oU,wq]
     have hd2:(aM.lk p' Y).deaf=1:=by cases p' <;> simp_all [aM.deaf]
     refine rp (x:=.lk p' Y) hZ hC hj h1 rfl (by rw[hw];rfl) (hE.I.mv hj w1 rfl k1 hmm') (zJ hE.I hj w1 rfl (by rw[hw];rfl) hmm' ?_) hg hst hmw hsm hev (by rw[hdf,hd1,hd2]) ⟨k,g2,hsil,kind,c,rest,e,hk,hA,hm,hO,hsh,hN⟩ (.inl fun h0=>Mu.Hp ?_ hmm h0) sl
     . cases p' <;> simp_all [aM.ex]
     . cases p <;> simp_all [oU,wq,nE.abs]
   . right
     exact⟨.inl ⟨j,sv,Y,hj,rfl,hw,h0⟩,wC hg hst sl⟩
 . cases p <;> simp only[oU,wq,not_true_eq_false,Bool.false_eq_true] at hmv hok
   case ld=>
    obtain⟨g1,hst,hr,g2,⟨k,hsil⟩,hA⟩:=uT (Wd:=iV A) (main:=false) (w:=w) C X hM;left;exact rp (x:=.lk .er Y) (sh:=s.sh) hZ hC hj h1 rfl (by rw[hw];rfl) (hE.I.MX hj w1 rfl rfl hpc rfl) (De hj w1 rfl (by rw[hw];rfl) hpc rfl (by rw[hw];rfl) rfl) hg hst (aI rfl) hE.mu (fun e he=>by simp at he;subst he;exact .inl (.inl rfl)) (by rw[hw];rfl) ⟨k,g2,hsil,kind,c,rest,e,hk,hA,hm,hO,hsh,hN⟩ (.inl fun h0=>h0) sl
   case t1 sv=>
    obtain⟨g1,hst,hr,g2,⟨k,hsil⟩,hA⟩:=F0 (Wd:=iV A) (main:=false) (w:=w) C X hM;left;exact rp (x:=.lk (.dM sv) Y) (sh:=s.sh) hZ hC hj h1 rfl (by rw[hw];rfl) (hE.I.still hj w1 rfl rfl (by rw[hpc];rfl)) (jh hj w1 rfl (by rw[hw];rfl) (by rw[hpc];rfl) (by rw[hw];simp[aM.ex])) hg hst (aI rfl ⟨⟨w.tick,rfl⟩,rfl⟩) (hE.mu.heap rfl) dv (by rw[hw];rfl) ⟨k,g2,hsil,kind,c,rest,e,hk,hA,hm,hO,hsh,hN⟩ (.inl fun h0=>h0) sl
   case le=>
    obtain⟨g1,hst,hr,g2,⟨k,hsil⟩,hA⟩:=zx (Wd:=iV A) (main:=false) (w:=w) C X (fun w h=>h.2.2) hM
    left;exact rp (x:=.lk .la Y) (sh:=s.sh) hZ hC hj h1 rfl (by rw[hw];rfl) (hE.I.still hj w1 rfl rfl (by rw[hpc];rfl)) (jh hj w1 rfl (by rw[hw];rfl) (by rw[hpc];rfl) (by rw[hw];simp[aM.ex])) hg hst (aI rfl) hE.mu (fun e he=>by simp at he;subst he;exact .inl (.inr rfl)) (by rw[hw];rfl) ⟨k,g2,hsil,kind,c,rest,e,hk,hA,hm,hO,hsh,hN⟩ (.inl fun h0=>h0) sl
   case la=>exact absurd rfl hla
end
section
variable {P:Program} {A:cC} {Fin:ag->ah->Goroutine->Prop} {Z:Base} {s:MS P} {f:Nat->Node P} {q:Nat->Nat} {kk:Nat->ag} {OO:Nat->ah} {J M:Nat->Prop} {gs:Array Goroutine} {w:World} {t:Trace} {j:Nat} {g:Goroutine}
variable (C:fA P A.nm) (X:fB P A.nm)
include C X in
theorem Gg (hZ:A.b+A.n+1≤Z.lk) (hC:aW (bn P A Fin Z hZ) Z s f q kk OO J M gs w t) (hj:j<A.n) {p:nE} {Y:rl P} (hw:s.w j = .un p Y) (hg:gs[A.b+j]? = some g) (hat:Az P A j (.un p Y) (kk (A.b+j)) (OO (A.b+j)) g) (hur:p ≠ .ur) (hue:p ≠ .ue) (sl:Option (Nat × Nat)) :
 Goes P A Fin Z hZ s gs w t sl (A.b+j):=by
 have hE:bO P A Z s kk OO J M gs.size w t:=hC.ex;have hok:sF p=true:=by have:=hE.I.ok j hj;rw[hw] at this;exact this
 have h1:(s.w j).gn=true:=by rw[hw];rfl
 have w1:=dS h1;have hpc:(s.w j).pc=p.abs:=by rw[hw];rfl
 have hn:=A.hn;have hb:=A.hb;obtain⟨kind,c,rest,hk,hM,hm,hA1,hA2⟩:=hat
 by_cases hmv:oU p=true
 . have hno : ¬ (p = .zq∨p = .ur):=by rintro (rfl|rfl) <;> cases hmv
   have hN:=hA2 hno
   rcases wB (Wd:=iV A) (main:=false) C X hE.I.mu hj hn hpc hmv hE.mu hM with ⟨g1,w',es,qq,s',p',hst,hmm,hto,⟨hr,g2,⟨k,hsil⟩,hA⟩,hmw,hsm,hev,hdf⟩|⟨⟨sv,rfl⟩,h0,hst⟩
   . have hlk:Mu.ym qq=true:=Mu.J5 (by cases p <;> simp_all [sF,oU,nE.abs,Mu.ym]) hmm (Dh hto)
     obtain⟨k1,k2,k3,k4⟩:=J7 hto hlk;have hmm':((aM.un p' Y).pc,s')∈Mu.mv (s.w j).pc s.sh:=by rw[hpc,show (aM.un p' Y).pc=p'.abs from rfl,Dg hto];exact hmm
     have hd1:(s.w j).deaf=1:=by rw[hw];cases p <;> simp_all [aM.deaf,oU,sF]
     have hd2:(aM.un p' Y).deaf=1:=by cases p' <;> simp_all [aM.deaf]
     have ho1:(s.w j).owns=false:=by rw[hw];cases p <;> simp_all [aM.owns,oU,sF]
     have ho2:(aM.un p' Y).owns=false:=by cases p' <;> simp_all [aM.owns]
     refine rp (x:=.un p' Y) hZ hC hj h1 rfl (by rw[ho1,ho2]) (hE.I.mv hj w1 rfl k1 hmm') (zJ hE.I hj w1 rfl (by rw[hw];rfl) hmm' ?_) hg hst hmw hsm hev (by rw[hdf,hd1,hd2]) ⟨k,g2,hsil,kind,c,rest,hk,hA,hm,fun h=>absurd h (fun h=>h.elim k2 k3),fun _=>hN⟩ ?_ sl
     . cases p' <;> simp_all [aM.ex]
     . by_cases hgv:p = .give
       . subst hgv;exact .inr ⟨AA C X hM,hr⟩
       . refine .inl fun h0=>Mu.Hp ?_ hmm h0
         cases p <;> simp_all [oU,sF,nE.abs]
   . exact absurd hok (by simp[sF])
 . cases p <;> simp only[oU,sF,not_true_eq_false,Bool.false_eq_true] at hmv hok
   case zq=>
    obtain⟨v,hv⟩:=((aJ (P:=P) (A:=A) (Fin:=Fin) (Z:=Z) hZ).wd hE).2.2;obtain⟨g1,hst,hr,g2,⟨k,hsil⟩,hA⟩:=rf (Wd:=iV A) (main:=false) (w:=w) C X (fun w h=>h.2.2) hv hM
    exact rp (x:=.un .ur Y) (sh:=s.sh) hZ hC hj h1 rfl (by rw[hw];rfl) (hE.I.still hj w1 rfl rfl (by rw[hpc];rfl)) (jh hj w1 rfl (by rw[hw];rfl) (by rw[hpc];rfl) (by rw[hw];simp[aM.ex])) hg hst (aI rfl) hE.mu dv (by rw[hw];rfl) ⟨k,g2,hsil,kind,c,rest,hk,hA,hm,fun _=>hA1 (.inl rfl),fun h=>absurd (.inr rfl) h⟩ (.inl fun h0=>h0) sl
   case ud=>
    have hN:=hA2 (by rintro (h|h) <;> cases h)
    obtain⟨g1,hst,hr,g2,⟨k,hsil⟩,hA⟩:=zt (Wd:=iV A) (main:=false) (w:=w) C X hM;exact rp (x:=.un .held Y) (sh:=s.sh) hZ hC hj h1 rfl (by rw[hw];rfl) (hE.I.still hj w1 rfl rfl (by rw[hpc];rfl)) (jh hj w1 rfl (by rw[hw];rfl) (by rw[hpc];rfl) (by rw[hw];simp[aM.ex])) hg hst (aI rfl) hE.mu (fun e he=>by simp at he;subst he;exact .inl (.inl rfl)) (by rw[hw];rfl) ⟨k,g2,hsil,kind,c,rest,hk,hA,hm,fun h=>absurd h (by simp),fun _=>hN⟩ (.inl fun h0=>h0) sl
   case ur=>exact absurd rfl hur
   case ue=>exact absurd rfl hue
end
def TT.H2 {P:Program} {m:Mo} {K:ag} {O:ah} {g1 g2:Goroutine} (h:mS P (fun _=>True) g1 g2) (T':TT P m K O g2):TT P m K O g1:=
 .step (fun k' O' g'=>k'=K∧O'=O∧g'=g2) h.1 (fun k' O' g' hn=>by obtain⟨rfl,rfl,rfl⟩:=hn;exact T') (fun w hw=>⟨g2,w,#[],K,O,h.2 _ w trivial,Eff.refl _ _ _,hw,rfl,rfl,rfl⟩)
theorem TT.wD {P:Program} {m:Mo} {K:ag} {O:ah} {g1 g2:Goroutine} (h:mS P (fun _=>True) g1 g2) (T':TT P m K O g2) {z:Node P} (hz:kW z ⟨m,K,O,g1,TT.H2 h T'⟩):z=⟨m,K,O,g2,T'⟩:=by
 unfold TT.H2 at hz;cases hz with
 | step _ _ _ _ hn=>obtain⟨rfl,rfl,rfl⟩:=hn;rfl
theorem TT.pre {P:Program} {m:Mo} {K:ag} {O:ah}:∀ {k:Nat} {g1 gB:Goroutine},gZ P (fun _=>True) k g1 gB->(X:TT P m K O gB)->∃ T:TT P m K O g1,pP ⟨m,K,O,g1,T⟩ ⟨m,K,O,gB,X⟩
 | 0,g1,gB,h,X=>by
   obtain rfl:g1=gB:=h;exact⟨X,.refl _⟩
 | k + 1,g1,gB,⟨g2,h1,h⟩,X=>by
   obtain⟨T',hU⟩:=TT.pre h X;refine⟨TT.H2 h1 T',fun y hy ht=>?_⟩
   rcases hy with rfl|hy
   . exact ht.elim
   . have:y=⟨m,K,O,g2,T'⟩∨Relation.TransGen kW y ⟨m,K,O,g2,T'⟩:=by
      cases hy with
      | single h=>exact .inl (TT.wD h1 T' h)
      | tail h1' h2=>
        have e:=TT.wD h1 T' h2;rw[e] at h1';exact .inr h1'
     exact hU y this ht
section
variable {P:Program} {A:cC} {Fin:ag->ah->Goroutine->Prop} {Z:Base} {s:MS P} {f:Nat->Node P} {q:Nat->Nat} {kk:Nat->ag} {OO:Nat->ah} {J M:Nat->Prop} {gs:Array Goroutine} {w:World} {t:Trace} {j:Nat} {g:Goroutine}
theorem ig (hj:j<A.n) {h:Bool} {X:Node P} (e:s.w j = .run h X):bW P A s (A.b+j):=.inr (.inl ⟨j,hj,rfl,by rw[e];trivial⟩)
theorem oV (hj:j<A.n) {h:Bool} {X:Node P} (e:s.w j = .run h X) : ¬ di P A s (A.b+j):=by
 have:=A.hb
 rintro (⟨e,_⟩|⟨l,h1,h2,h3⟩|⟨e,_⟩)
 . omega
 . obtain rfl:l=j:=by omega
   rw[e] at h3;exact h3
 . omega
theorem gK (hj:j<A.n) {h:Bool} {X:Node P} (e:s.w j = .run h X) : ¬ cL P A s (A.b+j):=by
 have:=A.hb
 rintro (⟨e,_⟩|⟨l,h1,h2,h3⟩)
 . omega
 . obtain rfl:l=j:=by omega
   rw[e] at h3;cases h3
theorem kg (hj:j<A.n) {h:Bool} {X:Node P} (e:s.w j = .run h X):aY P A Fin s (A.b+j)=iK P A j:=by
 have:=A.hb;unfold aY;rw[if_neg (by omega),if_pos (by omega)]
 have e2:A.b+j-A.b=j:=by omega
 rw[e2,e]
variable (C:fA P A.nm) (X:fB P A.nm) (F:mV P A.nm)
include C X F in
theorem Gh (hZ:A.b+A.n+1≤Z.lk) (hC:aW (bn P A Fin Z hZ) Z s f q kk OO J M gs w t) (hj:j<A.n) {Y:rl P} (hw:s.w j = .un .ue Y) (hg:gs[A.b+j]? = some g) (hat:Az P A j (.un .ue Y) (kk (A.b+j)) (OO (A.b+j)) g) (sl:Option (Nat × Nat)) :
 Goes P A Fin Z hZ s gs w t sl (A.b+j):=by
 have hE:bO P A Z s kk OO J M gs.size w t:=hC.ex;have B:=aJ (P:=P) (A:=A) (Fin:=Fin) (Z:=Z) hZ;have h1:(s.w j).gn=true:=by rw[hw];rfl
 have w1:=dS h1;have hb:=A.hb;have hi0:(A.b+j == 0)=false:=by simp;omega
 obtain⟨kind,c,rest,hk,hM,hm,hA1,hA2⟩:=hat;have hN:=hA2 (by simp)
 obtain⟨g1,hst,hr,g2,hsil,hA⟩:=zu (Wd:=fun _=>True) (main:=false) (w:=w) C X hM
 obtain⟨k,hk2⟩:=hsil.trans (ly F hA hk);obtain⟨T,hU⟩:=TT.pre hk2 (Y.c _ _ _ hN);obtain⟨x,hx⟩:∃ x:aM P,x = .run false ⟨Y.m,kk (A.b+j),OO (A.b+j),_,Y.c _ _ _ hN⟩:=⟨_,rfl⟩;have w2:x.work=true:=by rw[hx];rfl
 have hsx:∀ sh,((s.aC j x sh).w j) = .run false ⟨Y.m,kk (A.b+j),OO (A.b+j),_,Y.c _ _ _ hN⟩:=fun sh=>by rw[aA,hx]
 have hev:EvM A.fb A.fo #[⟨.mark .enable,false,true⟩]:=fun e he=>by simp at he;subst he;exact .inl (.inr rfl)
 have hrun:=runT_crowd_go (P:=P) (sl:=sl) (i:=A.b+j) hg (by rw[hi0];exact hst)
 have hbeg:be P A s (A.b+j):=eM hE.I hj (aK w1).2.2.2.2.1;obtain⟨y1,y2,y3⟩:=hE.Df hev hbeg g.frame.fn g.frame.place;have hops:∀ op∈MemOp.ofEvents (A.b+j) g.frame.fn g.frame.place #[⟨.mark .enable,false,true⟩],op.g=A.b+j:=fun op hop=>by obtain⟨e,_,rfl⟩:=Go.Conc.mem_ofEvents hop;rfl
 have hJ:J (A.b+j):=(hE.hJ _).2 (qm hj (aK w1).2.2.2.2.2.1);have hP:=hC.bp.sync (i:=A.b+j) (.inr hJ) hops rfl ⟨⟨.refl _,rfl⟩,fun _ _=>rfl⟩ (fun b => .inl rfl) y2 y1
 have hI:bd A.n (s.aC j x s.sh):=hE.I.still hj w1 w2 (by rw[hx];rfl) (by rw[hx,hw];rfl)
 have hL:MS.dR A.n (s.aC j x s.sh) s:=u0 hj w1 w2 ⟨_,_,by rw[hx];rfl,by rw[hw];rfl,.single (kW.bV Y.N Y.h0 Y.ht Y.c hN)⟩
 have hEx:bO P A Z (s.aC j x s.sh) kk OO J M gs.size w (t ++ MemOp.ofEvents (A.b+j) g.frame.fn g.frame.place #[⟨.mark .enable,false,true⟩]):=hE.work hj w1 w2 (by rw[hx,hw];rfl) hI hE.mu (fun _ _=>rfl) hE.pN y3
 have hbs:Beside (bn P A Fin Z hZ) s (s.aC j x s.sh) f (ba f (A.b+j) ⟨Y.m,kk (A.b+j),OO (A.b+j),g1,T⟩) q q kk kk OO OO J J w (A.b+j) g g1:=
  ib hZ hj w1 w2 (fun i hi=>an _ _ hi) (fun i hi=>rfl) (fun _ _ _=>rfl) (fun _ _ _=>rfl) (fun _ h=>h) (.inl fun h=>h) (fun {i k O y} hA=>B.je (s:=s) (i:=i) (k:=k) (O:=O) (g:=y) hA)
 have hwk:=fg (P:=P) (A:=A) (s:=s) hj h1;refine⟨_,_,hrun,s.aC j x s.sh,ba f (A.b+j) ⟨Y.m,kk (A.b+j),OO (A.b+j),g1,T⟩,q,kk,OO,J,M,_,_,_,rfl,hL,?_⟩;refine aW.step B hC hg hops hP hEx (fun l y hl hA=>?_) hbs ⟨fun _=>?_,fun h=>absurd h (oV hj (hsx _)),fun h=>absurd h (gK hj (hsx _)),fun h=>absurd (ig hj (hsx _)) h⟩
 . have hne:l≠A.b+j:=fun e=>(hC.held l hl).2.1 (by rw[e];exact hwk)
   exact B.oE hEx ((hbs.held l hne).2 hl) _ _ (hbs.HZ l _ _ _ hne hl hA)
 . rw[aj]
   refine⟨by show A.b+j<A.b+A.n+1;omega,rfl,?_,rfl,rfl,hr,?_,.inr hJ,fun l b X' h3 h4 h5=>?_⟩
   . show Y.m=aY P A Fin (s.aC j x s.sh) (A.b+j)
     rw[kg hj (hsx _)];exact hm
   . obtain⟨_,_,hd0,_⟩:=hC.walk _ hwk
     rw[Deaf_own,hd0];show deafBehind (bF P A s (A.b+j)) _=0;rw[cN hj,hw];rfl
   . obtain rfl:l=j:=by omega
     rw[hsx] at h5;cases h5;exact hU
end
section
variable {Z:Base} {kk:Nat->ag} {OO:Nat->ah} {J M:Nat->Prop} {w:World} {t:Trace}
theorem rq {O:ah} {b c n:Nat} (hc:aG (O.set b (.part nJ)) c n):aG O c n:=by
 by_cases hcb:c=b
 . subst hcb
   rcases hc with ⟨o,q⟩|⟨m,q,_⟩|⟨g,q,hg⟩
   . simp[ah.set] at q
   . simp[ah.set] at q
   . simp only[ah.set,if_true,Option.some.injEq,Own.part.injEq] at q
     subst q;exact absurd rfl hg
 . simpa[aG,ah.set,hcb] using hc
theorem bm.token (h:bm Z kk OO J M w t) {j b:Nat} (hb:∀ i,OO i b=none) (hw:∃ c e,w.heap[b]? = some (.cells c e (0,0))∧(kk j).sh b=some (e,c.size)) (hlow:Z.W0.heap.size≤b) :
 bm Z kk (ba OO j ((OO j).set b (.part nJ))) J M w t:=by
 have hcov:∀ i c n,aG (ba OO j ((OO j).set b (.part nJ)) i) c n->aG (OO i) c n:=fun i c n hc=>by
  by_cases hi:i=j
  . subst hi;rw[aj] at hc;exact rq hc
  . rw[an _ _ hi] at hc;exact hc
 have hobj:∀ i c o,ba OO j ((OO j).set b (.part nJ)) i c=some (.obj o)->OO i c=some (.obj o):=fun i c o hc=>by
  by_cases hi:i=j
  . subst hi
    rw[aj] at hc
    by_cases hcb:c=b
    . subst hcb;simp[ah.set] at hc
    . simpa[ah.set,hcb] using hc
  . rw[an _ _ hi] at hc;exact hc
 have hS:Sat (kk j) ((OO j).set b (.part nJ)) w:=by
  refine⟨fun c n v hv hc=>(h.sat j).apart c n v hv (rq hc),(h.sat j).cell,(h.sat j).sh,fun c o hc=>?_,fun c n hc=>?_,fun c g hc=>?_⟩
  . by_cases hcb:c=b
    . subst hcb;simp[ah.set] at hc
    . exact (h.sat j).obj c o (by simpa[ah.set,hcb] using hc)
  . by_cases hcb:c=b
    . subst hcb;simp[ah.set] at hc
    . exact (h.sat j).tail c n (by simpa[ah.set,hcb] using hc)
  . by_cases hcb:c=b
    . subst hcb
      simp only[ah.set,if_true,Option.some.injEq,Own.part.injEq] at hc;subst hc;obtain⟨c',e,h1,h2⟩:=hw;exact⟨c',e,h1,h2,fun n v hv=>by cases hv⟩
    . exact (h.sat j).part c g (by simpa[ah.set,hcb] using hc)
 refine⟨fun i=>?_,fun i l c x hij hx=>?_,fun i l c n v hij hv hc=>h.ka i l c n v hij hv (hcov i c n hc),fun i n a ha hm=>?_,h.clean,h.seen,h.acc,h.n0,h.qX,fun a ha=>⟨(h.gX a ha).1,fun i=>⟨fun hc=>((h.gX a ha).2 i).1 (hcov i _ _ hc),((h.gX a ha).2 i).2⟩⟩,fun r hr=>⟨(h.kb r hr).1,fun i o hc=>(h.kb r hr).2 i o (hobj i r o hc)⟩,h.sC,fun i c x hc=>?_⟩
 . by_cases hi:i=j
   . subst hi;rw[aj];exact hS
   . rw[an _ _ hi];exact h.sat i
 . by_cases hcb:c=b
   . subst hcb
     by_cases hl:l=j
     . subst hl
       rw[an _ _ hij,hb i] at hx;cases hx
     . rw[an _ _ hl];exact hb l
   . have e:∀ l,ba OO j ((OO j).set b (.part nJ)) l c=OO l c:=fun l=>by
      by_cases hl:l=j
      . subst hl;rw[aj];simp[ah.set,hcb]
      . rw[an _ _ hl]
     rw[e] at hx ⊢;exact h.fR i l c x hij hx
 . rcases h.uN i n a ha hm with h1|h1
   . exact .inl h1
   . refine .inr ?_
     unfold kV at h1 ⊢;split
     . next ad hl=>rw[hl] at h1;exact⟨h1.1,fun hc=>h1.2.1 (hcov i _ _ hc),h1.2.2⟩
     . next r hl=>rw[hl] at h1;exact⟨h1.1,fun o hc=>h1.2 o (hobj i r o hc)⟩
     . trivial
 . by_cases hi:i=j
   . subst hi
     rw[aj] at hc
     by_cases hcb:c=b
     . subst hcb;exact hlow
     . exact h.mine i c x (by simpa[ah.set,hcb] using hc)
   . rw[an _ _ hi] at hc;exact h.mine i c x hc
end
section
variable {Z:Base} {kk:Nat->ag} {OO:Nat->ah} {J M:Nat->Prop} {w:World} {t:Trace}
def fU (kk:Nat->ag) (lk i:Nat):Nat->ag:=ba kk i ((kk i).join (kk lk))
def eC (OO:Nat->ah) (lk i mb:Nat) (x:Own):Nat->ah:=ba (ba OO i ((OO i).set mb x)) lk ah.bot
theorem bm.J8 (h:bm Z kk OO J M w t) {i mb:Nat} {x:Own} (hi:i≠Z.lk) (hx:OO Z.lk mb=some x) (ho:∀ c,OO Z.lk c≠none->c=mb) (hla:Z.la.block<w.heap.size) (hd:Deaf t i=0) (hold:∀ m a,m<Z.N0->touchAt t m=some a->a.loc.isMemory=true -> ¬ Z.Shun a.loc->Knows t i m) (hnr:∀ m a,Z.N0≤m->t.act? m≠some (.mark (.release a))) (fn:FuncId) (pos:String) :
 bm Z (fU kk Z.lk i) (eC OO Z.lk i mb x) J M w (t ++ MemOp.ofEvents i fn pos #[⟨.mark (.acquire Z.la),false,true⟩]):=by
 obtain⟨u,hu⟩:∃ u,u=MemOp.ofEvents i fn pos #[⟨.mark (.acquire Z.la),false,true⟩]:=⟨_,rfl⟩;have hu':u=#[⟨i,fn,pos,.mark (.acquire Z.la)⟩]:=by rw[hu,ofEvents_eq];simp[MemAct.ofEvent]
 rw[← hu];have hloud:i9 u:=fun op hop=>by rw[hu'] at hop;simp at hop;subst hop;simp
 have hnt:∀ op∈u,op.act.touch? = none:=fun op hop=>by rw[hu'] at hop;simp at hop;subst hop;rfl
 have hops:∀ op∈u,op.g=i:=fun op hop=>by rw[hu'] at hop;simp at hop;subst hop;rfl
 have hnr':∀ m a,Z.N0≤m->(t ++ u).act? m≠some (.mark (.release a)):=fun m a hm e=>by
  rcases oT e with ⟨h1,_⟩|⟨op,hop,h1⟩
  . exact hnr m a hm h1
  . rw[hu'] at hop;simp at hop;subst hop;simp at h1
 have hOi:OO i mb=none:=h.fR Z.lk i mb x (Ne.symm hi) hx;have eK:∀ l,l≠i->fU kk Z.lk i l=kk l:=fun l hl=>an _ _ hl
 have eKi:fU kk Z.lk i i=(kk i).join (kk Z.lk):=aj _ _ _;have eO:∀ l,l≠i->l≠Z.lk->eC OO Z.lk i mb x l=OO l:=fun l h1 h2=>by unfold eC;rw[an _ _ h2,an _ _ h1]
 have eOi:eC OO Z.lk i mb x i=(OO i).set mb x:=by unfold eC;rw[an _ _ hi,aj]
 have eOl:eC OO Z.lk i mb x Z.lk=ah.bot:=by unfold eC;rw[aj]
 refine h.oB (fun a b=>a=b∨(a=Z.lk∧b=i)) rfl ⟨⟨.refl _,rfl⟩,fun _ _=>rfl⟩ (fun b => .inl rfl) (fun op hop=>by rw[hu'] at hop;simp at hop;subst hop;simpa[MemAct.low] using hla) (fun a b e n y hta hm hz hk=>?_) (fun l b n v hv=>?_) (fun l b sv hv=>?_) (fun l b y hy=>?_) (fun a l b y hal hy=>?_)
  (fun said=>noRace_append (h.clean said) hops fun n a ha op hop b hb _=>by rw[hnt op hop] at hb;cases hb) (fun op hop a ha=>by rw[hnt op hop] at ha;cases ha) (fun m op a hop ha=>by rw[hnt op (Array.mem_of_getElem? hop)] at ha;cases ha)
  (fun n a ha hm h=>h.elim (fun ⟨j,h1,h2⟩ => .inr (.inl ⟨j,h1,h2.app _⟩)) (fun ⟨p,h1,h2⟩ => .inr (.inr (.inl ⟨p,h1,h2.app _⟩))))
 . rcases e with rfl|⟨rfl,rfl⟩
   . exact hk.app u
   . refine (kz hi).2 ?_
     unfold Ak at hk;rw[if_pos rfl] at hk
     rcases hk with hk|⟨p,h0,h1,h2,h3⟩
     . exact (hold n y hk hta hm hz).app u
     . exact mn (y:=⟨b,fn,pos,.mark (.acquire Z.la)⟩) (m:=0) hloud (by rw[hu'];rfl) rfl hd h1 h2 (fun k hk=>hnr' k _ (by omega)) h3
 . by_cases e:l=i
   . subst e;rw[eKi] at hv
     exact (ag.iS hv).elim (fun h=>⟨l,.inl rfl,h⟩) (fun h=>⟨Z.lk,.inr ⟨rfl,rfl⟩,h⟩)
   . rw[eK l e] at hv;exact⟨l,.inl rfl,hv⟩
 . by_cases e:l=i
   . subst e;rw[eKi] at hv
     exact (ag.uM hv).elim (fun h=>⟨l,.inl rfl,h⟩) (fun h=>⟨Z.lk,.inr ⟨rfl,rfl⟩,h⟩)
   . rw[eK l e] at hv;exact⟨l,.inl rfl,hv⟩
 . by_cases e:l=i
   . subst e;rw[eOi] at hy
     by_cases eb:b=mb
     . subst eb
       simp only[ah.set,if_true,Option.some.injEq] at hy;subst hy;exact⟨Z.lk,.inr ⟨rfl,rfl⟩,hx,fun sv hs=>by rw[eKi];exact (ag.lq (h.sat l) (h.sat Z.lk)).2 b sv hs⟩
     . simp only[ah.set,eb,if_false] at hy
       exact⟨l,.inl rfl,hy,fun sv hs=>by rw[eKi];exact (ag.jw _ _).2 b sv hs⟩
   . by_cases e2:l=Z.lk
     . subst e2;rw[eOl] at hy;cases hy
     . rw[eO l e e2] at hy;exact⟨l,.inl rfl,hy,fun sv hs=>by rw[eK l e];exact hs⟩
 . by_cases ea2:a=Z.lk
   . subst ea2;rw[eOl] at hy;cases hy
   by_cases el2:l=Z.lk
   . subst el2;rw[eOl];rfl
   by_cases ea:a=i
   . subst ea
     rw[eOi] at hy;rw[eO l (Ne.symm hal) el2]
     by_cases eb:b=mb
     . subst eb;exact h.fR Z.lk l b x (Ne.symm el2) hx
     . simp only[ah.set,eb,if_false] at hy;exact h.fR a l b y hal hy
   . rw [eO a ea ea2] at hy
     by_cases el:l=i
     . subst el
       rw[eOi]
       by_cases eb:b=mb
       . subst eb
         have:=h.fR Z.lk a b x (Ne.symm ea2) hx;rw[hy] at this;cases this
       . simp only[ah.set,eb,if_false];exact h.fR a l b y hal hy
     . rw[eO l el el2];exact h.fR a l b y hal hy
end
section
variable {Z:Base} {kk:Nat->ag} {OO:Nat->ah} {J M:Nat->Prop} {w:World} {t:Trace}
def kF (kk:Nat->ag) (lk i:Nat):Nat->ag:=ba kk lk (kk i)
def dw (OO:Nat->ah) (lk i mb fb:Nat) (x:Own):Nat->ah:=ba (ba OO i (((OO i).del mb).del fb)) lk (ah.bot.set mb x)
theorem bm.J9 (h:bm Z kk OO J M w t) {i mb fb:Nat} {x:Own} (hi:i≠Z.lk) (hx:OO i mb=some x) (ho:∀ c,OO Z.lk c=none) (hla:Z.la.block<w.heap.size) (hd:Deaf t i=0) (fn:FuncId) (pos:String) :
 bm Z (kF kk Z.lk i) (dw OO Z.lk i mb fb x) J M w (t ++ MemOp.ofEvents i fn pos #[⟨.mark (.releaseMerge Z.la),false,true⟩]):=by
 obtain⟨u,hu⟩:∃ u,u=MemOp.ofEvents i fn pos #[⟨.mark (.releaseMerge Z.la),false,true⟩]:=⟨_,rfl⟩;have hu':u=#[⟨i,fn,pos,.mark (.releaseMerge Z.la)⟩]:=by rw[hu,ofEvents_eq];simp[MemAct.ofEvent]
 rw[← hu];have hloud:i9 u:=fun op hop=>by rw[hu'] at hop;simp at hop;subst hop;simp
 have hnt:∀ op∈u,op.act.touch? = none:=fun op hop=>by rw[hu'] at hop;simp at hop;subst hop;rfl
 have hops:∀ op∈u,op.g=i:=fun op hop=>by rw[hu'] at hop;simp at hop;subst hop;rfl
 have hu0:u[0]? = some ⟨i,fn,pos,.mark (.releaseMerge Z.la)⟩:=by rw[hu'];rfl
 have eK:∀ l,l≠Z.lk->kF kk Z.lk i l=kk l:=fun l hl=>an _ _ hl
 have eKl:kF kk Z.lk i Z.lk=kk i:=aj _ _ _;have eO:∀ l,l≠i->l≠Z.lk->dw OO Z.lk i mb fb x l=OO l:=fun l h1 h2=>by unfold dw;rw[an _ _ h2,an _ _ h1]
 have eOi:dw OO Z.lk i mb fb x i=((OO i).del mb).del fb:=by unfold dw;rw[an _ _ hi,aj]
 have eOl:dw OO Z.lk i mb fb x Z.lk=ah.bot.set mb x:=by unfold dw;rw[aj]
 have hdel:∀ b y,(((OO i).del mb).del fb) b=some y->b≠mb∧OO i b=some y:=fun b y hy=>by
  by_cases e1:b=fb
  . simp[ah.del,e1] at hy
  by_cases e2:b=mb
  . simp[ah.del,e2] at hy
  . exact⟨e2,by simpa[ah.del,e1,e2] using hy⟩
 have hset:∀ b y,(ah.bot.set mb x) b=some y->b=mb∧y=x:=fun b y hy=>by
  by_cases e:b=mb
  . subst e;simp only[ah.set,if_true,Option.some.injEq] at hy;exact⟨rfl,hy.symm⟩
  . simp only[ah.set,e,if_false] at hy;cases hy
 have hnone:∀ b,OO i b=none->(((OO i).del mb).del fb) b=none:=fun b hn=>by
  by_cases e1:b=fb
  . simp[ah.del,e1]
  by_cases e2:b=mb
  . simp[ah.del,e2]
  . simpa[ah.del,e1,e2] using hn
 refine h.oB (fun a b=>a=b∨(a=i∧b=Z.lk)) rfl ⟨⟨.refl _,rfl⟩,fun _ _=>rfl⟩ (fun b => .inl rfl) (fun op hop=>by rw[hu'] at hop;simp at hop;subst hop;simpa[MemAct.low] using hla) (fun a b e n y hta hm hz hk=>?_) (fun l b n v hv=>?_) (fun l b sv hv=>?_) (fun l b y hy=>?_) (fun a l b y hal hy=>?_)
  (fun said=>noRace_append (h.clean said) hops fun n a ha op hop b hb _=>by rw[hnt op hop] at hb;cases hb) (fun op hop a ha=>by rw[hnt op hop] at ha;cases ha) (fun m op a hop ha=>by rw[hnt op (Array.mem_of_getElem? hop)] at ha;cases ha)
  (fun n a ha hm h=>h.elim (fun ⟨j,h1,h2⟩ => .inr (.inl ⟨j,h1,h2.app _⟩)) (fun ⟨p,h1,h2⟩ => .inr (.inr (.inl ⟨p,h1,h2.app _⟩))))
 . rcases e with rfl|⟨rfl,rfl⟩
   . exact hk.app u
   . have hk':Knows t a n:=(kz hi).1 hk
     unfold Ak;rw[if_pos rfl];exact .inr ⟨t.size+0,by have:=h.n0;omega,by rw[act?_of (bQ hu0)],heard_new hloud hu0 hd,ja hk' hu0 rfl⟩
 . by_cases e:l=Z.lk
   . subst e;rw[eKl] at hv;exact⟨i,.inr ⟨rfl,rfl⟩,hv⟩
   . rw[eK l e] at hv;exact⟨l,.inl rfl,hv⟩
 . by_cases e:l=Z.lk
   . subst e;rw[eKl] at hv;exact⟨i,.inr ⟨rfl,rfl⟩,hv⟩
   . rw[eK l e] at hv;exact⟨l,.inl rfl,hv⟩
 . by_cases e2:l=Z.lk
   . subst e2;rw[eOl] at hy
     obtain⟨rfl,rfl⟩:=hset b y hy;exact⟨i,.inr ⟨rfl,rfl⟩,hx,fun sv hs=>by rw[eKl];exact hs⟩
   by_cases e:l=i
   . subst e;rw[eOi] at hy
     exact⟨l,.inl rfl,(hdel b y hy).2,fun sv hs=>by rw[eK l e2];exact hs⟩
   . rw[eO l e e2] at hy;exact⟨l,.inl rfl,hy,fun sv hs=>by rw[eK l e2];exact hs⟩
 . by_cases ea2:a=Z.lk
   . subst ea2;rw[eOl] at hy
     obtain⟨rfl,rfl⟩:=hset b y hy
     by_cases el:l=i
     . subst el;rw[eOi]
       by_cases e1:b=fb
       . simp[ah.del,e1]
       . simp[ah.del,e1]
     . rw[eO l el (Ne.symm hal)];exact h.fR i l b y (Ne.symm el) hx
   by_cases el2:l=Z.lk
   . subst el2;rw[eOl]
     have hbm:b≠mb:=by
      by_cases ea:a=i
      . subst ea;rw[eOi] at hy;exact (hdel b y hy).1
      . rw[eO a ea ea2] at hy
        intro e;subst e;have:=h.fR a i b y ea hy;rw[hx] at this;cases this
     simp only[ah.set,hbm,if_false];rfl
   by_cases ea:a=i
   . subst ea
     rw[eOi] at hy;rw[eO l (Ne.symm hal) el2];exact h.fR a l b y hal (hdel b y hy).2
   . rw[eO a ea ea2] at hy
     by_cases el:l=i
     . subst el;rw[eOi];exact hnone b (h.fR a l b y hal hy)
     . rw[eO l el el2];exact h.fR a l b y hal hy
end
section
variable {P:Program} {A:cC} {Fin:ag->ah->Goroutine->Prop} {Z:Base} {s:MS P} {f:Nat->Node P} {q:Nat->Nat} {kk:Nat->ag} {OO:Nat->ah} {J M:Nat->Prop} {gs:Array Goroutine} {gsz:Nat} {w:World} {t u:Trace} {j:Nat} {g:Goroutine} {x:aM P} {xo:Own}
theorem AB {x:aM P} (h:x.owns=true):x.pc = .held:=by
 cases x with
 | run b X=>cases b <;> simp_all [aM.owns,aM.pc]
 | un p Y=>cases p <;> simp_all [aM.owns,aM.pc,nE.abs]
 | _=>simp_all [aM.owns]
theorem wE (I:bd A.n s) (hj:j<A.n) (hp:(s.w j).pc = .held) {l:Nat} (hl:l<A.n) (ho:(s.w l).owns=true):l=j:=by
 by_cases e:l=j
 . exact e
 . have h1:=I.mu.j1
   have h2:=Mu.dH Mu.bh (fun i=>(s.w i).pc) j .out hj
   have h3:Mu.bh (Mu.set (fun i=>(s.w i).pc) j .out l)≤Mu.dc A.n (fun i=>Mu.bh (Mu.set (fun i=>(s.w i).pc) j .out i)):=Mu.fe (fun i=>Mu.bh (Mu.set (fun i=>(s.w i).pc) j .out i)) hl
   rw[Mu.ak _ _ e,AB ho] at h3;have c1:Mu.bh .held=1:=rfl;have c0:Mu.bh .out=0:=rfl;rw[hp] at h2;have:s.sh.w.L.toNat≤1:=by cases s.sh.w.L <;> simp
   omega
def iE (A:cC) (Z:Base) (OO:Nat->ah) (i:Nat) (x:Own):Nat->ah:=ba (eC OO Z.lk i A.mb x) i ((eC OO Z.lk i A.mb x i).set A.fb (.part nJ))
theorem bO.take (hZ:A.b+A.n+1≤Z.lk) (h:bO P A Z s kk OO J M gsz w t) (hj:j<A.n) (h1:(s.w j).work=true) (h2:x.work=true) (hno:∀ l,l<A.n->(s.w l).owns=false) (hx:x.owns=true) (hI:bd A.n (s.aC j x s.sh)) (hu:∀ op∈u,op.act.touch? = none∧∀ a,op.act ≠ .mark (.release a)) :
 bO P A Z (s.aC j x s.sh) (fU kk Z.lk (A.b+j)) (iE A Z OO (A.b+j) xo) J M gsz w (t ++ u):=by
 have hi:A.b+j≠Z.lk:=by omega
 have hbusy:x.busy=(s.w j).busy:=by rw[(aK h1).2.2.2.2.2.1,(aK h2).2.2.2.2.2.1]
 have eK:∀ l,l≠A.b+j->fU kk Z.lk (A.b+j) l=kk l:=fun l hl=>an _ _ hl
 have eKi:fU kk Z.lk (A.b+j) (A.b+j)=(kk (A.b+j)).join (kk Z.lk):=aj _ _ _;have eO:∀ l,l≠A.b+j->l≠Z.lk->iE A Z OO (A.b+j) xo l=OO l:=fun l h1 h2=>by unfold iE eC;rw[an _ _ h1,an _ _ h2,an _ _ h1]
 have eOi:iE A Z OO (A.b+j) xo (A.b+j)=((OO (A.b+j)).set A.mb xo).set A.fb (.part nJ):=by unfold iE eC;rw[aj,an _ _ hi,aj]
 have eOl:iE A Z OO (A.b+j) xo Z.lk=ah.bot:=by unfold iE eC;rw[an _ _ (Ne.symm hi),aj]
 have hbeg:be P A s (A.b+j):=eM h.I hj (aK h1).2.2.2.2.1
 have hnoF:∀ i,OO i A.fb=none:=fun i=>by
  cases e:OO i A.fb with
  | none=>rfl
  | some y=>
    obtain⟨l,_,hl,_,ho,_⟩:=h.tok i y e;rw[hno l hl] at ho;cases ho
 have hjn:∀ {c n:Nat},(∀ i,(kk i).cell c n=none)->(fU kk Z.lk (A.b+j) (A.b+j)).cell c n=none:=fun {c n} hn=>by
  rw[eKi];cases e:((kk (A.b+j)).join (kk Z.lk)).cell c n with
  | none=>rfl
  | some v=>rcases ag.iS e with h|h <;> rw[hn] at h <;> cases h
 refine⟨hI,h.size,h.sf,h.mu,h.gr,h.pN,h.sG,fun i=>?_,fun i=>?_,fun i y hy=>?_,fun l hl hlo=>?_,fun hlo=>?_,fun c hc=>?_,
  fun i=>by rw[h.hJ i];exact (ji hj hbusy i).symm,h.nK u,h.iL u,h.fT u (fun op hop a ha=>by rw[(hu op hop).1] at ha;cases ha),h.jz u (fun op hop a ha=>by rw[(hu op hop).1] at ha;cases ha),h.kE u,h.eL u (fun op hop=>(hu op hop).2),fun i hl hb=>?_,h.mR,h.gJ,h.cM,h.la,by simp;exact Nat.le_trans h.n0 (Nat.le_add_right _ _)⟩
 . by_cases e:i=A.b+j
   . subst e;rw[eOi]
     have:=h.dA (A.b+j);simp only[ah.set,A.d1,A.d3,Ne.symm A.d4,A.d6,if_false];exact this
   by_cases e2:i=Z.lk
   . subst e2;rw[eOl];exact⟨rfl,rfl⟩
   . rw[eO i e e2];exact h.dA i
 . by_cases e:i=A.b+j
   . subst e
     exact⟨hjn fun i=>(h.cx i).1,hjn fun i=>(h.cx i).2.1,hjn fun i=>(h.cx i).2.2.1,hjn fun i=>(h.cx i).2.2.2⟩
   . rw[eK i e];exact h.cx i
 . by_cases e:i=A.b+j
   . subst e;rw[eOi] at hy
     simp only[ah.set,if_true,Option.some.injEq] at hy;exact⟨j,nJ,hj,rfl,by rw[aA];exact hx,hy.symm,fun _=>rfl⟩
   by_cases e2:i=Z.lk
   . subst e2;rw[eOl] at hy;cases hy
   . rw[eO i e e2,hnoF] at hy;cases hy
 . by_cases e:l=j
   . subst e;rw[eOi];simp[ah.set]
   . rw[aN e,hno l hl] at hlo;cases hlo
 . have:=hlo j hj
   rw[aA,hx] at this;cases this
 . rw[eOl] at hc;exact absurd rfl hc
 . have e:i≠A.b+j:=fun e=>hb (e ▸ hbeg)
   rw[eK i e,eO i e hl];exact h.wv i hl hb
end
section
variable {P:Program} {A:cC} {Fin:ag->ah->Goroutine->Prop} {Z:Base} {s:MS P} {f:Nat->Node P} {q:Nat->Nat} {kk:Nat->ag} {OO:Nat->ah} {J M:Nat->Prop} {gs:Array Goroutine} {w:World} {t:Trace} {j:Nat} {g:Goroutine}
variable (C:fA P A.nm) (X:fB P A.nm) (F:mV P A.nm)
include C X F in
theorem Gi (hZ:A.b+A.n+1≤Z.lk) (hC:aW (bn P A Fin Z hZ) Z s f q kk OO J M gs w t) (hj:j<A.n) {Y:rl P} (hw:s.w j = .lk .la Y) (hg:gs[A.b+j]? = some g) (hat:Az P A j (.lk .la Y) (kk (A.b+j)) (OO (A.b+j)) g) (sl:Option (Nat × Nat)) :
 Goes P A Fin Z hZ s gs w t sl (A.b+j):=by
 have hE:bO P A Z s kk OO J M gs.size w t:=hC.ex;have B:=aJ (P:=P) (A:=A) (Fin:=Fin) (Z:=Z) hZ;have h1:(s.w j).gn=true:=by rw[hw];rfl
 have w1:=dS h1;have hpc:(s.w j).pc = .held:=by rw[hw];rfl
 have hb:=A.hb;have hilk:A.b+j≠Z.lk:=by omega
 have hi0:(A.b+j == 0)=false:=by simp;omega
 have hno:∀ l,l<A.n->(s.w l).owns=false:=fun l hl=>by
  cases e:(s.w l).owns with
  | false=>rfl
  | true=>
    obtain rfl:=wE hE.I hj hpc hl e;rw[hw] at e;cases e
 have hnoF:∀ i,OO i A.fb=none:=fun i=>by
  cases e:OO i A.fb with
  | none=>rfl
  | some y=>
    obtain⟨l,_,hl,_,ho,_⟩:=hE.tok i y e;rw[hno l hl] at ho;cases ho
 obtain⟨xo,a,hxo,hor,hgi⟩:=hE.Dc hno;obtain⟨kind,c,rest,e,hk,hM,hm,hO,hsh,hN⟩:=hat;have hle':(kk Z.lk).Le ((kk (A.b+j)).join (kk Z.lk)):=ag.lq (hC.bp.sat (A.b+j)) (hC.bp.sat Z.lk);have hN':=hN ((kk (A.b+j)).join (kk Z.lk)) xo a (ag.jw _ _) (hor.mono hle') hgi (hC.bp.fR Z.lk (A.b+j) _ _ (Ne.symm hilk) hxo);obtain⟨g1,hst,hr,g2,hsil,hA⟩:=zw (Wd:=fun _=>True) (main:=false) (w:=w) C X hM
 obtain⟨k,hk2⟩:=hsil.trans (nI F hA hk);rw[← hE.la] at hst;have eKi:fU kk Z.lk (A.b+j) (A.b+j)=(kk (A.b+j)).join (kk Z.lk):=aj _ _ _;have eOi:iE A Z OO (A.b+j) xo (A.b+j)=((OO (A.b+j)).set A.mb xo).set A.fb (.part nJ):=by unfold iE eC;rw[aj,an _ _ hilk,aj]
 rw[← eKi,← eOi] at hN';obtain⟨T,hU⟩:=TT.pre hk2 (Y.c _ _ _ hN');obtain⟨x,hx⟩:∃ x:aM P,x = .run true ⟨Y.m,fU kk Z.lk (A.b+j) (A.b+j),iE A Z OO (A.b+j) xo (A.b+j),_,Y.c _ _ _ hN'⟩:=⟨_,rfl⟩;have w2:x.work=true:=by rw[hx];rfl
 have hsx:∀ sh,((s.aC j x sh).w j) = .run true ⟨Y.m,fU kk Z.lk (A.b+j) (A.b+j),iE A Z OO (A.b+j) xo (A.b+j),_,Y.c _ _ _ hN'⟩:=fun sh=>by rw[aA,hx]
 have hrun:=runT_crowd_go (P:=P) (sl:=sl) (i:=A.b+j) hg (by rw[hi0];exact hst)
 have hwk:=fg (P:=P) (A:=A) (s:=s) hj h1
 have hd0:Deaf t (A.b+j)=0:=by
  obtain⟨_,_,hd0,_⟩:=hC.walk _ hwk;rw[hd0];show bF P A s (A.b+j)=0;rw[cN hj,hw];rfl
 have hbeg:be P A s (A.b+j):=eM hE.I hj (aK w1).2.2.2.2.1;have hJ:J (A.b+j):=(hE.hJ _).2 (qm hj (aK w1).2.2.2.2.2.1);have hops:∀ op∈MemOp.ofEvents (A.b+j) g.frame.fn g.frame.place #[⟨.mark (.acquire Z.la),false,true⟩],op.g=A.b+j:=fun op hop=>by obtain⟨e,_,rfl⟩:=Go.Conc.mem_ofEvents hop;rfl
 have hmu:∀ op∈MemOp.ofEvents (A.b+j) g.frame.fn g.frame.place #[⟨.mark (.acquire Z.la),false,true⟩],op.act.touch? = none∧∀ a,op.act ≠ .mark (.release a):=fun op hop=>by
  obtain⟨e,he,rfl⟩:=Go.Conc.mem_ofEvents hop;simp at he;subst he;exact⟨rfl,fun a h=>by simp[MemAct.ofEvent] at h⟩
 have hFlt:A.fb<w.heap.size:=by obtain⟨c,e,h1⟩:=hE.pN;exact (Array.getElem?_eq_some_iff.1 h1).1
 have hP1:=hC.bp.J8 hilk hxo (fun c hc=>(hE.Cf c hc).1) (by rw[hE.la];exact hFlt) hd0 (fun m a hm ha hmem hz=>hE.old _ hbeg m a hm ha hmem hz) hE.norel g.frame.fn g.frame.place
 have hnone:∀ l,eC OO Z.lk (A.b+j) A.mb xo l A.fb=none:=fun l=>by
  unfold eC
  by_cases e1:l=Z.lk
  . subst e1;rw[aj];rfl
  by_cases e2:l=A.b+j
  . subst e2;rw[an _ _ e1,aj];simp only[ah.set,A.d5,if_false];exact hnoF _
  . rw[an _ _ e1,an _ _ e2];exact hnoF _
 have hP:=hP1.token (j:=A.b+j) hnone (by
  obtain⟨cc,ee,hcc⟩:=hE.pN;have hs:=(hC.bp.sat (A.b+j)).sh _ _ hsh;simp only[World.shape?,hcc] at hs;refine⟨cc,ee,hcc,?_⟩;rw[eKi];refine (ag.jw _ _).2 _ _ ?_;rw[hsh];exact hs.symm) hE.cM.2.1
 have hI:bd A.n (s.aC j x s.sh):=hE.I.still hj w1 w2 (by rw[hx];rfl) (by rw[hx,hw];rfl)
 have hL:MS.dR A.n (s.aC j x s.sh) s:=u0 hj w1 w2 ⟨_,_,by rw[hx];rfl,by rw[hw];rfl,.single (kW.bV Y.N Y.h0 Y.ht Y.c hN')⟩
 have hEx:=hE.take (xo:=xo) hZ hj w1 w2 hno (by rw[hx];rfl) hI hmu
 have hbs:Beside (bn P A Fin Z hZ) s (s.aC j x s.sh) f (ba f (A.b+j) ⟨Y.m,fU kk Z.lk (A.b+j) (A.b+j),iE A Z OO (A.b+j) xo (A.b+j),g1,T⟩) q q kk (fU kk Z.lk (A.b+j)) OO (iE A Z OO (A.b+j) xo) J J w (A.b+j) g g1:=
  ib hZ hj w1 w2 (fun i hi=>an _ _ hi) (fun i hi=>rfl) (fun i hi _=>an _ _ hi) (fun i hi ht=>by unfold iE eC;rw[an _ _ hi,an _ _ (show i≠Z.lk by omega),an _ _ hi]) (fun _ h=>h) (.inl fun h=>h) (fun {i k O y} hA=>B.je (s:=s) (i:=i) (k:=k) (O:=O) (g:=y) hA)
 refine⟨_,_,hrun,s.aC j x s.sh,ba f (A.b+j) ⟨Y.m,fU kk Z.lk (A.b+j) (A.b+j),iE A Z OO (A.b+j) xo (A.b+j),g1,T⟩,q,fU kk Z.lk (A.b+j),iE A Z OO (A.b+j) xo,J,M,_,_,_,rfl,hL,?_⟩;refine aW.step B hC hg hops hP hEx (fun l y hl hA=>?_) hbs ⟨fun _=>?_,fun h=>absurd h (oV hj (hsx _)),fun h=>absurd h (gK hj (hsx _)),fun h=>absurd (ig hj (hsx _)) h⟩
 . have hne:l≠A.b+j:=fun e=>(hC.held l hl).2.1 (by rw[e];exact hwk)
   exact B.oE hE hl _ _ hA
 . rw[aj]
   refine⟨by show A.b+j<A.b+A.n+1;omega,rfl,?_,rfl,rfl,hr,?_,.inr hJ,fun l b X' h3 h4 h5=>?_⟩
   . show Y.m=aY P A Fin (s.aC j x s.sh) (A.b+j)
     rw[kg hj (hsx _)];exact hm
   . rw[Deaf_own,hd0];rfl
   . obtain rfl:l=j:=by omega
     rw[hsx] at h5;cases h5;exact hU
end
section
variable {P:Program} {A:cC} {Fin:ag->ah->Goroutine->Prop} {Z:Base} {s:MS P} {f:Nat->Node P} {q:Nat->Nat} {kk:Nat->ag} {OO:Nat->ah} {J M:Nat->Prop} {gs:Array Goroutine} {gsz:Nat} {w:World} {t u:Trace} {j:Nat} {g:Goroutine} {x:aM P} {xo:Own} {a:iH}
theorem bO.give (hZ:A.b+A.n+1≤Z.lk) (h:bO P A Z s kk OO J M gsz w t) (hj:j<A.n) (h1:(s.w j).work=true) (h2:x.work=true) (hone:∀ l,l<A.n->(s.w l).owns=true->l=j) (hx:x.owns=false) (hI:bd A.n (s.aC j x s.sh)) (hor:jo (kk (A.b+j)) xo a) (hgi:A.GI a) (hu:∀ op∈u,op.act.touch? = none∧∀ a,op.act ≠ .mark (.release a)) :
 bO P A Z (s.aC j x s.sh) (kF kk Z.lk (A.b+j)) (dw OO Z.lk (A.b+j) A.mb A.fb xo) J M gsz w (t ++ u):=by
 have hi:A.b+j≠Z.lk:=by omega
 have hbusy:x.busy=(s.w j).busy:=by rw[(aK h1).2.2.2.2.2.1,(aK h2).2.2.2.2.2.1]
 have eK:∀ l,l≠Z.lk->kF kk Z.lk (A.b+j) l=kk l:=fun l hl=>an _ _ hl
 have eKl:kF kk Z.lk (A.b+j) Z.lk=kk (A.b+j):=aj _ _ _;have eO:∀ l,l≠A.b+j->l≠Z.lk->dw OO Z.lk (A.b+j) A.mb A.fb xo l=OO l:=fun l h1 h2=>by unfold dw;rw[an _ _ h2,an _ _ h1]
 have eOi:dw OO Z.lk (A.b+j) A.mb A.fb xo (A.b+j)=((OO (A.b+j)).del A.mb).del A.fb:=by unfold dw;rw[an _ _ hi,aj]
 have eOl:dw OO Z.lk (A.b+j) A.mb A.fb xo Z.lk=ah.bot.set A.mb xo:=by unfold dw;rw[aj]
 have hbeg:be P A s (A.b+j):=eM h.I hj (aK h1).2.2.2.2.1
 have hnew:∀ l,l<A.n->((s.aC j x s.sh).w l).owns=false:=fun l hl=>by
  by_cases e:l=j
  . subst e;rw[aA];exact hx
  . rw[aN e]
    cases q:(s.w l).owns with
    | false=>rfl
    | true=>exact absurd (hone l hl q) e
 refine⟨hI,h.size,h.sf,h.mu,h.gr,h.pN,h.sG,fun i=>?_,fun i=>?_,fun i y hy=>?_,fun l hl hlo=>?_,fun hlo=>?_,fun c hc=>?_,
  fun i=>by rw[h.hJ i];exact (ji hj hbusy i).symm,h.nK u,h.iL u,h.fT u (fun op hop a ha=>by rw[(hu op hop).1] at ha;cases ha),h.jz u (fun op hop a ha=>by rw[(hu op hop).1] at ha;cases ha),h.kE u,h.eL u (fun op hop=>(hu op hop).2),fun i hl hb=>?_,h.mR,h.gJ,h.cM,h.la,by simp;exact Nat.le_trans h.n0 (Nat.le_add_right _ _)⟩
 . by_cases e2:i=Z.lk
   . subst e2;rw[eOl];simp only[ah.set,A.d3,A.d6,if_false];exact⟨rfl,rfl⟩
   by_cases e:i=A.b+j
   . subst e;rw[eOi]
     have:=h.dA (A.b+j);simp only[ah.del,A.d1,A.d3,Ne.symm A.d4,A.d6,if_false];exact this
   . rw[eO i e e2];exact h.dA i
 . by_cases e2:i=Z.lk
   . subst e2;rw[eKl];exact h.cx _
   . rw[eK i e2];exact h.cx i
 . exfalso
   by_cases e2:i=Z.lk
   . subst e2;rw[eOl] at hy
     simp only[ah.set,A.d5,if_false] at hy;cases hy
   by_cases e:i=A.b+j
   . subst e;rw[eOi] at hy;simp[ah.del] at hy
   . rw[eO i e e2] at hy
     obtain⟨l,_,hl,h3,ho,_⟩:=h.tok i y hy;exact e (by rw[h3,hone l hl ho])
 . rw[hnew l hl] at hlo;cases hlo
 . refine⟨xo,a,by rw[eOl];simp[ah.set],by rw[eKl];exact hor,hgi⟩
 . rw[eOl] at hc
   refine⟨?_,hnew⟩
   by_cases e:c=A.mb
   . exact e
   . simp only[ah.set,e,if_false] at hc;exact absurd rfl hc
 . have e:i≠A.b+j:=fun e=>hb (e ▸ hbeg)
   rw[eK i hl,eO i e hl];exact h.wv i hl hb
variable (C:fA P A.nm) (X:fB P A.nm)
include C X in
theorem Gj (hZ:A.b+A.n+1≤Z.lk) (hC:aW (bn P A Fin Z hZ) Z s f q kk OO J M gs w t) (hj:j<A.n) {Y:rl P} (hw:s.w j = .un .ur Y) (hg:gs[A.b+j]? = some g) (hat:Az P A j (.un .ur Y) (kk (A.b+j)) (OO (A.b+j)) g) (sl:Option (Nat × Nat)) :
 Goes P A Fin Z hZ s gs w t sl (A.b+j):=by
 have hE:bO P A Z s kk OO J M gs.size w t:=hC.ex;have B:=aJ (P:=P) (A:=A) (Fin:=Fin) (Z:=Z) hZ;have h1:(s.w j).gn=true:=by rw[hw];rfl
 have w1:=dS h1;have hpc:(s.w j).pc = .held:=by rw[hw];rfl
 have hb:=A.hb;have hilk:A.b+j≠Z.lk:=by omega
 have hi0:(A.b+j == 0)=false:=by simp;omega
 have hone:∀ l,l<A.n->(s.w l).owns=true->l=j:=fun l hl e=>wE hE.I hj hpc hl e
 obtain⟨kind,c,rest,hk,hM,hm,hA1,hA2⟩:=hat;obtain⟨tf,xo,a,hfb,vL,hor,hgi,hN⟩:=hA1 (.inr rfl);obtain⟨g1,hst,hr,g2,⟨k,hsil⟩,hA⟩:=zv (Wd:=iV A) (main:=false) (w:=w) C X hM;rw[← hE.la] at hst;have eKi:kF kk Z.lk (A.b+j) (A.b+j)=kk (A.b+j):=an _ _ hilk;have eOi:dw OO Z.lk (A.b+j) A.mb A.fb xo (A.b+j)=((OO (A.b+j)).del A.mb).del A.fb:=by unfold dw;rw[an _ _ hilk,aj]
 have hrun:=runT_crowd_go (P:=P) (sl:=sl) (i:=A.b+j) hg (by rw[hi0];exact hst)
 have hwk:=fg (P:=P) (A:=A) (s:=s) hj h1
 have hd0:Deaf t (A.b+j)=0:=by
  obtain⟨_,_,hd0,_⟩:=hC.walk _ hwk;rw[hd0];show bF P A s (A.b+j)=0;rw[cN hj,hw];rfl
 have hops:∀ op∈MemOp.ofEvents (A.b+j) g.frame.fn g.frame.place #[⟨.mark (.releaseMerge Z.la),false,true⟩],op.g=A.b+j:=fun op hop=>by obtain⟨e,_,rfl⟩:=Go.Conc.mem_ofEvents hop;rfl
 have hmu:∀ op∈MemOp.ofEvents (A.b+j) g.frame.fn g.frame.place #[⟨.mark (.releaseMerge Z.la),false,true⟩],op.act.touch? = none∧∀ a,op.act ≠ .mark (.release a):=fun op hop=>by
  obtain⟨e,he,rfl⟩:=Go.Conc.mem_ofEvents hop;simp at he;subst he;exact⟨rfl,fun a h=>by simp[MemAct.ofEvent] at h⟩
 have hFlt:A.fb<w.heap.size:=by obtain⟨c,e,h1⟩:=hE.pN;exact (Array.getElem?_eq_some_iff.1 h1).1
 have hlk0:∀ c,OO Z.lk c=none:=fun c=>by
  cases e:OO Z.lk c with
  | none=>rfl
  | some y=>
    have:=(hE.Cf c (by rw[e];simp)).2 j hj
    rw[hw] at this;cases this
 have hP:=hC.bp.J9 (fb:=A.fb) hilk vL hlk0 (by rw[hE.la];exact hFlt) hd0 g.frame.fn g.frame.place
 obtain⟨x,hx⟩:∃ x:aM P,x = .un .ud Y:=⟨_,rfl⟩;have w2:x.work=true:=by rw[hx];rfl
 have hx':((s.aC j x s.sh).w j).gn=true:=by rw[aA,hx];rfl
 have hI:bd A.n (s.aC j x s.sh):=hE.I.still hj w1 w2 (by rw[hx];rfl) (by rw[hx,hw];rfl)
 have hL:MS.dR A.n (s.aC j x s.sh) s:=jh hj w1 w2 (by rw[hx,hw];rfl) (by rw[hx,hw];rfl) (by rw[hx,hw];simp[aM.ex])
 have hEx:=hE.give hZ hj w1 w2 hone (by rw[hx];rfl) hI hor hgi hmu
 have hbs:Beside (bn P A Fin Z hZ) s (s.aC j x s.sh) f f q (upd q (A.b+j) k) kk (kF kk Z.lk (A.b+j)) OO (dw OO Z.lk (A.b+j) A.mb A.fb xo) J J w (A.b+j) g g1:=
  ib hZ hj w1 w2 (fun i hi=>rfl) (fun i hi=>upd_ne q k hi) (fun i hi ht=>an _ _ (show i≠Z.lk by omega)) (fun i hi ht=>by unfold dw;rw[an _ _ (show i≠Z.lk by omega),an _ _ hi]) (fun _ h=>h) (.inl fun h=>h) (fun {i k O y} hA=>B.je (s:=s) (i:=i) (k:=k) (O:=O) (g:=y) hA)
 refine⟨_,_,hrun,s.aC j x s.sh,f,upd q (A.b+j) k,kF kk Z.lk (A.b+j),dw OO Z.lk (A.b+j) A.mb A.fb xo,J,M,_,_,_,rfl,hL,?_⟩;refine aW.step B hC hg hops hP hEx (fun l y hl hA=>B.oE hE hl _ _ hA) hbs ⟨fun hl=>absurd hl (fC hj hx'),fun _=>⟨fC hj hx',?_,?_,g2,?_,?_⟩,fun hh=>absurd hh (lC hj hx'),fun _ hn _=>absurd (fg hj hx') hn⟩
 . show A.b+j<A.b+A.n+1;omega
 . rw[Deaf_own,hd0]
   show _=bF P A (s.aC j x s.sh) (A.b+j);rw[cN hj,aA,hx];rfl
 . refine .inr (.inl ⟨j,hj,rfl,?_⟩)
   rw[aA,hx,eKi,eOi];exact⟨kind,c,rest,hk,hA,hm,fun h=>absurd h (by simp),fun _=>hN⟩
 . exact .inr (by rw[upd_same];exact hsil)
end
end Go.aZ
