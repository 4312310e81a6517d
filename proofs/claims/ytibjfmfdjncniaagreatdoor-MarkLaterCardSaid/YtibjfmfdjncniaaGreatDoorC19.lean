/- Part 19 of the proof. -/
import Derived.Test.YtibjfmfdjncniaaGreatDoorC18
set_option linter.all false
namespace Go.Pal
open Go.Conc
open Go.ConcN (sumTo upd sumTo_upd upd_ne upd_same)
def WSt.inLib {P:Program}:WSt P->Bool
  | .lk .. => true | .un .. => true|_=>false
theorem inLib_work {P:Program} {x:WSt P} (h:x.inLib=true):x.work=true:=by cases x <;> simp_all [WSt.inLib,WSt.work]
section
variable {P:Program} {A:Mart} {Fin:Know->OwnM->Goroutine->Prop} {Z:Base} {s:MS P} {f:Nat->Node P} {q:Nat->Nat} {kk:Nat->Know} {OO:Nat->OwnM} {J M:Nat->Prop} {gs:Array Goroutine} {w w':World} {t:Trace} {j:Nat} {x:WSt P} {sh:Mu.Sh} {g g1:Goroutine}
theorem busy_of (hj:j<A.n) (h:(s.w j).busy=true):busyM P A s (A.b+j):=.inl ⟨j,hj,rfl,h⟩
theorem begun_of (I:GrpI A.n s) (hj:j<A.n) (h:(s.w j).isIdle=false):begunM P A s (A.b+j):=by
  refine .inr (.inl ⟨j,?_,rfl⟩);have:=I.idle j hj;rw[h] at this;exact Nat.lt_of_not_le fun hh=>by simpa using this.2 hh
theorem walk_inLib (hj:j<A.n) (h:(s.w j).inLib=true):walkM P A s (A.b+j):=.inr (.inl ⟨j,hj,rfl,by cases e:s.w j <;> simp_all [WSt.inLib]⟩)
theorem nlive_inLib (hj:j<A.n) (h:(s.w j).inLib=true) : ¬ liveM P A s (A.b+j):=by
  have:=A.hb
  rintro (⟨e,_⟩|⟨l,h1,h2,h3⟩|⟨e,_⟩)
  . omega
  . obtain rfl:l=j:=by omega
    cases e:s.w l <;> simp_all [WSt.inLib]
  . omega
theorem nheld_inLib (hj:j<A.n) (h:(s.w j).inLib=true) : ¬ heldM P A s (A.b+j):=by
  have:=A.hb
  rintro (⟨e,_⟩|⟨l,h1,h2,h3⟩)
  . omega
  . obtain rfl:l=j:=by omega
    rw[h3] at h;cases h
theorem deafM_at (hj:j<A.n):deafM P A s (A.b+j)=(s.w j).deaf:=by
  have:=A.hb;unfold deafM;rw[if_neg (by omega),if_pos (by omega)]
  have e:A.b+j-A.b=j:=by omega
  rw[e]
theorem ev_mu (hZ:A.b+A.n+1≤Z.lk) (hC:Conf (mart P A Fin Z hZ) Z s f q kk OO J M gs w t) (hj:j<A.n) (h1:(s.w j).inLib=true) (h2:x.inLib=true) (ho:x.owns=(s.w j).owns) (hI:GrpI A.n (s.setW j x sh)) (hL:MS.Less A.n (s.setW j x sh) s)
    (hg:gs[A.b+j]? = some g) {es:Array Event} (hst:stepG P false g w = .go g1 w' es) (hmw:MW A.fb A.fo w w') (hmu:ShM A.fb A.fo w' sh) (hev:EvM A.fb A.fo es) (hd:deafBehind (s.w j).deaf es=x.deaf)
    (hs:∃ n g',SilN P (wdM A) n g1 g'∧WAt P A j x (kk (A.b+j)) (OO (A.b+j)) g') (hdry:(s.sh.ms=0->sh.ms=0)∨(mayWake P g=true∧g1.status = .running)) (sl:Option (Nat × Nat)) :
    ∃ ops m',runT P (crowd gs w sl) (A.b+j)=(.next m',ops)∧∃ s' f' q' kk' OO' J' M' gs' w'' sl',m'=crowd gs' w'' sl'∧MS.Less A.n s' s∧Conf (mart P A Fin Z hZ) Z s' f' q' kk' OO' J' M' gs' w'' (t ++ ops):=by
  obtain⟨n,g',hsil,hat⟩:=hs;have hb:=A.hb;have B:=mart_bears (P:=P) (A:=A) (Fin:=Fin) (Z:=Z) hZ;have w1:=inLib_work h1;have w2:=inLib_work h2;have hE:MEx P A Z s kk OO J M gs.size w t:=hC.ex;have hi0:(A.b+j == 0)=false:=by simp;omega
  have hrun:=runT_crowd_go (P:=P) (sl:=sl) (i:=A.b+j) hg (by rw[hi0];exact hst)
  have hbeg:begunM P A s (A.b+j):=begun_of hE.I hj (work_facts w1).2.2.2.2.1;obtain⟨y1,y2,y3⟩:=hE.syncF hev hbeg g.frame.fn g.frame.place;have hops:∀ op∈MemOp.ofEvents (A.b+j) g.frame.fn g.frame.place es,op.g=A.b+j:=fun op hop=>by obtain⟨e,_,rfl⟩:=Go.Conc.mem_ofEvents hop;rfl
  obtain⟨m1,m2,c,e,c',m3,m4,_⟩:=mw_heap hmw hE.inF;have hP:=hC.pool.sync (i:=A.b+j) (.inr ((hE.hJ _).2 (busy_of hj (work_facts w1).2.2.2.2.2.1))) hops m1 (hE.calm hmw) (hE.kept hmw) y2 y1;have hEx:MEx P A Z (s.setW j x sh) kk OO J M gs.size w' (t ++ MemOp.ofEvents (A.b+j) g.frame.fn g.frame.place es):=hE.work hj w1 w2 ho hI hmu m2 ⟨c',e,m4⟩ y3
  have hbs:Beside (mart P A Fin Z hZ) s (s.setW j x sh) f f q (upd q (A.b+j) n) kk kk OO OO J J w' (A.b+j) g g1:=
    beside_work hZ hj w1 w2 (fun _ _=>rfl) (fun i hi=>upd_ne q n hi) (fun _ _ _=>rfl) (fun _ _ _=>rfl) (fun _ h=>h) hdry (fun {i k O y} hA=>B.atRun (s:=s) (i:=i) (k:=k) (O:=O) (g:=y) hA)
  have hwk:=walk_inLib (P:=P) (A:=A) (s:=s) hj h1;have hx':((s.setW j x sh).w j).inLib=true:=by rw[setW_same];exact h2
  refine⟨_,_,hrun,s.setW j x sh,f,upd q (A.b+j) n,kk,OO,J,M,_,_,_,rfl,hL,?_⟩;refine Conf.step B hC hg hops hP hEx (fun l y hl hA=>?_) hbs ⟨fun hl=>absurd hl (nlive_inLib hj hx'),fun _=>⟨nlive_inLib hj hx',?_,?_,g',?_,?_⟩,fun hh=>absurd hh (nheld_inLib hj hx'),fun _ hn _=>absurd (walk_inLib hj hx') hn⟩
  . have hne:l≠A.b+j:=fun e=>(hC.held l hl).2.1 (by rw[e];exact hwk)
    exact B.wake hEx ((hbs.held l hne).2 hl) _ _ (hbs.atC l _ _ _ hne hl hA)
  . show A.b+j<A.b+A.n+1;omega
  . obtain⟨_,_,hd0,_⟩:=hC.walk _ hwk
    rw[Deaf_own,hd0];show deafBehind (deafM P A s (A.b+j)) es=deafM P A (s.setW j x sh) (A.b+j);rw[deafM_at hj,deafM_at hj,setW_same];exact hd
  . exact .inr (.inl ⟨j,hj,rfl,by rw[setW_same];exact hat⟩)
  . exact .inr (by rw[upd_same];exact hsil)
end
end Go.Pal
namespace Go.Pal
open Go.Conc
open Go.ConcN (sumTo upd sumTo_upd upd_ne upd_same)
namespace Mu
section
variable {n:Nat} {pcs:Nat->Pc} {s:Sh} {i:Nat}
theorem tot_one {f:Pc->Nat} (h:∀ p,f p≤1) (pcs:Nat->Pc) (n:Nat):tot n (fun i=>f (pcs i))≤n:=by
  have:=tot_le (f:=fun i=>f (pcs i)) (c:=1) (fun i=>h _) n
  omega
theorem Inv.N_le (h:Inv n pcs s):s.w.N≤n+1∧s.ms≤1:=by
  have hp:=tot_one (f:=cPark) (fun p=>by cases p <;> simp[cPark]) pcs n
  cases e:s.w.S with
  | false=>
    obtain⟨h1,_,h3⟩:=h.j2 e;have:s.w.K.toNat≤1:=by cases s.w.K <;> simp
    omega
  | true=>
    obtain⟨_,_,h3,h4⟩:=h.j3 e;have:(!s.w.L).toNat≤1:=by cases s.w.L <;> simp
    omega
theorem Inv.at_held (h:Inv n pcs s) (hi:i<n) (hp:pcs i = .held):s.w.L=true:=by
  have:cHeld (pcs i)≤tot n (fun j=>cHeld (pcs j)):=tot_ge (fun j=>cHeld (pcs j)) hi
  rw[h.j1,hp,show cHeld .held=1 from rfl] at this
  cases e:s.w.L <;> simp_all
theorem Inv.at_add (h:Inv n pcs s) (hi:i<n) {old:Wd} {sv:Bool} (hp:pcs i = .add old sv):s.w.L=false∧s.w.S=true∧s.w.N≠0:=by
  have:cAdd (pcs i)≤tot n (fun j=>cAdd (pcs j)):=tot_ge (fun j=>cAdd (pcs j)) hi
  rw[hp,show cAdd (.add old sv)=1 from rfl] at this
  cases e:s.w.S with
  | false=>obtain⟨_,h2,_⟩:=h.j2 e;omega
  | true=>
    obtain⟨_,_,h3,h4⟩:=h.j3 e;refine⟨?_,rfl,by omega⟩
    cases e2:s.w.L with
    | false=>rfl
    | true=>rw[e2] at h3;simp at h3;omega
end
def lkPc:Pc->Bool
  | .rd _=>true | .sq .. => true | .sw .. => true | .cas .. => true | .park _=>true | .tq=>true | .up _=>true | .add .. => true | .held=>true|_=>false
def unPc:Pc->Bool
  | .out=>true | .ucas _=>true | .urd=>true | .give=>true|_=>false
theorem nx_lk (old:Wd) (l:Lo):lkPc (nx old l)=true:=by unfold nx;split <;> rfl
theorem hd_lk {old:Wd} {l:Lo} {p:Pc} (h:p∈hd old l):lkPc p=true:=by
  unfold hd at h;rw[List.mem_append] at h
  rcases h with h|h
  . split at h
    . rw[List.mem_singleton] at h;subst h;split <;> rfl
    . cases h
  . rw[List.mem_singleton] at h;subst h;rfl
theorem mv_lk {p q:Pc} {s s':Sh} (hp:p = .fast∨(lkPc p=true∧p ≠ .held)) (h:(q,s')∈mv p s) (hq:q ≠ .bad):lkPc q=true:=by
  rcases hp with rfl|⟨hp,hne⟩
  . simp only[mv] at h
    split at h <;> (rw[List.mem_singleton,Prod.mk.injEq] at h;obtain⟨rfl,rfl⟩:=h;rfl)
  cases p <;> simp only[lkPc,Bool.false_eq_true] at hp
  case rd l=>simp only[mv,List.mem_singleton,Prod.mk.injEq] at h;obtain⟨rfl,rfl⟩:=h;exact nx_lk _ _
  case sq old l=>simp only[mv,List.mem_map,Prod.mk.injEq] at h;obtain⟨a,h1,rfl,rfl⟩:=h;exact hd_lk h1
  case sw old l=>
    simp only[mv] at h;split at h <;> (rw[List.mem_singleton,Prod.mk.injEq] at h;obtain⟨rfl,rfl⟩:=h;rfl)
  case cas old l=>
    simp only[mv] at h;split at h
    . rw[List.mem_singleton,Prod.mk.injEq] at h;exact absurd h.1 hq
    split at h
    . rw[List.mem_singleton,Prod.mk.injEq] at h;obtain⟨rfl,rfl⟩:=h;split <;> rfl
    . rw[List.mem_singleton,Prod.mk.injEq] at h;obtain⟨rfl,rfl⟩:=h;rfl
  case park sv=>
    simp only[mv] at h;split at h
    . cases h
    . rw[List.mem_singleton,Prod.mk.injEq] at h;obtain⟨rfl,rfl⟩:=h;split <;> rfl
  case tq=>
    simp only[mv,List.mem_cons,Prod.mk.injEq,List.not_mem_nil,or_false] at h
    rcases h with ⟨rfl,rfl⟩|⟨rfl,rfl⟩ <;> rfl
  case up sv=>
    simp only[mv] at h;split at h
    . split at h
      . rw[List.mem_singleton,Prod.mk.injEq] at h;exact absurd h.1 hq
      . rw[List.mem_singleton,Prod.mk.injEq] at h;obtain⟨rfl,rfl⟩:=h;rfl
    . rw[List.mem_singleton,Prod.mk.injEq] at h;obtain⟨rfl,rfl⟩:=h;exact nx_lk _ _
  case add old sv=>simp only[mv,List.mem_singleton,Prod.mk.injEq] at h;obtain⟨rfl,rfl⟩:=h;rfl
  case held=>exact absurd rfl hne
theorem mv_un {p q:Pc} {s s':Sh} (hp:p = .held∨(unPc p=true∧p ≠ .out)) (h:(q,s')∈mv p s) (hq:q ≠ .bad):unPc q=true:=by
  rcases hp with rfl|⟨hp,hne⟩
  . simp only[mv] at h
    split at h
    . rw[List.mem_singleton,Prod.mk.injEq] at h;exact absurd h.1 hq
    . rw[List.mem_singleton,Prod.mk.injEq] at h
      obtain⟨rfl,rfl⟩:=h;split
      . rfl
      split
      . rfl
      split <;> rfl
  cases p <;> simp only[unPc,Bool.false_eq_true] at hp
  case out=>exact absurd rfl hne
  case ucas old=>
    simp only[mv] at h;split at h <;> (rw[List.mem_singleton,Prod.mk.injEq] at h;obtain⟨rfl,rfl⟩:=h;rfl)
  case urd=>simp only[mv,List.mem_singleton,Prod.mk.injEq] at h;obtain⟨rfl,rfl⟩:=h;split <;> rfl
  case give=>simp only[mv,List.mem_singleton,Prod.mk.injEq] at h;obtain⟨rfl,rfl⟩:=h;rfl
theorem mv_ms {p q:Pc} {s s':Sh} (hp:p ≠ .give) (h:(q,s')∈mv p s) (h0:s.ms=0):s'.ms=0:=by
  cases p <;> simp only[mv] at h
  case out=>cases h
  case bad=>cases h
  case give=>exact absurd rfl hp
  case sq=>simp only[List.mem_map,Prod.mk.injEq] at h;obtain⟨a,h1,rfl,rfl⟩:=h;exact h0
  case tq=>simp only[List.mem_cons,Prod.mk.injEq,List.not_mem_nil,or_false] at h;rcases h with ⟨_,rfl⟩|⟨_,rfl⟩ <;> exact h0
  all_goals repeat' split at h
  all_goals first
    | (cases h;done)
    | (rw[List.mem_singleton,Prod.mk.injEq] at h;obtain⟨_,rfl⟩:=h;first|exact h0 | (show s.ms-1=0;omega))
end Mu
def isMv:MPc->Bool
  | .fast=>true | .rd _=>true | .sq .. => true | .sw .. => true | .cas .. => true | .park _=>true | .tq=>true | .up _=>true | .add .. => true | .held=>true | .ucas _=>true | .urd=>true | .give=>true
  | _=>false
theorem to_abs {q:Mu.Pc} {p:MPc} (h:To q p):p.abs=q:=by cases h <;> rfl
theorem to_lk {q:Mu.Pc} {p:MPc} (h:To q p) (hq:Mu.lkPc q=true):lkOK p=true∧p ≠ .ld∧p ≠ .la:=by cases h <;> simp_all [Mu.lkPc,lkOK]
theorem to_un {q:Mu.Pc} {p:MPc} (h:To q p) (hq:Mu.unPc q=true):unOK p=true∧p ≠ .ur0∧p ≠ .ur∧p ≠ .ud:=by cases h <;> simp_all [Mu.unPc,unOK]
theorem to_bad {q:Mu.Pc} {p:MPc} (h:To q p):q ≠ .bad:=by cases h <;> simp
section
variable {P:Program} {nm:MuN} (C:MuChk P nm) (X:MuExt P nm) {n:Nat} {pcs:Nat->Mu.Pc} {s:Mu.Sh} {i:Nat} {p:MPc} {b o:Nat} {kind:CallKind} {Wd:World->Prop} {cs:List Frame} {g:Goroutine} {w:World} {main:Bool}
include C X in
theorem mstep_at (I:Mu.Inv n pcs s) (hi:i<n) (hn:n≤900) (hpc:pcs i=p.abs) (hm:isMv p=true) (hs:ShM b o w s) (h:MAt P nm b o kind p cs g) :
    MStep P nm b o kind Wd cs g w main p.abs s∨((∃ sv,p = .park sv)∧s.ms=0∧stepG P main g w = .go { g with status:=.blocked } w #[]):=by
  obtain⟨hN,hms⟩:=I.N_le;have hb:s.w.N≤1000:=by omega
  have hl:∀ {q s'},(q,s')∈Mu.mv (pcs i) s->Mu.loc q:=fun {q s'} hm=>by
    have:=(I.step hi hm).j0 i hi
    rwa [Mu.set_same] at this
  have h0:Mu.loc (pcs i):=I.j0 i hi;rw[hpc] at hl h0;cases p <;> simp only[isMv,Bool.false_eq_true] at hm
  case fast=>exact .inl (step_fast C X hs h)
  case rd l=>exact .inl (step_rd C X hs hb (hl (q:=Mu.nx s.w l) (s':=s) (by simp[MPc.abs,Mu.mv])) h)
  case sq old l=>exact .inl (step_sq C X hs h0 h)
  case sw old l=>exact .inl (step_sw C X hs h0 h)
  case cas old l=>exact .inl (step_cas C X hs h0 h)
  case park sv=>
    by_cases e:s.ms=0
    . exact .inr ⟨⟨sv,rfl⟩,e,step_blocks C X hs e h⟩
    . exact .inl (step_park C X hs e h)
  case tq=>exact .inl (step_tq C X hs h)
  case up sv=>exact .inl (step_up C X hs hb (fun q s' hq=>hl hq) h)
  case add old sv=>obtain⟨a1,a2,a3⟩:=I.at_add hi hpc;exact .inl (step_add C X hs hb a1 a2 a3 h)
  case held=>exact .inl (step_held C X hs hb (I.at_held hi hpc) h)
  case ucas old=>exact .inl (step_ucas C X hs h)
  case urd=>exact .inl (step_urd C X hs hb h)
  case give=>exact .inl (step_give C X hs (by omega) h)
end
end Go.Pal
namespace Go.Pal
open Go.Conc
open Go.ConcN (sumTo upd sumTo_upd upd_ne upd_same)
section
variable {P:Program} {A:Mart} {Fin:Know->OwnM->Goroutine->Prop} {Z:Base} {s:MS P} {f:Nat->Node P} {q:Nat->Nat} {kk:Nat->Know} {OO:Nat->OwnM} {J M:Nat->Prop} {gs:Array Goroutine} {w:World} {t:Trace} {j:Nat} {g:Goroutine}
def Goes (P:Program) (A:Mart) (Fin:Know->OwnM->Goroutine->Prop) (Z:Base) (hZ:A.b+A.n+1≤Z.lk) (s:MS P) (gs:Array Goroutine) (w:World) (t:Trace) (sl:Option (Nat × Nat)) (i:Nat):Prop:=
  ∃ ops m',runT P (crowd gs w sl) i=(.next m',ops)∧∃ s' f' q' kk' OO' J' M' gs' w'' sl',m'=crowd gs' w'' sl'∧MS.Less A.n s' s∧Conf (mart P A Fin Z hZ) Z s' f' q' kk' OO' J' M' gs' w'' (t ++ ops)
def Blocks (P:Program) (A:Mart) (s:MS P) (gs:Array Goroutine) (w:World) (sl:Option (Nat × Nat)) (i:Nat) (g:Goroutine):Prop:=
  dryM P A s i∧runT P (crowd gs w sl) i=(.next (crowd (gs.setIfInBounds i (blk g)) w sl),#[])
theorem runT_blocks (hg:gs[A.b+j]? = some g) (hst:stepG P false g w = .go { g with status:=.blocked } w #[]) (sl:Option (Nat × Nat)):runT P (crowd gs w sl) (A.b+j)=(.next (crowd (gs.setIfInBounds (A.b+j) (blk g)) w sl),#[]):=by
  have hb:=A.hb;have hi0:(A.b+j == 0)=false:=by simp;omega
  have h:=runT_crowd_go (P:=P) (sl:=sl) (i:=A.b+j) hg (by rw[hi0];exact hst)
  have hid:woken P g { g with status:=.blocked } w=id:=funext fun o=>by
    unfold Go.Conc.woken;simp
  rw[hid,Array.map_id] at h;exact h
variable (C:MuChk P A.nm) (X:MuExt P A.nm)
include C X in
theorem stop_lk (hZ:A.b+A.n+1≤Z.lk) (hC:Conf (mart P A Fin Z hZ) Z s f q kk OO J M gs w t) (hj:j<A.n) {p:MPc} {Y:Susp P} (hw:s.w j = .lk p Y) (hg:gs[A.b+j]? = some g) (hat:WAt P A j (.lk p Y) (kk (A.b+j)) (OO (A.b+j)) g) (hla:p ≠ .la) (sl:Option (Nat × Nat)) :
    Goes P A Fin Z hZ s gs w t sl (A.b+j)∨Blocks P A s gs w sl (A.b+j) g:=by
  have hE:MEx P A Z s kk OO J M gs.size w t:=hC.ex;have hok:lkOK p=true:=by have:=hE.I.ok j hj;rw[hw] at this;exact this
  have h1:(s.w j).inLib=true:=by rw[hw];rfl
  have w1:=inLib_work h1;have hpc:(s.w j).pc=p.abs:=by rw[hw];rfl
  have hn:=A.hn;have hb:=A.hb;have hi0:(A.b+j == 0)=false:=by simp;omega
  obtain⟨kind,c,rest,e,hk,hM,hm,hO,hsh,hN⟩:=hat
  by_cases hmv:isMv p=true
  . rcases mstep_at (Wd:=wdM A) (main:=false) C X hE.I.mu hj hn hpc hmv hE.mu hM with ⟨g1,w',es,qq,s',p',hst,hmm,hto,⟨hr,g2,⟨k,hsil⟩,hA⟩,hmw,hsm,hev,hdf⟩|⟨⟨sv,rfl⟩,h0,hst⟩
    . left
      have hlk:Mu.lkPc qq=true:=Mu.mv_lk (by cases p <;> simp_all [lkOK,isMv,MPc.abs,Mu.lkPc]) hmm (to_bad hto)
      obtain⟨k1,k2,k3⟩:=to_lk hto hlk;have hmm':((WSt.lk p' Y).pc,s')∈Mu.mv (s.w j).pc s.sh:=by rw[hpc,show (WSt.lk p' Y).pc=p'.abs from rfl,to_abs hto];exact hmm
      have hd1:(s.w j).deaf=1:=by rw[hw];cases p <;> simp_all [WSt.deaf,isMv,lkOK]
      have hd2:(WSt.lk p' Y).deaf=1:=by cases p' <;> simp_all [WSt.deaf]
      refine ev_mu (x:=.lk p' Y) hZ hC hj h1 rfl (by rw[hw];rfl) (hE.I.mv hj w1 rfl k1 hmm') (less_mv hE.I hj w1 rfl (by rw[hw];rfl) hmm' ?_) hg hst hmw hsm hev (by rw[hdf,hd1,hd2]) ⟨k,g2,hsil,kind,c,rest,e,hk,hA,hm,hO,hsh,hN⟩ (.inl fun h0=>Mu.mv_ms ?_ hmm h0) sl
      . cases p' <;> simp_all [WSt.ex]
      . cases p <;> simp_all [isMv,lkOK,MPc.abs]
    . right
      exact⟨.inl ⟨j,sv,Y,hj,rfl,hw,h0⟩,runT_blocks hg hst sl⟩
  . cases p <;> simp only[isMv,lkOK,not_true_eq_false,Bool.false_eq_true] at hmv hok
    case ld=>
      obtain⟨g1,hst,hr,g2,⟨k,hsil⟩,hA⟩:=step_ld (Wd:=wdM A) (main:=false) (w:=w) C X hM;left;exact ev_mu (x:=.lk .fast Y) (sh:=s.sh) hZ hC hj h1 rfl (by rw[hw];rfl) (hE.I.enq hj w1 rfl rfl hpc rfl) (less_enq hj w1 rfl (by rw[hw];rfl) hpc rfl (by rw[hw];rfl) rfl) hg hst (mw_refl rfl) hE.mu (fun e he=>by simp at he;subst he;exact .inl (.inl rfl)) (by rw[hw];rfl) ⟨k,g2,hsil,kind,c,rest,e,hk,hA,hm,hO,hsh,hN⟩ (.inl fun h0=>h0) sl
    case t1 sv=>
      obtain⟨g1,hst,hr,g2,⟨k,hsil⟩,hA⟩:=step_t1 (Wd:=wdM A) (main:=false) (w:=w) C X hM;left;exact ev_mu (x:=.lk (.park sv) Y) (sh:=s.sh) hZ hC hj h1 rfl (by rw[hw];rfl) (hE.I.still hj w1 rfl rfl (by rw[hpc];rfl)) (less_still hj w1 rfl (by rw[hw];rfl) (by rw[hpc];rfl) (by rw[hw];simp[WSt.ex])) hg hst (mw_refl rfl ⟨⟨w.tick,rfl⟩,rfl⟩) (hE.mu.heap rfl) evM_nil (by rw[hw];rfl) ⟨k,g2,hsil,kind,c,rest,e,hk,hA,hm,hO,hsh,hN⟩ (.inl fun h0=>h0) sl
    case le=>
      obtain⟨g1,hst,hr,g2,⟨k,hsil⟩,hA⟩:=step_le (Wd:=wdM A) (main:=false) (w:=w) C X (fun w h=>h.2.2) hM
      left;exact ev_mu (x:=.lk .la Y) (sh:=s.sh) hZ hC hj h1 rfl (by rw[hw];rfl) (hE.I.still hj w1 rfl rfl (by rw[hpc];rfl)) (less_still hj w1 rfl (by rw[hw];rfl) (by rw[hpc];rfl) (by rw[hw];simp[WSt.ex])) hg hst (mw_refl rfl) hE.mu (fun e he=>by simp at he;subst he;exact .inl (.inr rfl)) (by rw[hw];rfl) ⟨k,g2,hsil,kind,c,rest,e,hk,hA,hm,hO,hsh,hN⟩ (.inl fun h0=>h0) sl
    case la=>exact absurd rfl hla
end
section
variable {P:Program} {A:Mart} {Fin:Know->OwnM->Goroutine->Prop} {Z:Base} {s:MS P} {f:Nat->Node P} {q:Nat->Nat} {kk:Nat->Know} {OO:Nat->OwnM} {J M:Nat->Prop} {gs:Array Goroutine} {w:World} {t:Trace} {j:Nat} {g:Goroutine}
variable (C:MuChk P A.nm) (X:MuExt P A.nm)
include C X in
theorem stop_un (hZ:A.b+A.n+1≤Z.lk) (hC:Conf (mart P A Fin Z hZ) Z s f q kk OO J M gs w t) (hj:j<A.n) {p:MPc} {Y:Susp P} (hw:s.w j = .un p Y) (hg:gs[A.b+j]? = some g) (hat:WAt P A j (.un p Y) (kk (A.b+j)) (OO (A.b+j)) g) (hur:p ≠ .ur) (hue:p ≠ .ue) (sl:Option (Nat × Nat)) :
    Goes P A Fin Z hZ s gs w t sl (A.b+j):=by
  have hE:MEx P A Z s kk OO J M gs.size w t:=hC.ex;have hok:unOK p=true:=by have:=hE.I.ok j hj;rw[hw] at this;exact this
  have h1:(s.w j).inLib=true:=by rw[hw];rfl
  have w1:=inLib_work h1;have hpc:(s.w j).pc=p.abs:=by rw[hw];rfl
  have hn:=A.hn;have hb:=A.hb;obtain⟨kind,c,rest,hk,hM,hm,hA1,hA2⟩:=hat
  by_cases hmv:isMv p=true
  . have hno : ¬ (p = .ur0∨p = .ur):=by rintro (rfl|rfl) <;> cases hmv
    have hN:=hA2 hno
    rcases mstep_at (Wd:=wdM A) (main:=false) C X hE.I.mu hj hn hpc hmv hE.mu hM with ⟨g1,w',es,qq,s',p',hst,hmm,hto,⟨hr,g2,⟨k,hsil⟩,hA⟩,hmw,hsm,hev,hdf⟩|⟨⟨sv,rfl⟩,h0,hst⟩
    . have hlk:Mu.unPc qq=true:=Mu.mv_un (by cases p <;> simp_all [unOK,isMv,MPc.abs,Mu.unPc]) hmm (to_bad hto)
      obtain⟨k1,k2,k3,k4⟩:=to_un hto hlk;have hmm':((WSt.un p' Y).pc,s')∈Mu.mv (s.w j).pc s.sh:=by rw[hpc,show (WSt.un p' Y).pc=p'.abs from rfl,to_abs hto];exact hmm
      have hd1:(s.w j).deaf=1:=by rw[hw];cases p <;> simp_all [WSt.deaf,isMv,unOK]
      have hd2:(WSt.un p' Y).deaf=1:=by cases p' <;> simp_all [WSt.deaf]
      have ho1:(s.w j).owns=false:=by rw[hw];cases p <;> simp_all [WSt.owns,isMv,unOK]
      have ho2:(WSt.un p' Y).owns=false:=by cases p' <;> simp_all [WSt.owns]
      refine ev_mu (x:=.un p' Y) hZ hC hj h1 rfl (by rw[ho1,ho2]) (hE.I.mv hj w1 rfl k1 hmm') (less_mv hE.I hj w1 rfl (by rw[hw];rfl) hmm' ?_) hg hst hmw hsm hev (by rw[hdf,hd1,hd2]) ⟨k,g2,hsil,kind,c,rest,hk,hA,hm,fun h=>absurd h (fun h=>h.elim k2 k3),fun _=>hN⟩ ?_ sl
      . cases p' <;> simp_all [WSt.ex]
      . by_cases hgv:p = .give
        . subst hgv;exact .inr ⟨wake_give C X hM,hr⟩
        . refine .inl fun h0=>Mu.mv_ms ?_ hmm h0
          cases p <;> simp_all [isMv,unOK,MPc.abs]
    . exact absurd hok (by simp[unOK])
  . cases p <;> simp only[isMv,unOK,not_true_eq_false,Bool.false_eq_true] at hmv hok
    case ur0=>
      obtain⟨v,hv⟩:=((mart_bears (P:=P) (A:=A) (Fin:=Fin) (Z:=Z) hZ).wd hE).2.2;obtain⟨g1,hst,hr,g2,⟨k,hsil⟩,hA⟩:=step_ur0 (Wd:=wdM A) (main:=false) (w:=w) C X (fun w h=>h.2.2) hv hM
      exact ev_mu (x:=.un .ur Y) (sh:=s.sh) hZ hC hj h1 rfl (by rw[hw];rfl) (hE.I.still hj w1 rfl rfl (by rw[hpc];rfl)) (less_still hj w1 rfl (by rw[hw];rfl) (by rw[hpc];rfl) (by rw[hw];simp[WSt.ex])) hg hst (mw_refl rfl) hE.mu evM_nil (by rw[hw];rfl) ⟨k,g2,hsil,kind,c,rest,hk,hA,hm,fun _=>hA1 (.inl rfl),fun h=>absurd (.inr rfl) h⟩ (.inl fun h0=>h0) sl
    case ud=>
      have hN:=hA2 (by rintro (h|h) <;> cases h)
      obtain⟨g1,hst,hr,g2,⟨k,hsil⟩,hA⟩:=step_ud (Wd:=wdM A) (main:=false) (w:=w) C X hM;exact ev_mu (x:=.un .held Y) (sh:=s.sh) hZ hC hj h1 rfl (by rw[hw];rfl) (hE.I.still hj w1 rfl rfl (by rw[hpc];rfl)) (less_still hj w1 rfl (by rw[hw];rfl) (by rw[hpc];rfl) (by rw[hw];simp[WSt.ex])) hg hst (mw_refl rfl) hE.mu (fun e he=>by simp at he;subst he;exact .inl (.inl rfl)) (by rw[hw];rfl) ⟨k,g2,hsil,kind,c,rest,hk,hA,hm,fun h=>absurd h (by simp),fun _=>hN⟩ (.inl fun h0=>h0) sl
    case ur=>exact absurd rfl hur
    case ue=>exact absurd rfl hue
end
def TT.sil1 {P:Program} {m:Mo} {K:Know} {O:OwnM} {g1 g2:Goroutine} (h:Sil1 P (fun _=>True) g1 g2) (T':TT P m K O g2):TT P m K O g1:=
  .step (fun k' O' g'=>k'=K∧O'=O∧g'=g2) h.1 (fun k' O' g' hn=>by obtain⟨rfl,rfl,rfl⟩:=hn;exact T') (fun w hw=>⟨g2,w,#[],K,O,h.2 _ w trivial,Eff.refl _ _ _,hw,rfl,rfl,rfl⟩)
theorem TT.sil1_sub {P:Program} {m:Mo} {K:Know} {O:OwnM} {g1 g2:Goroutine} (h:Sil1 P (fun _=>True) g1 g2) (T':TT P m K O g2) {z:Node P} (hz:SubT z ⟨m,K,O,g1,TT.sil1 h T'⟩):z=⟨m,K,O,g2,T'⟩:=by
  unfold TT.sil1 at hz;cases hz with
  | step _ _ _ _ hn=>obtain⟨rfl,rfl,rfl⟩:=hn;rfl
theorem TT.pre {P:Program} {m:Mo} {K:Know} {O:OwnM}:∀ {k:Nat} {g1 gB:Goroutine},SilN P (fun _=>True) k g1 gB->(X:TT P m K O gB)->∃ T:TT P m K O g1,Under ⟨m,K,O,g1,T⟩ ⟨m,K,O,gB,X⟩
  | 0,g1,gB,h,X=>by
    obtain rfl:g1=gB:=h;exact⟨X,.refl _⟩
  | k + 1,g1,gB,⟨g2,h1,h⟩,X=>by
    obtain⟨T',hU⟩:=TT.pre h X;refine⟨TT.sil1 h1 T',fun y hy ht=>?_⟩
    rcases hy with rfl|hy
    . exact ht.elim
    . have:y=⟨m,K,O,g2,T'⟩∨Relation.TransGen SubT y ⟨m,K,O,g2,T'⟩:=by
        cases hy with
        | single h=>exact .inl (TT.sil1_sub h1 T' h)
        | tail h1' h2=>
          have e:=TT.sil1_sub h1 T' h2;rw[e] at h1';exact .inr h1'
      exact hU y this ht
section
variable {P:Program} {A:Mart} {Fin:Know->OwnM->Goroutine->Prop} {Z:Base} {s:MS P} {f:Nat->Node P} {q:Nat->Nat} {kk:Nat->Know} {OO:Nat->OwnM} {J M:Nat->Prop} {gs:Array Goroutine} {w:World} {t:Trace} {j:Nat} {g:Goroutine}
theorem live_run (hj:j<A.n) {h:Bool} {X:Node P} (e:s.w j = .run h X):liveM P A s (A.b+j):=.inr (.inl ⟨j,hj,rfl,by rw[e];trivial⟩)
theorem nwalk_run (hj:j<A.n) {h:Bool} {X:Node P} (e:s.w j = .run h X) : ¬ walkM P A s (A.b+j):=by
  have:=A.hb
  rintro (⟨e,_⟩|⟨l,h1,h2,h3⟩|⟨e,_⟩)
  . omega
  . obtain rfl:l=j:=by omega
    rw[e] at h3;exact h3
  . omega
theorem nheld_run (hj:j<A.n) {h:Bool} {X:Node P} (e:s.w j = .run h X) : ¬ heldM P A s (A.b+j):=by
  have:=A.hb
  rintro (⟨e,_⟩|⟨l,h1,h2,h3⟩)
  . omega
  . obtain rfl:l=j:=by omega
    rw[e] at h3;cases h3
theorem mode_run (hj:j<A.n) {h:Bool} {X:Node P} (e:s.w j = .run h X):modeM P A Fin s (A.b+j)=moW1 P A j:=by
  have:=A.hb;unfold modeM;rw[if_neg (by omega),if_pos (by omega)]
  have e2:A.b+j-A.b=j:=by omega
  rw[e2,e]
variable (C:MuChk P A.nm) (X:MuExt P A.nm) (F:MuFn P A.nm)
include C X F in
theorem stop_ue (hZ:A.b+A.n+1≤Z.lk) (hC:Conf (mart P A Fin Z hZ) Z s f q kk OO J M gs w t) (hj:j<A.n) {Y:Susp P} (hw:s.w j = .un .ue Y) (hg:gs[A.b+j]? = some g) (hat:WAt P A j (.un .ue Y) (kk (A.b+j)) (OO (A.b+j)) g) (sl:Option (Nat × Nat)) :
    Goes P A Fin Z hZ s gs w t sl (A.b+j):=by
  have hE:MEx P A Z s kk OO J M gs.size w t:=hC.ex;have B:=mart_bears (P:=P) (A:=A) (Fin:=Fin) (Z:=Z) hZ;have h1:(s.w j).inLib=true:=by rw[hw];rfl
  have w1:=inLib_work h1;have hb:=A.hb;have hi0:(A.b+j == 0)=false:=by simp;omega
  obtain⟨kind,c,rest,hk,hM,hm,hA1,hA2⟩:=hat;have hN:=hA2 (by simp)
  obtain⟨g1,hst,hr,g2,hsil,hA⟩:=step_ue (Wd:=fun _=>True) (main:=false) (w:=w) C X hM
  obtain⟨k,hk2⟩:=hsil.trans (mu_unlock_back F hA hk);obtain⟨T,hU⟩:=TT.pre hk2 (Y.c _ _ _ hN);obtain⟨x,hx⟩:∃ x:WSt P,x = .run false ⟨Y.m,kk (A.b+j),OO (A.b+j),_,Y.c _ _ _ hN⟩:=⟨_,rfl⟩;have w2:x.work=true:=by rw[hx];rfl
  have hsx:∀ sh,((s.setW j x sh).w j) = .run false ⟨Y.m,kk (A.b+j),OO (A.b+j),_,Y.c _ _ _ hN⟩:=fun sh=>by rw[setW_same,hx]
  have hev:EvM A.fb A.fo #[⟨.mark .enable,false,true⟩]:=fun e he=>by simp at he;subst he;exact .inl (.inr rfl)
  have hrun:=runT_crowd_go (P:=P) (sl:=sl) (i:=A.b+j) hg (by rw[hi0];exact hst)
  have hbeg:begunM P A s (A.b+j):=begun_of hE.I hj (work_facts w1).2.2.2.2.1;obtain⟨y1,y2,y3⟩:=hE.syncF hev hbeg g.frame.fn g.frame.place;have hops:∀ op∈MemOp.ofEvents (A.b+j) g.frame.fn g.frame.place #[⟨.mark .enable,false,true⟩],op.g=A.b+j:=fun op hop=>by obtain⟨e,_,rfl⟩:=Go.Conc.mem_ofEvents hop;rfl
  have hJ:J (A.b+j):=(hE.hJ _).2 (busy_of hj (work_facts w1).2.2.2.2.2.1);have hP:=hC.pool.sync (i:=A.b+j) (.inr hJ) hops rfl ⟨⟨.refl _,rfl⟩,fun _ _=>rfl⟩ (fun b => .inl rfl) y2 y1
  have hI:GrpI A.n (s.setW j x s.sh):=hE.I.still hj w1 w2 (by rw[hx];rfl) (by rw[hx,hw];rfl)
  have hL:MS.Less A.n (s.setW j x s.sh) s:=less_nd hj w1 w2 ⟨_,_,by rw[hx];rfl,by rw[hw];rfl,.single (SubT.talk Y.N Y.h0 Y.ht Y.c hN)⟩
  have hEx:MEx P A Z (s.setW j x s.sh) kk OO J M gs.size w (t ++ MemOp.ofEvents (A.b+j) g.frame.fn g.frame.place #[⟨.mark .enable,false,true⟩]):=hE.work hj w1 w2 (by rw[hx,hw];rfl) hI hE.mu (fun _ _=>rfl) hE.inF y3
  have hbs:Beside (mart P A Fin Z hZ) s (s.setW j x s.sh) f (updK f (A.b+j) ⟨Y.m,kk (A.b+j),OO (A.b+j),g1,T⟩) q q kk kk OO OO J J w (A.b+j) g g1:=
    beside_work hZ hj w1 w2 (fun i hi=>updK_ne _ _ hi) (fun i hi=>rfl) (fun _ _ _=>rfl) (fun _ _ _=>rfl) (fun _ h=>h) (.inl fun h=>h) (fun {i k O y} hA=>B.atRun (s:=s) (i:=i) (k:=k) (O:=O) (g:=y) hA)
  have hwk:=walk_inLib (P:=P) (A:=A) (s:=s) hj h1;refine⟨_,_,hrun,s.setW j x s.sh,updK f (A.b+j) ⟨Y.m,kk (A.b+j),OO (A.b+j),g1,T⟩,q,kk,OO,J,M,_,_,_,rfl,hL,?_⟩;refine Conf.step B hC hg hops hP hEx (fun l y hl hA=>?_) hbs ⟨fun _=>?_,fun h=>absurd h (nwalk_run hj (hsx _)),fun h=>absurd h (nheld_run hj (hsx _)),fun h=>absurd (live_run hj (hsx _)) h⟩
  . have hne:l≠A.b+j:=fun e=>(hC.held l hl).2.1 (by rw[e];exact hwk)
    exact B.wake hEx ((hbs.held l hne).2 hl) _ _ (hbs.atC l _ _ _ hne hl hA)
  . rw[updK_same]
    refine⟨by show A.b+j<A.b+A.n+1;omega,rfl,?_,rfl,rfl,hr,?_,.inr hJ,fun l b X' h3 h4 h5=>?_⟩
    . show Y.m=modeM P A Fin (s.setW j x s.sh) (A.b+j)
      rw[mode_run hj (hsx _)];exact hm
    . obtain⟨_,_,hd0,_⟩:=hC.walk _ hwk
      rw[Deaf_own,hd0];show deafBehind (deafM P A s (A.b+j)) _=0;rw[deafM_at hj,hw];rfl
    . obtain rfl:l=j:=by omega
      rw[hsx] at h5;cases h5;exact hU
end
section
variable {Z:Base} {kk:Nat->Know} {OO:Nat->OwnM} {J M:Nat->Prop} {w:World} {t:Trace}
theorem covers_tok {O:OwnM} {b c n:Nat} (hc:Covers (O.set b (.part tokF)) c n):Covers O c n:=by
  by_cases hcb:c=b
  . subst hcb
    rcases hc with ⟨o,q⟩|⟨m,q,_⟩|⟨g,q,hg⟩
    . simp[OwnM.set] at q
    . simp[OwnM.set] at q
    . simp only[OwnM.set,if_true,Option.some.injEq,Own.part.injEq] at q
      subst q;exact absurd rfl hg
  . simpa[Covers,OwnM.set,hcb] using hc
theorem Pool.token (h:Pool Z kk OO J M w t) {j b:Nat} (hb:∀ i,OO i b=none) (hw:∃ c e,w.heap[b]? = some (.cells c e (0,0))∧(kk j).sh b=some (e,c.size)) (hlow:Z.W0.heap.size≤b) :
    Pool Z kk (updK OO j ((OO j).set b (.part tokF))) J M w t:=by
  have hcov:∀ i c n,Covers (updK OO j ((OO j).set b (.part tokF)) i) c n->Covers (OO i) c n:=fun i c n hc=>by
    by_cases hi:i=j
    . subst hi;rw[updK_same] at hc;exact covers_tok hc
    . rw[updK_ne _ _ hi] at hc;exact hc
  have hobj:∀ i c o,updK OO j ((OO j).set b (.part tokF)) i c=some (.obj o)->OO i c=some (.obj o):=fun i c o hc=>by
    by_cases hi:i=j
    . subst hi
      rw[updK_same] at hc
      by_cases hcb:c=b
      . subst hcb;simp[OwnM.set] at hc
      . simpa[OwnM.set,hcb] using hc
    . rw[updK_ne _ _ hi] at hc;exact hc
  have hS:Sat (kk j) ((OO j).set b (.part tokF)) w:=by
    refine⟨fun c n v hv hc=>(h.sat j).apart c n v hv (covers_tok hc),(h.sat j).cell,(h.sat j).sh,fun c o hc=>?_,fun c n hc=>?_,fun c g hc=>?_⟩
    . by_cases hcb:c=b
      . subst hcb;simp[OwnM.set] at hc
      . exact (h.sat j).obj c o (by simpa[OwnM.set,hcb] using hc)
    . by_cases hcb:c=b
      . subst hcb;simp[OwnM.set] at hc
      . exact (h.sat j).tail c n (by simpa[OwnM.set,hcb] using hc)
    . by_cases hcb:c=b
      . subst hcb
        simp only[OwnM.set,if_true,Option.some.injEq,Own.part.injEq] at hc;subst hc;obtain⟨c',e,h1,h2⟩:=hw;exact⟨c',e,h1,h2,fun n v hv=>by cases hv⟩
      . exact (h.sat j).part c g (by simpa[OwnM.set,hcb] using hc)
  refine⟨fun i=>?_,fun i l c x hij hx=>?_,fun i l c n v hij hv hc=>h.cross i l c n v hij hv (hcov i c n hc),fun i n a ha hm=>?_,h.clean,h.seen,h.acc,h.n0,h.over0,fun a ha=>⟨(h.shunC a ha).1,fun i=>⟨fun hc=>((h.shunC a ha).2 i).1 (hcov i _ _ hc),((h.shunC a ha).2 i).2⟩⟩,fun r hr=>⟨(h.shunO r hr).1,fun i o hc=>(h.shunO r hr).2 i o (hobj i r o hc)⟩,h.fram,fun i c x hc=>?_⟩
  . by_cases hi:i=j
    . subst hi;rw[updK_same];exact hS
    . rw[updK_ne _ _ hi];exact h.sat i
  . by_cases hcb:c=b
    . subst hcb
      by_cases hl:l=j
      . subst hl
        rw[updK_ne _ _ hij,hb i] at hx;cases hx
      . rw[updK_ne _ _ hl];exact hb l
    . have e:∀ l,updK OO j ((OO j).set b (.part tokF)) l c=OO l c:=fun l=>by
        by_cases hl:l=j
        . subst hl;rw[updK_same];simp[OwnM.set,hcb]
        . rw[updK_ne _ _ hl]
      rw[e] at hx ⊢;exact h.dis i l c x hij hx
  . rcases h.sees i n a ha hm with h1|h1
    . exact .inl h1
    . refine .inr ?_
      unfold Away at h1 ⊢;split
      . next ad hl=>rw[hl] at h1;exact⟨h1.1,fun hc=>h1.2.1 (hcov i _ _ hc),h1.2.2⟩
      . next r hl=>rw[hl] at h1;exact⟨h1.1,fun o hc=>h1.2 o (hobj i r o hc)⟩
      . trivial
  . by_cases hi:i=j
    . subst hi
      rw[updK_same] at hc
      by_cases hcb:c=b
      . subst hcb;exact hlow
      . exact h.mine i c x (by simpa[OwnM.set,hcb] using hc)
    . rw[updK_ne _ _ hi] at hc;exact h.mine i c x hc
end
section
variable {Z:Base} {kk:Nat->Know} {OO:Nat->OwnM} {J M:Nat->Prop} {w:World} {t:Trace}
def takesK (kk:Nat->Know) (lk i:Nat):Nat->Know:=updK kk i ((kk i).join (kk lk))
def takesO (OO:Nat->OwnM) (lk i mb:Nat) (x:Own):Nat->OwnM:=updK (updK OO i ((OO i).set mb x)) lk OwnM.bot
theorem Pool.takes (h:Pool Z kk OO J M w t) {i mb:Nat} {x:Own} (hi:i≠Z.lk) (hx:OO Z.lk mb=some x) (ho:∀ c,OO Z.lk c≠none->c=mb) (hla:Z.la.block<w.heap.size) (hd:Deaf t i=0) (hold:∀ m a,m<Z.N0->touchAt t m=some a->a.loc.isMemory=true -> ¬ Z.Shun a.loc->Knows t i m) (hnr:∀ m a,Z.N0≤m->t.act? m≠some (.mark (.release a))) (fn:FuncId) (pos:String) :
    Pool Z (takesK kk Z.lk i) (takesO OO Z.lk i mb x) J M w (t ++ MemOp.ofEvents i fn pos #[⟨.mark (.acquire Z.la),false,true⟩]):=by
  obtain⟨u,hu⟩:∃ u,u=MemOp.ofEvents i fn pos #[⟨.mark (.acquire Z.la),false,true⟩]:=⟨_,rfl⟩;have hu':u=#[⟨i,fn,pos,.mark (.acquire Z.la)⟩]:=by rw[hu,ofEvents_eq];simp[MemAct.ofEvent]
  rw[← hu];have hloud:Loud u:=fun op hop=>by rw[hu'] at hop;simp at hop;subst hop;simp
  have hnt:∀ op∈u,op.act.touch? = none:=fun op hop=>by rw[hu'] at hop;simp at hop;subst hop;rfl
  have hops:∀ op∈u,op.g=i:=fun op hop=>by rw[hu'] at hop;simp at hop;subst hop;rfl
  have hnr':∀ m a,Z.N0≤m->(t ++ u).act? m≠some (.mark (.release a)):=fun m a hm e=>by
    rcases act_split e with ⟨h1,_⟩|⟨op,hop,h1⟩
    . exact hnr m a hm h1
    . rw[hu'] at hop;simp at hop;subst hop;simp at h1
  have hOi:OO i mb=none:=h.dis Z.lk i mb x (Ne.symm hi) hx;have eK:∀ l,l≠i->takesK kk Z.lk i l=kk l:=fun l hl=>updK_ne _ _ hl
  have eKi:takesK kk Z.lk i i=(kk i).join (kk Z.lk):=updK_same _ _ _;have eO:∀ l,l≠i->l≠Z.lk->takesO OO Z.lk i mb x l=OO l:=fun l h1 h2=>by unfold takesO;rw[updK_ne _ _ h2,updK_ne _ _ h1]
  have eOi:takesO OO Z.lk i mb x i=(OO i).set mb x:=by unfold takesO;rw[updK_ne _ _ hi,updK_same]
  have eOl:takesO OO Z.lk i mb x Z.lk=OwnM.bot:=by unfold takesO;rw[updK_same]
  refine h.flow (fun a b=>a=b∨(a=Z.lk∧b=i)) rfl ⟨⟨.refl _,rfl⟩,fun _ _=>rfl⟩ (fun b => .inl rfl) (fun op hop=>by rw[hu'] at hop;simp at hop;subst hop;simpa[MemAct.low] using hla) (fun a b e n y hta hm hz hk=>?_) (fun l b n v hv=>?_) (fun l b sv hv=>?_) (fun l b y hy=>?_) (fun a l b y hal hy=>?_)
    (fun said=>noRace_append (h.clean said) hops fun n a ha op hop b hb _=>by rw[hnt op hop] at hb;cases hb) (fun op hop a ha=>by rw[hnt op hop] at ha;cases ha) (fun m op a hop ha=>by rw[hnt op (Array.mem_of_getElem? hop)] at ha;cases ha)
    (fun n a ha hm h=>h.elim (fun ⟨j,h1,h2⟩ => .inr (.inl ⟨j,h1,h2.app _⟩)) (fun ⟨p,h1,h2⟩ => .inr (.inr (.inl ⟨p,h1,h2.app _⟩))))
  . rcases e with rfl|⟨rfl,rfl⟩
    . exact hk.app u
    . refine (kno_of hi).2 ?_
      unfold Kno at hk;rw[if_pos rfl] at hk
      rcases hk with hk|⟨p,h0,h1,h2,h3⟩
      . exact (hold n y hk hta hm hz).app u
      . exact knows_acquire (y:=⟨b,fn,pos,.mark (.acquire Z.la)⟩) (m:=0) hloud (by rw[hu'];rfl) rfl hd h1 h2 (fun k hk=>hnr' k _ (by omega)) h3
  . by_cases e:l=i
    . subst e;rw[eKi] at hv
      exact (Know.join_cell hv).elim (fun h=>⟨l,.inl rfl,h⟩) (fun h=>⟨Z.lk,.inr ⟨rfl,rfl⟩,h⟩)
    . rw[eK l e] at hv;exact⟨l,.inl rfl,hv⟩
  . by_cases e:l=i
    . subst e;rw[eKi] at hv
      exact (Know.join_sh hv).elim (fun h=>⟨l,.inl rfl,h⟩) (fun h=>⟨Z.lk,.inr ⟨rfl,rfl⟩,h⟩)
    . rw[eK l e] at hv;exact⟨l,.inl rfl,hv⟩
  . by_cases e:l=i
    . subst e;rw[eOi] at hy
      by_cases eb:b=mb
      . subst eb
        simp only[OwnM.set,if_true,Option.some.injEq] at hy;subst hy;exact⟨Z.lk,.inr ⟨rfl,rfl⟩,hx,fun sv hs=>by rw[eKi];exact (Know.le_join' (h.sat l) (h.sat Z.lk)).2 b sv hs⟩
      . simp only[OwnM.set,eb,if_false] at hy
        exact⟨l,.inl rfl,hy,fun sv hs=>by rw[eKi];exact (Know.le_join _ _).2 b sv hs⟩
    . by_cases e2:l=Z.lk
      . subst e2;rw[eOl] at hy;cases hy
      . rw[eO l e e2] at hy;exact⟨l,.inl rfl,hy,fun sv hs=>by rw[eK l e];exact hs⟩
  . by_cases ea2:a=Z.lk
    . subst ea2;rw[eOl] at hy;cases hy
    by_cases el2:l=Z.lk
    . subst el2;rw[eOl];rfl
    by_cases ea:a=i
    . subst ea
      rw[eOi] at hy;rw[eO l (Ne.symm hal) el2]
      by_cases eb:b=mb
      . subst eb;exact h.dis Z.lk l b x (Ne.symm el2) hx
      . simp only[OwnM.set,eb,if_false] at hy;exact h.dis a l b y hal hy
    . rw [eO a ea ea2] at hy
      by_cases el:l=i
      . subst el
        rw[eOi]
        by_cases eb:b=mb
        . subst eb
          have:=h.dis Z.lk a b x (Ne.symm ea2) hx;rw[hy] at this;cases this
        . simp only[OwnM.set,eb,if_false];exact h.dis a l b y hal hy
      . rw[eO l el el2];exact h.dis a l b y hal hy
end
section
variable {Z:Base} {kk:Nat->Know} {OO:Nat->OwnM} {J M:Nat->Prop} {w:World} {t:Trace}
def givesK (kk:Nat->Know) (lk i:Nat):Nat->Know:=updK kk lk (kk i)
def givesO (OO:Nat->OwnM) (lk i mb fb:Nat) (x:Own):Nat->OwnM:=updK (updK OO i (((OO i).del mb).del fb)) lk (OwnM.bot.set mb x)
theorem Pool.gives (h:Pool Z kk OO J M w t) {i mb fb:Nat} {x:Own} (hi:i≠Z.lk) (hx:OO i mb=some x) (ho:∀ c,OO Z.lk c=none) (hla:Z.la.block<w.heap.size) (hd:Deaf t i=0) (fn:FuncId) (pos:String) :
    Pool Z (givesK kk Z.lk i) (givesO OO Z.lk i mb fb x) J M w (t ++ MemOp.ofEvents i fn pos #[⟨.mark (.releaseMerge Z.la),false,true⟩]):=by
  obtain⟨u,hu⟩:∃ u,u=MemOp.ofEvents i fn pos #[⟨.mark (.releaseMerge Z.la),false,true⟩]:=⟨_,rfl⟩;have hu':u=#[⟨i,fn,pos,.mark (.releaseMerge Z.la)⟩]:=by rw[hu,ofEvents_eq];simp[MemAct.ofEvent]
  rw[← hu];have hloud:Loud u:=fun op hop=>by rw[hu'] at hop;simp at hop;subst hop;simp
  have hnt:∀ op∈u,op.act.touch? = none:=fun op hop=>by rw[hu'] at hop;simp at hop;subst hop;rfl
  have hops:∀ op∈u,op.g=i:=fun op hop=>by rw[hu'] at hop;simp at hop;subst hop;rfl
  have hu0:u[0]? = some ⟨i,fn,pos,.mark (.releaseMerge Z.la)⟩:=by rw[hu'];rfl
  have eK:∀ l,l≠Z.lk->givesK kk Z.lk i l=kk l:=fun l hl=>updK_ne _ _ hl
  have eKl:givesK kk Z.lk i Z.lk=kk i:=updK_same _ _ _;have eO:∀ l,l≠i->l≠Z.lk->givesO OO Z.lk i mb fb x l=OO l:=fun l h1 h2=>by unfold givesO;rw[updK_ne _ _ h2,updK_ne _ _ h1]
  have eOi:givesO OO Z.lk i mb fb x i=((OO i).del mb).del fb:=by unfold givesO;rw[updK_ne _ _ hi,updK_same]
  have eOl:givesO OO Z.lk i mb fb x Z.lk=OwnM.bot.set mb x:=by unfold givesO;rw[updK_same]
  have hdel:∀ b y,(((OO i).del mb).del fb) b=some y->b≠mb∧OO i b=some y:=fun b y hy=>by
    by_cases e1:b=fb
    . simp[OwnM.del,e1] at hy
    by_cases e2:b=mb
    . simp[OwnM.del,e2] at hy
    . exact⟨e2,by simpa[OwnM.del,e1,e2] using hy⟩
  have hset:∀ b y,(OwnM.bot.set mb x) b=some y->b=mb∧y=x:=fun b y hy=>by
    by_cases e:b=mb
    . subst e;simp only[OwnM.set,if_true,Option.some.injEq] at hy;exact⟨rfl,hy.symm⟩
    . simp only[OwnM.set,e,if_false] at hy;cases hy
  have hnone:∀ b,OO i b=none->(((OO i).del mb).del fb) b=none:=fun b hn=>by
    by_cases e1:b=fb
    . simp[OwnM.del,e1]
    by_cases e2:b=mb
    . simp[OwnM.del,e2]
    . simpa[OwnM.del,e1,e2] using hn
  refine h.flow (fun a b=>a=b∨(a=i∧b=Z.lk)) rfl ⟨⟨.refl _,rfl⟩,fun _ _=>rfl⟩ (fun b => .inl rfl) (fun op hop=>by rw[hu'] at hop;simp at hop;subst hop;simpa[MemAct.low] using hla) (fun a b e n y hta hm hz hk=>?_) (fun l b n v hv=>?_) (fun l b sv hv=>?_) (fun l b y hy=>?_) (fun a l b y hal hy=>?_)
    (fun said=>noRace_append (h.clean said) hops fun n a ha op hop b hb _=>by rw[hnt op hop] at hb;cases hb) (fun op hop a ha=>by rw[hnt op hop] at ha;cases ha) (fun m op a hop ha=>by rw[hnt op (Array.mem_of_getElem? hop)] at ha;cases ha)
    (fun n a ha hm h=>h.elim (fun ⟨j,h1,h2⟩ => .inr (.inl ⟨j,h1,h2.app _⟩)) (fun ⟨p,h1,h2⟩ => .inr (.inr (.inl ⟨p,h1,h2.app _⟩))))
  . rcases e with rfl|⟨rfl,rfl⟩
    . exact hk.app u
    . have hk':Knows t a n:=(kno_of hi).1 hk
      unfold Kno;rw[if_pos rfl];exact .inr ⟨t.size+0,by have:=h.n0;omega,by rw[act?_of (get_new hu0)],heard_new hloud hu0 hd,before_new hk' hu0 rfl⟩
  . by_cases e:l=Z.lk
    . subst e;rw[eKl] at hv;exact⟨i,.inr ⟨rfl,rfl⟩,hv⟩
    . rw[eK l e] at hv;exact⟨l,.inl rfl,hv⟩
  . by_cases e:l=Z.lk
    . subst e;rw[eKl] at hv;exact⟨i,.inr ⟨rfl,rfl⟩,hv⟩
    . rw[eK l e] at hv;exact⟨l,.inl rfl,hv⟩
  . by_cases e2:l=Z.lk
    . subst e2;rw[eOl] at hy
      obtain⟨rfl,rfl⟩:=hset b y hy;exact⟨i,.inr ⟨rfl,rfl⟩,hx,fun sv hs=>by rw[eKl];exact hs⟩
    by_cases e:l=i
    . subst e;rw[eOi] at hy
      exact⟨l,.inl rfl,(hdel b y hy).2,fun sv hs=>by rw[eK l e2];exact hs⟩
    . rw[eO l e e2] at hy;exact⟨l,.inl rfl,hy,fun sv hs=>by rw[eK l e2];exact hs⟩
  . by_cases ea2:a=Z.lk
    . subst ea2;rw[eOl] at hy
      obtain⟨rfl,rfl⟩:=hset b y hy
      by_cases el:l=i
      . subst el;rw[eOi]
        by_cases e1:b=fb
        . simp[OwnM.del,e1]
        . simp[OwnM.del,e1]
      . rw[eO l el (Ne.symm hal)];exact h.dis i l b y (Ne.symm el) hx
    by_cases el2:l=Z.lk
    . subst el2;rw[eOl]
      have hbm:b≠mb:=by
        by_cases ea:a=i
        . subst ea;rw[eOi] at hy;exact (hdel b y hy).1
        . rw[eO a ea ea2] at hy
          intro e;subst e;have:=h.dis a i b y ea hy;rw[hx] at this;cases this
      simp only[OwnM.set,hbm,if_false];rfl
    by_cases ea:a=i
    . subst ea
      rw[eOi] at hy;rw[eO l (Ne.symm hal) el2];exact h.dis a l b y hal (hdel b y hy).2
    . rw[eO a ea ea2] at hy
      by_cases el:l=i
      . subst el;rw[eOi];exact hnone b (h.dis a l b y hal hy)
      . rw[eO l el el2];exact h.dis a l b y hal hy
end
section
variable {P:Program} {A:Mart} {Fin:Know->OwnM->Goroutine->Prop} {Z:Base} {s:MS P} {f:Nat->Node P} {q:Nat->Nat} {kk:Nat->Know} {OO:Nat->OwnM} {J M:Nat->Prop} {gs:Array Goroutine} {gsz:Nat} {w:World} {t u:Trace} {j:Nat} {g:Goroutine} {x:WSt P} {xo:Own}
theorem owns_held {x:WSt P} (h:x.owns=true):x.pc = .held:=by
  cases x with
  | run b X=>cases b <;> simp_all [WSt.owns,WSt.pc]
  | un p Y=>cases p <;> simp_all [WSt.owns,WSt.pc,MPc.abs]
  | _=>simp_all [WSt.owns]
theorem one_held (I:GrpI A.n s) (hj:j<A.n) (hp:(s.w j).pc = .held) {l:Nat} (hl:l<A.n) (ho:(s.w l).owns=true):l=j:=by
  by_cases e:l=j
  . exact e
  . have h1:=I.mu.j1
    have h2:=Mu.tot_set Mu.cHeld (fun i=>(s.w i).pc) j .out hj
    have h3:Mu.cHeld (Mu.set (fun i=>(s.w i).pc) j .out l)≤Mu.tot A.n (fun i=>Mu.cHeld (Mu.set (fun i=>(s.w i).pc) j .out i)):=Mu.tot_ge (fun i=>Mu.cHeld (Mu.set (fun i=>(s.w i).pc) j .out i)) hl
    rw[Mu.set_ne _ _ e,owns_held ho] at h3;have c1:Mu.cHeld .held=1:=rfl;have c0:Mu.cHeld .out=0:=rfl;rw[hp] at h2;have:s.sh.w.L.toNat≤1:=by cases s.sh.w.L <;> simp
    omega
def takeO (A:Mart) (Z:Base) (OO:Nat->OwnM) (i:Nat) (x:Own):Nat->OwnM:=updK (takesO OO Z.lk i A.mb x) i ((takesO OO Z.lk i A.mb x i).set A.fb (.part tokF))
theorem MEx.take (hZ:A.b+A.n+1≤Z.lk) (h:MEx P A Z s kk OO J M gsz w t) (hj:j<A.n) (h1:(s.w j).work=true) (h2:x.work=true) (hno:∀ l,l<A.n->(s.w l).owns=false) (hx:x.owns=true) (hI:GrpI A.n (s.setW j x s.sh)) (hu:∀ op∈u,op.act.touch? = none∧∀ a,op.act ≠ .mark (.release a)) :
    MEx P A Z (s.setW j x s.sh) (takesK kk Z.lk (A.b+j)) (takeO A Z OO (A.b+j) xo) J M gsz w (t ++ u):=by
  have hi:A.b+j≠Z.lk:=by omega
  have hbusy:x.busy=(s.w j).busy:=by rw[(work_facts h1).2.2.2.2.2.1,(work_facts h2).2.2.2.2.2.1]
  have eK:∀ l,l≠A.b+j->takesK kk Z.lk (A.b+j) l=kk l:=fun l hl=>updK_ne _ _ hl
  have eKi:takesK kk Z.lk (A.b+j) (A.b+j)=(kk (A.b+j)).join (kk Z.lk):=updK_same _ _ _;have eO:∀ l,l≠A.b+j->l≠Z.lk->takeO A Z OO (A.b+j) xo l=OO l:=fun l h1 h2=>by unfold takeO takesO;rw[updK_ne _ _ h1,updK_ne _ _ h2,updK_ne _ _ h1]
  have eOi:takeO A Z OO (A.b+j) xo (A.b+j)=((OO (A.b+j)).set A.mb xo).set A.fb (.part tokF):=by unfold takeO takesO;rw[updK_same,updK_ne _ _ hi,updK_same]
  have eOl:takeO A Z OO (A.b+j) xo Z.lk=OwnM.bot:=by unfold takeO takesO;rw[updK_ne _ _ (Ne.symm hi),updK_same]
  have hbeg:begunM P A s (A.b+j):=begun_of h.I hj (work_facts h1).2.2.2.2.1
  have hnoF:∀ i,OO i A.fb=none:=fun i=>by
    cases e:OO i A.fb with
    | none=>rfl
    | some y=>
      obtain⟨l,_,hl,_,ho,_⟩:=h.tok i y e;rw[hno l hl] at ho;cases ho
  have hjn:∀ {c n:Nat},(∀ i,(kk i).cell c n=none)->(takesK kk Z.lk (A.b+j) (A.b+j)).cell c n=none:=fun {c n} hn=>by
    rw[eKi];cases e:((kk (A.b+j)).join (kk Z.lk)).cell c n with
    | none=>rfl
    | some v=>rcases Know.join_cell e with h|h <;> rw[hn] at h <;> cases h
  refine⟨hI,h.size,h.chF,h.mu,h.gr,h.inF,h.inG,fun i=>?_,fun i=>?_,fun i y hy=>?_,fun l hl hlo=>?_,fun hlo=>?_,fun c hc=>?_,
    fun i=>by rw[h.hJ i];exact (setW_busyM hj hbusy i).symm,h.hMApp u,h.shutApp u,h.quietApp u (fun op hop a ha=>by rw[(hu op hop).1] at ha;cases ha),h.saidApp u (fun op hop a ha=>by rw[(hu op hop).1] at ha;cases ha),h.oldApp u,h.norelApp u (fun op hop=>(hu op hop).2),fun i hl hb=>?_,h.shun,h.noshun,h.noshunO,h.la,by simp;exact Nat.le_trans h.n0 (Nat.le_add_right _ _)⟩
  . by_cases e:i=A.b+j
    . subst e;rw[eOi]
      have:=h.freeO (A.b+j);simp only[OwnM.set,A.d1,A.d3,Ne.symm A.d4,A.d6,if_false];exact this
    by_cases e2:i=Z.lk
    . subst e2;rw[eOl];exact⟨rfl,rfl⟩
    . rw[eO i e e2];exact h.freeO i
  . by_cases e:i=A.b+j
    . subst e
      exact⟨hjn fun i=>(h.freeK i).1,hjn fun i=>(h.freeK i).2.1,hjn fun i=>(h.freeK i).2.2.1,hjn fun i=>(h.freeK i).2.2.2⟩
    . rw[eK i e];exact h.freeK i
  . by_cases e:i=A.b+j
    . subst e;rw[eOi] at hy
      simp only[OwnM.set,if_true,Option.some.injEq] at hy;exact⟨j,tokF,hj,rfl,by rw[setW_same];exact hx,hy.symm,fun _=>rfl⟩
    by_cases e2:i=Z.lk
    . subst e2;rw[eOl] at hy;cases hy
    . rw[eO i e e2,hnoF] at hy;cases hy
  . by_cases e:l=j
    . subst e;rw[eOi];simp[OwnM.set]
    . rw[setW_ne e,hno l hl] at hlo;cases hlo
  . have:=hlo j hj
    rw[setW_same,hx] at this;cases this
  . rw[eOl] at hc;exact absurd rfl hc
  . have e:i≠A.b+j:=fun e=>hb (e ▸ hbeg)
    rw[eK i e,eO i e hl];exact h.fut i hl hb
end
section
variable {P:Program} {A:Mart} {Fin:Know->OwnM->Goroutine->Prop} {Z:Base} {s:MS P} {f:Nat->Node P} {q:Nat->Nat} {kk:Nat->Know} {OO:Nat->OwnM} {J M:Nat->Prop} {gs:Array Goroutine} {w:World} {t:Trace} {j:Nat} {g:Goroutine}
variable (C:MuChk P A.nm) (X:MuExt P A.nm) (F:MuFn P A.nm)
include C X F in
theorem stop_la (hZ:A.b+A.n+1≤Z.lk) (hC:Conf (mart P A Fin Z hZ) Z s f q kk OO J M gs w t) (hj:j<A.n) {Y:Susp P} (hw:s.w j = .lk .la Y) (hg:gs[A.b+j]? = some g) (hat:WAt P A j (.lk .la Y) (kk (A.b+j)) (OO (A.b+j)) g) (sl:Option (Nat × Nat)) :
    Goes P A Fin Z hZ s gs w t sl (A.b+j):=by
  have hE:MEx P A Z s kk OO J M gs.size w t:=hC.ex;have B:=mart_bears (P:=P) (A:=A) (Fin:=Fin) (Z:=Z) hZ;have h1:(s.w j).inLib=true:=by rw[hw];rfl
  have w1:=inLib_work h1;have hpc:(s.w j).pc = .held:=by rw[hw];rfl
  have hb:=A.hb;have hilk:A.b+j≠Z.lk:=by omega
  have hi0:(A.b+j == 0)=false:=by simp;omega
  have hno:∀ l,l<A.n->(s.w l).owns=false:=fun l hl=>by
    cases e:(s.w l).owns with
    | false=>rfl
    | true=>
      obtain rfl:=one_held hE.I hj hpc hl e;rw[hw] at e;cases e
  have hnoF:∀ i,OO i A.fb=none:=fun i=>by
    cases e:OO i A.fb with
    | none=>rfl
    | some y=>
      obtain⟨l,_,hl,_,ho,_⟩:=hE.tok i y e;rw[hno l hl] at ho;cases ho
  obtain⟨xo,a,hxo,hor,hgi⟩:=hE.lkO hno;obtain⟨kind,c,rest,e,hk,hM,hm,hO,hsh,hN⟩:=hat;have hle':(kk Z.lk).Le ((kk (A.b+j)).join (kk Z.lk)):=Know.le_join' (hC.pool.sat (A.b+j)) (hC.pool.sat Z.lk);have hN':=hN ((kk (A.b+j)).join (kk Z.lk)) xo a (Know.le_join _ _) (hor.mono hle') hgi (hC.pool.dis Z.lk (A.b+j) _ _ (Ne.symm hilk) hxo);obtain⟨g1,hst,hr,g2,hsil,hA⟩:=step_la (Wd:=fun _=>True) (main:=false) (w:=w) C X hM
  obtain⟨k,hk2⟩:=hsil.trans (mu_lock_back F hA hk);rw[← hE.la] at hst;have eKi:takesK kk Z.lk (A.b+j) (A.b+j)=(kk (A.b+j)).join (kk Z.lk):=updK_same _ _ _;have eOi:takeO A Z OO (A.b+j) xo (A.b+j)=((OO (A.b+j)).set A.mb xo).set A.fb (.part tokF):=by unfold takeO takesO;rw[updK_same,updK_ne _ _ hilk,updK_same]
  rw[← eKi,← eOi] at hN';obtain⟨T,hU⟩:=TT.pre hk2 (Y.c _ _ _ hN');obtain⟨x,hx⟩:∃ x:WSt P,x = .run true ⟨Y.m,takesK kk Z.lk (A.b+j) (A.b+j),takeO A Z OO (A.b+j) xo (A.b+j),_,Y.c _ _ _ hN'⟩:=⟨_,rfl⟩;have w2:x.work=true:=by rw[hx];rfl
  have hsx:∀ sh,((s.setW j x sh).w j) = .run true ⟨Y.m,takesK kk Z.lk (A.b+j) (A.b+j),takeO A Z OO (A.b+j) xo (A.b+j),_,Y.c _ _ _ hN'⟩:=fun sh=>by rw[setW_same,hx]
  have hrun:=runT_crowd_go (P:=P) (sl:=sl) (i:=A.b+j) hg (by rw[hi0];exact hst)
  have hwk:=walk_inLib (P:=P) (A:=A) (s:=s) hj h1
  have hd0:Deaf t (A.b+j)=0:=by
    obtain⟨_,_,hd0,_⟩:=hC.walk _ hwk;rw[hd0];show deafM P A s (A.b+j)=0;rw[deafM_at hj,hw];rfl
  have hbeg:begunM P A s (A.b+j):=begun_of hE.I hj (work_facts w1).2.2.2.2.1;have hJ:J (A.b+j):=(hE.hJ _).2 (busy_of hj (work_facts w1).2.2.2.2.2.1);have hops:∀ op∈MemOp.ofEvents (A.b+j) g.frame.fn g.frame.place #[⟨.mark (.acquire Z.la),false,true⟩],op.g=A.b+j:=fun op hop=>by obtain⟨e,_,rfl⟩:=Go.Conc.mem_ofEvents hop;rfl
  have hmu:∀ op∈MemOp.ofEvents (A.b+j) g.frame.fn g.frame.place #[⟨.mark (.acquire Z.la),false,true⟩],op.act.touch? = none∧∀ a,op.act ≠ .mark (.release a):=fun op hop=>by
    obtain⟨e,he,rfl⟩:=Go.Conc.mem_ofEvents hop;simp at he;subst he;exact⟨rfl,fun a h=>by simp[MemAct.ofEvent] at h⟩
  have hFlt:A.fb<w.heap.size:=by obtain⟨c,e,h1⟩:=hE.inF;exact (Array.getElem?_eq_some_iff.1 h1).1
  have hP1:=hC.pool.takes hilk hxo (fun c hc=>(hE.lkB c hc).1) (by rw[hE.la];exact hFlt) hd0 (fun m a hm ha hmem hz=>hE.old _ hbeg m a hm ha hmem hz) hE.norel g.frame.fn g.frame.place
  have hnone:∀ l,takesO OO Z.lk (A.b+j) A.mb xo l A.fb=none:=fun l=>by
    unfold takesO
    by_cases e1:l=Z.lk
    . subst e1;rw[updK_same];rfl
    by_cases e2:l=A.b+j
    . subst e2;rw[updK_ne _ _ e1,updK_same];simp only[OwnM.set,A.d5,if_false];exact hnoF _
    . rw[updK_ne _ _ e1,updK_ne _ _ e2];exact hnoF _
  have hP:=hP1.token (j:=A.b+j) hnone (by
    obtain⟨cc,ee,hcc⟩:=hE.inF;have hs:=(hC.pool.sat (A.b+j)).sh _ _ hsh;simp only[World.shape?,hcc] at hs;refine⟨cc,ee,hcc,?_⟩;rw[eKi];refine (Know.le_join _ _).2 _ _ ?_;rw[hsh];exact hs.symm) hE.noshunO.2.1
  have hI:GrpI A.n (s.setW j x s.sh):=hE.I.still hj w1 w2 (by rw[hx];rfl) (by rw[hx,hw];rfl)
  have hL:MS.Less A.n (s.setW j x s.sh) s:=less_nd hj w1 w2 ⟨_,_,by rw[hx];rfl,by rw[hw];rfl,.single (SubT.talk Y.N Y.h0 Y.ht Y.c hN')⟩
  have hEx:=hE.take (xo:=xo) hZ hj w1 w2 hno (by rw[hx];rfl) hI hmu
  have hbs:Beside (mart P A Fin Z hZ) s (s.setW j x s.sh) f (updK f (A.b+j) ⟨Y.m,takesK kk Z.lk (A.b+j) (A.b+j),takeO A Z OO (A.b+j) xo (A.b+j),g1,T⟩) q q kk (takesK kk Z.lk (A.b+j)) OO (takeO A Z OO (A.b+j) xo) J J w (A.b+j) g g1:=
    beside_work hZ hj w1 w2 (fun i hi=>updK_ne _ _ hi) (fun i hi=>rfl) (fun i hi _=>updK_ne _ _ hi) (fun i hi ht=>by unfold takeO takesO;rw[updK_ne _ _ hi,updK_ne _ _ (show i≠Z.lk by omega),updK_ne _ _ hi]) (fun _ h=>h) (.inl fun h=>h) (fun {i k O y} hA=>B.atRun (s:=s) (i:=i) (k:=k) (O:=O) (g:=y) hA)
  refine⟨_,_,hrun,s.setW j x s.sh,updK f (A.b+j) ⟨Y.m,takesK kk Z.lk (A.b+j) (A.b+j),takeO A Z OO (A.b+j) xo (A.b+j),g1,T⟩,q,takesK kk Z.lk (A.b+j),takeO A Z OO (A.b+j) xo,J,M,_,_,_,rfl,hL,?_⟩;refine Conf.step B hC hg hops hP hEx (fun l y hl hA=>?_) hbs ⟨fun _=>?_,fun h=>absurd h (nwalk_run hj (hsx _)),fun h=>absurd h (nheld_run hj (hsx _)),fun h=>absurd (live_run hj (hsx _)) h⟩
  . have hne:l≠A.b+j:=fun e=>(hC.held l hl).2.1 (by rw[e];exact hwk)
    exact B.wake hE hl _ _ hA
  . rw[updK_same]
    refine⟨by show A.b+j<A.b+A.n+1;omega,rfl,?_,rfl,rfl,hr,?_,.inr hJ,fun l b X' h3 h4 h5=>?_⟩
    . show Y.m=modeM P A Fin (s.setW j x s.sh) (A.b+j)
      rw[mode_run hj (hsx _)];exact hm
    . rw[Deaf_own,hd0];rfl
    . obtain rfl:l=j:=by omega
      rw[hsx] at h5;cases h5;exact hU
end
section
variable {P:Program} {A:Mart} {Fin:Know->OwnM->Goroutine->Prop} {Z:Base} {s:MS P} {f:Nat->Node P} {q:Nat->Nat} {kk:Nat->Know} {OO:Nat->OwnM} {J M:Nat->Prop} {gs:Array Goroutine} {gsz:Nat} {w:World} {t u:Trace} {j:Nat} {g:Goroutine} {x:WSt P} {xo:Own} {a:AObj}
theorem MEx.give (hZ:A.b+A.n+1≤Z.lk) (h:MEx P A Z s kk OO J M gsz w t) (hj:j<A.n) (h1:(s.w j).work=true) (h2:x.work=true) (hone:∀ l,l<A.n->(s.w l).owns=true->l=j) (hx:x.owns=false) (hI:GrpI A.n (s.setW j x s.sh)) (hor:ORel (kk (A.b+j)) xo a) (hgi:A.GI a) (hu:∀ op∈u,op.act.touch? = none∧∀ a,op.act ≠ .mark (.release a)) :
    MEx P A Z (s.setW j x s.sh) (givesK kk Z.lk (A.b+j)) (givesO OO Z.lk (A.b+j) A.mb A.fb xo) J M gsz w (t ++ u):=by
  have hi:A.b+j≠Z.lk:=by omega
  have hbusy:x.busy=(s.w j).busy:=by rw[(work_facts h1).2.2.2.2.2.1,(work_facts h2).2.2.2.2.2.1]
  have eK:∀ l,l≠Z.lk->givesK kk Z.lk (A.b+j) l=kk l:=fun l hl=>updK_ne _ _ hl
  have eKl:givesK kk Z.lk (A.b+j) Z.lk=kk (A.b+j):=updK_same _ _ _;have eO:∀ l,l≠A.b+j->l≠Z.lk->givesO OO Z.lk (A.b+j) A.mb A.fb xo l=OO l:=fun l h1 h2=>by unfold givesO;rw[updK_ne _ _ h2,updK_ne _ _ h1]
  have eOi:givesO OO Z.lk (A.b+j) A.mb A.fb xo (A.b+j)=((OO (A.b+j)).del A.mb).del A.fb:=by unfold givesO;rw[updK_ne _ _ hi,updK_same]
  have eOl:givesO OO Z.lk (A.b+j) A.mb A.fb xo Z.lk=OwnM.bot.set A.mb xo:=by unfold givesO;rw[updK_same]
  have hbeg:begunM P A s (A.b+j):=begun_of h.I hj (work_facts h1).2.2.2.2.1
  have hnew:∀ l,l<A.n->((s.setW j x s.sh).w l).owns=false:=fun l hl=>by
    by_cases e:l=j
    . subst e;rw[setW_same];exact hx
    . rw[setW_ne e]
      cases q:(s.w l).owns with
      | false=>rfl
      | true=>exact absurd (hone l hl q) e
  refine⟨hI,h.size,h.chF,h.mu,h.gr,h.inF,h.inG,fun i=>?_,fun i=>?_,fun i y hy=>?_,fun l hl hlo=>?_,fun hlo=>?_,fun c hc=>?_,
    fun i=>by rw[h.hJ i];exact (setW_busyM hj hbusy i).symm,h.hMApp u,h.shutApp u,h.quietApp u (fun op hop a ha=>by rw[(hu op hop).1] at ha;cases ha),h.saidApp u (fun op hop a ha=>by rw[(hu op hop).1] at ha;cases ha),h.oldApp u,h.norelApp u (fun op hop=>(hu op hop).2),fun i hl hb=>?_,h.shun,h.noshun,h.noshunO,h.la,by simp;exact Nat.le_trans h.n0 (Nat.le_add_right _ _)⟩
  . by_cases e2:i=Z.lk
    . subst e2;rw[eOl];simp only[OwnM.set,A.d3,A.d6,if_false];exact⟨rfl,rfl⟩
    by_cases e:i=A.b+j
    . subst e;rw[eOi]
      have:=h.freeO (A.b+j);simp only[OwnM.del,A.d1,A.d3,Ne.symm A.d4,A.d6,if_false];exact this
    . rw[eO i e e2];exact h.freeO i
  . by_cases e2:i=Z.lk
    . subst e2;rw[eKl];exact h.freeK _
    . rw[eK i e2];exact h.freeK i
  . exfalso
    by_cases e2:i=Z.lk
    . subst e2;rw[eOl] at hy
      simp only[OwnM.set,A.d5,if_false] at hy;cases hy
    by_cases e:i=A.b+j
    . subst e;rw[eOi] at hy;simp[OwnM.del] at hy
    . rw[eO i e e2] at hy
      obtain⟨l,_,hl,h3,ho,_⟩:=h.tok i y hy;exact e (by rw[h3,hone l hl ho])
  . rw[hnew l hl] at hlo;cases hlo
  . refine⟨xo,a,by rw[eOl];simp[OwnM.set],by rw[eKl];exact hor,hgi⟩
  . rw[eOl] at hc
    refine⟨?_,hnew⟩
    by_cases e:c=A.mb
    . exact e
    . simp only[OwnM.set,e,if_false] at hc;exact absurd rfl hc
  . have e:i≠A.b+j:=fun e=>hb (e ▸ hbeg)
    rw[eK i hl,eO i e hl];exact h.fut i hl hb
variable (C:MuChk P A.nm) (X:MuExt P A.nm)
include C X in
theorem stop_ur (hZ:A.b+A.n+1≤Z.lk) (hC:Conf (mart P A Fin Z hZ) Z s f q kk OO J M gs w t) (hj:j<A.n) {Y:Susp P} (hw:s.w j = .un .ur Y) (hg:gs[A.b+j]? = some g) (hat:WAt P A j (.un .ur Y) (kk (A.b+j)) (OO (A.b+j)) g) (sl:Option (Nat × Nat)) :
    Goes P A Fin Z hZ s gs w t sl (A.b+j):=by
  have hE:MEx P A Z s kk OO J M gs.size w t:=hC.ex;have B:=mart_bears (P:=P) (A:=A) (Fin:=Fin) (Z:=Z) hZ;have h1:(s.w j).inLib=true:=by rw[hw];rfl
  have w1:=inLib_work h1;have hpc:(s.w j).pc = .held:=by rw[hw];rfl
  have hb:=A.hb;have hilk:A.b+j≠Z.lk:=by omega
  have hi0:(A.b+j == 0)=false:=by simp;omega
  have hone:∀ l,l<A.n->(s.w l).owns=true->l=j:=fun l hl e=>one_held hE.I hj hpc hl e
  obtain⟨kind,c,rest,hk,hM,hm,hA1,hA2⟩:=hat;obtain⟨tf,xo,a,hfb,hmb,hor,hgi,hN⟩:=hA1 (.inr rfl);obtain⟨g1,hst,hr,g2,⟨k,hsil⟩,hA⟩:=step_ur (Wd:=wdM A) (main:=false) (w:=w) C X hM;rw[← hE.la] at hst;have eKi:givesK kk Z.lk (A.b+j) (A.b+j)=kk (A.b+j):=updK_ne _ _ hilk;have eOi:givesO OO Z.lk (A.b+j) A.mb A.fb xo (A.b+j)=((OO (A.b+j)).del A.mb).del A.fb:=by unfold givesO;rw[updK_ne _ _ hilk,updK_same]
  have hrun:=runT_crowd_go (P:=P) (sl:=sl) (i:=A.b+j) hg (by rw[hi0];exact hst)
  have hwk:=walk_inLib (P:=P) (A:=A) (s:=s) hj h1
  have hd0:Deaf t (A.b+j)=0:=by
    obtain⟨_,_,hd0,_⟩:=hC.walk _ hwk;rw[hd0];show deafM P A s (A.b+j)=0;rw[deafM_at hj,hw];rfl
  have hops:∀ op∈MemOp.ofEvents (A.b+j) g.frame.fn g.frame.place #[⟨.mark (.releaseMerge Z.la),false,true⟩],op.g=A.b+j:=fun op hop=>by obtain⟨e,_,rfl⟩:=Go.Conc.mem_ofEvents hop;rfl
  have hmu:∀ op∈MemOp.ofEvents (A.b+j) g.frame.fn g.frame.place #[⟨.mark (.releaseMerge Z.la),false,true⟩],op.act.touch? = none∧∀ a,op.act ≠ .mark (.release a):=fun op hop=>by
    obtain⟨e,he,rfl⟩:=Go.Conc.mem_ofEvents hop;simp at he;subst he;exact⟨rfl,fun a h=>by simp[MemAct.ofEvent] at h⟩
  have hFlt:A.fb<w.heap.size:=by obtain⟨c,e,h1⟩:=hE.inF;exact (Array.getElem?_eq_some_iff.1 h1).1
  have hlk0:∀ c,OO Z.lk c=none:=fun c=>by
    cases e:OO Z.lk c with
    | none=>rfl
    | some y=>
      have:=(hE.lkB c (by rw[e];simp)).2 j hj
      rw[hw] at this;cases this
  have hP:=hC.pool.gives (fb:=A.fb) hilk hmb hlk0 (by rw[hE.la];exact hFlt) hd0 g.frame.fn g.frame.place
  obtain⟨x,hx⟩:∃ x:WSt P,x = .un .ud Y:=⟨_,rfl⟩;have w2:x.work=true:=by rw[hx];rfl
  have hx':((s.setW j x s.sh).w j).inLib=true:=by rw[setW_same,hx];rfl
  have hI:GrpI A.n (s.setW j x s.sh):=hE.I.still hj w1 w2 (by rw[hx];rfl) (by rw[hx,hw];rfl)
  have hL:MS.Less A.n (s.setW j x s.sh) s:=less_still hj w1 w2 (by rw[hx,hw];rfl) (by rw[hx,hw];rfl) (by rw[hx,hw];simp[WSt.ex])
  have hEx:=hE.give hZ hj w1 w2 hone (by rw[hx];rfl) hI hor hgi hmu
  have hbs:Beside (mart P A Fin Z hZ) s (s.setW j x s.sh) f f q (upd q (A.b+j) k) kk (givesK kk Z.lk (A.b+j)) OO (givesO OO Z.lk (A.b+j) A.mb A.fb xo) J J w (A.b+j) g g1:=
    beside_work hZ hj w1 w2 (fun i hi=>rfl) (fun i hi=>upd_ne q k hi) (fun i hi ht=>updK_ne _ _ (show i≠Z.lk by omega)) (fun i hi ht=>by unfold givesO;rw[updK_ne _ _ (show i≠Z.lk by omega),updK_ne _ _ hi]) (fun _ h=>h) (.inl fun h=>h) (fun {i k O y} hA=>B.atRun (s:=s) (i:=i) (k:=k) (O:=O) (g:=y) hA)
  refine⟨_,_,hrun,s.setW j x s.sh,f,upd q (A.b+j) k,givesK kk Z.lk (A.b+j),givesO OO Z.lk (A.b+j) A.mb A.fb xo,J,M,_,_,_,rfl,hL,?_⟩;refine Conf.step B hC hg hops hP hEx (fun l y hl hA=>B.wake hE hl _ _ hA) hbs ⟨fun hl=>absurd hl (nlive_inLib hj hx'),fun _=>⟨nlive_inLib hj hx',?_,?_,g2,?_,?_⟩,fun hh=>absurd hh (nheld_inLib hj hx'),fun _ hn _=>absurd (walk_inLib hj hx') hn⟩
  . show A.b+j<A.b+A.n+1;omega
  . rw[Deaf_own,hd0]
    show _=deafM P A (s.setW j x s.sh) (A.b+j);rw[deafM_at hj,setW_same,hx];rfl
  . refine .inr (.inl ⟨j,hj,rfl,?_⟩)
    rw[setW_same,hx,eKi,eOi];exact⟨kind,c,rest,hk,hA,hm,fun h=>absurd h (by simp),fun _=>hN⟩
  . exact .inr (by rw[upd_same];exact hsil)
end
end Go.Pal
