/- Part 23 of the proof. -/
import Derived.Test.YtibjfmfdjncniaaGreatDoorC22
set_option linter.all false
namespace Go.Pal
open Go.Conc
open Go.ConcN (sumTo upd sumTo_upd upd_ne upd_same)
def closeEs (c:Nat):Array Event:=#[⟨.obj c,false,true⟩,⟨.obj c,true,true⟩]
theorem closeEs_ops (i:Nat) (fn:FuncId) (pos:String) (c:Nat):MemOp.ofEvents i fn pos (closeEs c)=#[{ g:=i,fn:=fn,pos:=pos,act:=.access ⟨.obj c,false,true⟩ },{ g:=i,fn:=fn,pos:=pos,act:=.close c }]:=by
  rw[ofEvents_eq];simp[closeEs,MemAct.ofEvent]
theorem closeEs_mem {i:Nat} {fn:FuncId} {pos:String} {c:Nat} {op:MemOp} (h:op∈MemOp.ofEvents i fn pos (closeEs c)):op.g=i∧(op.act ≠ .mark .disable∧op.act ≠ .mark .enable)∧(∀ a,op.act.touch? = some a->a.loc = .obj c∧a.kind = .atomic)∧(∀ B,c<B->op.act.low B)∧∀ a,op.act ≠ .mark (.release a):=by
  rw[closeEs_ops] at h;simp only[List.mem_toArray,List.mem_cons,List.not_mem_nil,or_false] at h
  rcases h with rfl|rfl
  . exact⟨rfl,⟨by simp,by simp⟩,fun a ha=>by simp only[MemAct.touch?,Option.some.injEq] at ha;subst ha;exact⟨rfl,rfl⟩,fun B hB=>hB,by simp⟩
  . exact⟨rfl,⟨by simp,by simp⟩,fun a ha=>(by cases ha),fun B hB=>hB,by simp⟩
section
variable {P:Program} {A:Mart} {Fin:Know->OwnM->Goroutine->Prop} {Z:Base} {s s':MS P} {f f':Nat->Node P} {q q':Nat->Nat} {kk kk':Nat->Know} {OO OO':Nat->OwnM} {J J' M M':Nat->Prop} {gs gs':Array Goroutine} {w w':World} {t u:Trace} {j:Nat} {g g₂:Goroutine} {z v:Value}
theorem RecvStep.again {k:Know} {O:OwnM} {g g₂:Goroutine} {z z':Value} (h:RecvStep P A k O g g₂ z) (hr:g.status = .running) (sh:CommShape):RecvStep P A k O { parked g #[rcase A.cF z'] sh with status:=.running } g₂ z:=fun w hw=>by
  rw[stepG_tries];have:({ g with status:=.running }:Goroutine)=g:=by cases g;simp only at hr;subst hr;rfl
  rw[this];exact h w hw
theorem moR_again {m:Nat} {R:List Nat} {k:Know} {O:OwnM} {g:Goroutine} {z:Value} {sh:CommShape} {N:Know->OwnM->Goroutine->Prop} (h:(moR P A Fin m R).talk k O g N) (hr:g.status = .running) :
    T P (moR P A Fin m R) noQ k O { parked g #[rcase A.cF z] sh with status:=.running }:=by
  refine .talk noQ rfl ?_ (fun _ _ _ h=>h.elim)
  cases m with
  | zero=>obtain⟨_,g₂,y,h1,h2,h3,h4⟩:=h;exact⟨rfl,g₂,y,h1.again hr sh,h2,h3,h4⟩
  | succ m=>obtain⟨_,g₂,y,h1,h2,h3,h4⟩:=h;exact⟨rfl,g₂,y,h1.again hr sh,h2,h3,h4⟩
theorem Pool.shut (h:Pool Z kk OO J M w t) {i c:Nat} {x:Nat} {tm:Bool} (hJ:∀ l,J l->l=i) (hMn:∀ p,¬ M p) (hc:w.heap[c]? = some (.chan 0 #[] false x x tm)) (hf:∀ l,OO l c=none) (hkn:∀ n b,touchAt t n=some b->b.loc = .obj c->b.kind = .plain->Knows t i n) (hlow:Z.W0.heap.size≤c) (fn:FuncId) (pos:String) :
    Pool Z kk OO (fun _=>False) (fun p=>p=t.size+1) { w with heap:=w.heap.setIfInBounds c (.chan 0 #[] true x x tm) } (t ++ MemOp.ofEvents i fn pos (closeEs c)):=by
  have hcl:c<w.heap.size:=(Array.getElem?_eq_some_iff.1 hc).1;have hop1:(MemOp.ofEvents i fn pos (closeEs c))[1]? = some { g:=i,fn:=fn,pos:=pos,act:=.close c }:=by rw[closeEs_ops];rfl
  have hheap:∀ b,(w.heap.setIfInBounds c (.chan 0 #[] true x x tm))[b]? = if b=c then some (.chan 0 #[] true x x tm) else w.heap[b]?:=fun b=>by
    by_cases hbc:b=c
    . subst hbc;rw[if_pos rfl];exact Array.getElem?_setIfInBounds_self_of_lt hcl
    . rw[if_neg hbc];exact Array.getElem?_setIfInBounds_ne (Ne.symm hbc)
  refine h.flow (fun a b=>a=b) (by simp) ⟨⟨.refl _,rfl⟩,fun b hb=>by show (w.heap.setIfInBounds c (.chan 0 #[] true x x tm))[b]? = _;rw[hheap,if_neg (by omega)]⟩ (fun b=>?_) (fun op hop=>(closeEs_mem hop).2.2.2.1 _ hcl) (fun a b e n y _ _ _ hk=>by subst e;exact hk.app _) (fun j b n v h=>⟨j,rfl,h⟩) (fun j b s h=>⟨j,rfl,h⟩) (fun j b x h=>⟨j,rfl,h,fun _ h=>h⟩) h.dis
    (fun said=>noRace_append (h.clean said) (fun op hop=>(closeEs_mem hop).1) fun n a ha op hop b hb hc=>?_) (fun op hop a ha hm=>?_) (fun m op a hop ha hm=>?_) (fun n a ha hm hh=>?_)
  . show Kept kk OO w _ b
    unfold Kept;rw[hheap]
    by_cases hbc:b=c
    . subst hbc
      exact .inr (.inl ⟨⟨_,_,_,_,_,_,hc⟩,⟨_,_,_,_,_,_,by rw[hheap,if_pos rfl]⟩,hf⟩)
    . rw[if_neg hbc];exact .inl rfl
  . obtain⟨e1,e2⟩:=(closeEs_mem hop).2.2.1 b hb
    obtain⟨c1,_,_,c4⟩:=hc
    rcases c4 with c4|c4|⟨_,_,c4⟩
    . exact hkn n a ha (c1.trans e1) c4
    . rw[e2] at c4;cases c4
    . rw[e2] at c4;cases c4
  . obtain⟨e1,e2⟩:=(closeEs_mem hop).2.2.1 a ha
    rw[e1];exact⟨hcl,fun l o ho=>by rw[hf l] at ho;cases ho⟩
  . refine .inr (.inr (.inl ⟨t.size+1,rfl,?_⟩))
    have hm0:m=0:=by
      rw[closeEs_ops] at hop
      match m,hop with
      | 0,_=>rfl
      | 1,hop=>simp at hop;subst hop;simp[MemAct.touch?] at ha
      | m+2,hop=>simp at hop
    subst hm0;exact .inr (hb_po (by omega) (get_new (m:=0) hop) (get_new (m:=1) hop1) (closeEs_mem (Array.mem_of_getElem? hop)).1)
  . rcases hh with ⟨l,h1,h2⟩|⟨p,h1,_⟩
    . obtain rfl:=hJ l h1
      exact .inr (.inr (.inl ⟨t.size+1,rfl,before_new (m:=1) h2 hop1 rfl⟩))
    . exact absurd h1 (hMn p)
theorem ev_close (hZ:A.b+A.n+1≤Z.lk) (hC:Conf (mart P A Fin Z hZ) Z s f q kk OO J M gs w t) (hw:s.c = .live0) (hg:gs[A.b+A.n]? = some g) {N:Know->OwnM->Goroutine->Prop} (ht:(moC0 P A).talk (kk (A.b+A.n)) (OO (A.b+A.n)) g N) (sl:Option (Nat × Nat)) :
    Goes P A Fin Z hZ s gs w t sl (A.b+A.n):=by
  have hE:MEx P A Z s kk OO J M gs.size w t:=hC.ex;have hb:=A.hb;obtain⟨rfl,g',nq,hmw,hs,hq⟩:=ht;obtain⟨x,tm,hF⟩:=hE.chF;have hng:s.c.isGone=false:=by rw[hw];rfl
  rw[hng] at hF;obtain⟨c0,v0,m0,hall⟩:=hE.I.g8 (by rw[hw];rfl)
  have hms:s.sp=A.n∧(s.ms = .recv∨s.ms = .parked):=by
    have:=hE.I.ms;cases e:s.ms with
    | recv=>rw[e] at this;exact⟨this.1,.inl rfl⟩
    | parked=>rw[e] at this;exact⟨this.1,.inr rfl⟩
    | add l=>rw[e] at this;rw[hw] at this;cases this.2
    | adding l p=>rw[e] at this;rw[hw] at this;cases this.2.1
    | spawn l=>rw[e] at this;rw[hw] at this;cases this.2
  have hlt:=(Array.getElem?_eq_some_iff.1 hg).1;obtain⟨_,_,_,_,_,_,hd,_⟩:=hC.live _ (live_c (.inl hw));have hi0:(A.b+A.n == 0)=false:=by simp;omega
  have hcl:A.cF<w.heap.size:=(Array.getElem?_eq_some_iff.1 hF).1;have hrun:=runT_crowd_go (P:=P) (sl:=sl) (i:=A.b+A.n) hg (by rw[hi0];exact hs w x x tm (hC.pool.sat _) hF)
  obtain⟨w',hw'⟩:∃ w',w' = { w with heap:=w.heap.setIfInBounds A.cF (.chan 0 #[] true x x tm) }:=⟨_,rfl⟩
  have hP:=hC.pool.shut (i:=A.b+A.n) (c:=A.cF) (x:=x) (tm:=tm) (fun l hl=>by
    rcases (hE.hJ l).1 hl with ⟨j,h1,h2,h3⟩|⟨h1,_⟩
    . rw[hall j h1] at h3;cases h3
    . exact h1) (fun p hp=>by
    obtain⟨_,_,h3⟩:=hE.hM p hp
    rcases h3 with ⟨_,h3⟩|⟨h3,_⟩
    . rw[hw] at h3;rcases h3 with h3|h3|⟨_,h3⟩ <;> cases h3
    . rw[hw] at h3;cases h3) hF (fun l=>(hE.freeO l).1) (fun n b hb hl hk=>hE.quiet n b hb (by rw[hl];rfl) hk _ (begun_c (by rw[hw];simp))) hE.noshunO.1 g.frame.fn g.frame.place
  rw[← hw'] at hrun hP
  change runT P (crowd gs w sl) (A.b+A.n)=(_,MemOp.ofEvents (A.b+A.n) g.frame.fn g.frame.place (closeEs A.cF)) at hrun
  have hu:Loud (MemOp.ofEvents (A.b+A.n) g.frame.fn g.frame.place (closeEs A.cF)):=fun op h=>(closeEs_mem h).2.1
  have hheap:∀ b,w'.heap[b]? = if b=A.cF then some (.chan 0 #[] true x x tm) else w.heap[b]?:=fun b=>by
    rw[hw']
    by_cases hbc:b=A.cF
    . subst hbc;rw[if_pos rfl];exact Array.getElem?_setIfInBounds_self_of_lt hcl
    . rw[if_neg hbc];exact Array.getElem?_setIfInBounds_ne (Ne.symm hbc)
  have hgr:g'.status ≠ .blocked∧g'.status ≠ .waiting:=by rcases hq.status with h|h <;> rw[h] <;> simp
  have hwk:∀ o,woken P g g' w' o=o.again w':=fun o=>by
    unfold Go.Conc.woken;rw[if_pos];simp[hmw,hgr.1,hgr.2]
  have hother:∀ i o,gs[i]? = some o->i≠0->i≠A.b+A.n->woken P g g' w' o=o:=fun i o ho h0 hn=>by
    have nl : ¬ liveM P A s i:=by
      rintro (⟨e,_⟩|⟨l,h1,h2,h3⟩|⟨e,_⟩)
      . exact h0 e
      . rw[hall l h1] at h3;exact h3
      . exact hn e
    have nw : ¬ walkM P A s i:=by
      rintro (⟨e,_⟩|⟨l,h1,h2,h3⟩|⟨e,_⟩)
      . exact h0 e
      . rw[hall l h1] at h3;exact h3
      . exact hn e
    have nh : ¬ heldM P A s i:=by
      rintro (⟨e,_⟩|⟨l,h1,h2,h3⟩)
      . exact h0 e
      . rw[hall l h1] at h3;cases h3
    exact woken_quitsD (hC.rest i o ho nl nw nh).2
  have hne:∀ i,¬ (i=0∨i=A.b+A.n)->((gs.map (woken P g g' w')).setIfInBounds (A.b+A.n) g')[i]? = gs[i]?:=fun i hi=>by
    rw[Array.getElem?_setIfInBounds_ne (fun e=>hi (.inr e.symm)),Array.getElem?_map]
    cases hg:gs[i]? with
    | none=>rfl
    | some o=>simp only[Option.map_some,hother i o hg (fun e=>hi (.inl e)) (fun e=>hi (.inr e))]
  have hself:((gs.map (woken P g g' w')).setIfInBounds (A.b+A.n) g')[A.b+A.n]? = some g':=Array.getElem?_setIfInBounds_self_of_lt (by simpa using hlt)
  obtain⟨s',hs'⟩:∃ s':MS P,s' = { s with c:=.gone,ms:=.recv }:=⟨_,rfl⟩
  have hsm:s'.ms = .recv:=by rw[hs']
  have hsw:s'.w=s.w:=by rw[hs']
  have hsc:s'.c = .gone:=by rw[hs']
  have hrem:MS.rem P A.n s'=MS.rem P A.n s:=rem_eq fun l _=>by rw[hsw]
  obtain⟨d0,g0,hg0,tr,_⟩:Deaf t 0=0∧∃ g0,((gs.map (woken P g g' w')).setIfInBounds (A.b+A.n) g')[0]? = some g0∧∃ tr:TT P (moR P A Fin (MS.rem P A.n s).length (MS.rem P A.n s)) (kk 0) (OO 0) g0,True:=by
    rw[Array.getElem?_setIfInBounds_ne (by omega),Array.getElem?_map]
    rcases hms.2 with hm|hm
    . obtain⟨_,p1,pm,pk,pO,p2,p3,_⟩:=hC.live 0 (live_recv hm)
      have pm:(f 0).m=modeM P A Fin s 0:=pm;rw[mode_recv hm] at pm;refine⟨p3,(f 0).g,by rw[p1,Option.map_some,woken_run p2],?_⟩
      rw[← pm,← pk,← pO];exact⟨(f 0).t,trivial⟩
    . obtain⟨_,_,_,p3,gp,p4,_,p5⟩:=hC.held 0 (.inl ⟨rfl,hm⟩)
      rcases p5 with ⟨_,gm,zm,rfl,p6,p7,p8⟩|⟨l,h1,h2,_⟩
      . rw[p4]
        refine⟨p3,_,rfl,?_⟩;rw[hwk,again_recv_closed (by rw[hheap,if_pos rfl])]
        obtain⟨tr⟩:=T.tree (moR_solo (P:=P) (A:=A) (Fin:=Fin) _ _) (moR_again (z:=zm) (sh:=.recv true) p8 p7);exact⟨tr,trivial⟩
      . omega
  have hI:GrpI A.n s':=by
    rw[hs'];refine⟨?_,hE.I.g2,fun h=>(by have h:s.gv=1:=h;omega),hE.I.g3,hE.I.g3',fun i hi h=>(by have h:s.w i = .dn .d7:=h;rw[hall i hi] at h;cases h),⟨hE.I.g5.1,fun h=>(by have h:s.gm=1:=h;omega)⟩,fun h=>(by cases h),hE.I.g7,fun _=>⟨c0,v0,m0,hall⟩,fun k h=>(by cases h),hE.I.ok,rfl,hE.I.sp,hE.I.idle,⟨hms.1,by simp⟩,fun h=>(by cases h),hE.I.mu⟩
    have:=hE.I.g1;show s.gc=sumTo A.n (fun j=>(s.w j).cnt)+MSt.recv.pend
    rcases hms.2 with e|e <;> rw[e] at this <;> exact this
  have hop1:(MemOp.ofEvents (A.b+A.n) g.frame.fn g.frame.place (closeEs A.cF))[1]? = some { g:=A.b+A.n,fn:=g.frame.fn,pos:=g.frame.place,act:=.close A.cF }:=by rw[closeEs_ops];rfl
  have hnew:(t ++ MemOp.ofEvents (A.b+A.n) g.frame.fn g.frame.place (closeEs A.cF)).act? (t.size+1)=some (.close A.cF)∧(t ++ MemOp.ofEvents (A.b+A.n) g.frame.fn g.frame.place (closeEs A.cF)).heard (t.size+1):=
    ⟨act?_of (get_new (m:=1) hop1),heard_new (m:=1) hu hop1 hd⟩
  have hbg:∀ i,begunM P A s' i->begunM P A s i:=fun i hi=>by
    rcases hi with h0|⟨j,h1,h2⟩|⟨h1,h2⟩
    . exact .inl h0
    . exact .inr (.inl ⟨j,by rw[hs'] at h1;exact h1,h2⟩)
    . exact .inr (.inr ⟨h1,by rw[hw];simp⟩)
  have hbg':∀ i,begunM P A s i->begunM P A s' i:=fun i hi=>by
    rcases hi with h0|⟨j,h1,h2⟩|⟨h1,h2⟩
    . exact .inl h0
    . exact .inr (.inl ⟨j,by rw[hs'];exact h1,h2⟩)
    . exact .inr (.inr ⟨h1,by rw[hsc];simp⟩)
  have hkd:∀ op∈MemOp.ofEvents (A.b+A.n) g.frame.fn g.frame.place (closeEs A.cF),∀ a,op.act.touch? = some a->a.kind = .atomic:=fun op hop a ha=>((closeEs_mem hop).2.2.1 a ha).2
  have hEx:MEx P A Z s' kk OO (fun _=>False) (fun p=>p=t.size+1) ((gs.map (woken P g g' w')).setIfInBounds (A.b+A.n) g').size w' (t ++ MemOp.ofEvents (A.b+A.n) g.frame.fn g.frame.place (closeEs A.cF)):=by
    refine⟨hI,?_,⟨x,tm,by rw[hheap,if_pos rfl,hsc];rfl⟩,?_,?_,?_,?_,hE.freeO,hE.freeK,fun i y hy=>?_,fun l hl hlo=>hE.tok' l hl (by rw[← hsw];exact hlo),fun hlo=>hE.lkO fun l hl=>by rw[← hsw];exact hlo l hl,fun c hc=>?_,fun i=>?_,fun p hp=>?_,fun _=>⟨t.size+1,rfl,hnew⟩,fun m a ha hs hk i hi=>hE.quietApp _ (fun op hop a ha _ hk=>by rw[hkd op hop a ha] at hk;cases hk) m a ha hs hk i (hbg i hi),fun m a ha hs hk=>?_,fun i hi=>hE.oldApp _ i (hbg i hi),hE.norelApp _ (fun op hop=>(closeEs_mem hop).2.2.2.2),fun i hlk hn=>hE.fut i hlk fun h=>hn (hbg' i h),hE.shun,hE.noshun,hE.noshunO,hE.la,by simp;exact Nat.le_trans hE.n0 (Nat.le_add_right _ _)⟩
    . have:=hE.size
      rw[hw] at this;rw[hsc];simp only[Array.size_setIfInBounds,Array.size_map,CSt.isNone] at this ⊢;rw[hs'];exact this
    . rw[show s'.sh=s.sh by rw[hs']];exact hE.mu.same (.of_heap (by rw[hheap,if_neg (Ne.symm A.d1)]))
    . rw[show s'.gc=s.gc by rw[hs'],show s'.gv=s.gv by rw[hs'],show s'.gm=s.gm by rw[hs']];exact hE.gr.same (.of_heap (by rw[hheap,if_neg (Ne.symm A.d2)]))
    . rw[hheap,if_neg (Ne.symm A.d1)];exact hE.inF
    . rw[hheap,if_neg (Ne.symm A.d2)];exact hE.inG
    . rw[hsw];exact hE.tok i y hy
    . rw[hsw];exact hE.lkB c hc
    . refine⟨fun h=>h.elim,?_⟩
      rintro (⟨j,h1,h2,h3⟩|⟨h1,h2⟩)
      . rw[hsw,hall j h1] at h3;cases h3
      . rw[hsc] at h2;cases h2
    . subst hp
      exact⟨hnew.2,by have:=hE.n0;omega,.inr ⟨hsc,hnew.1⟩⟩
    . have h0:=hE.saidApp _ (fun op hop a ha _ hk=>by rw[hkd op hop a ha] at hk;cases hk) m a ha hs hk
      rw[hw] at h0;rw[hsc];exact h0
  have hL:MS.Less A.n s' s:=by
    refine .inl ?_;rw[hs'];show MSt.recv.wgt+sumTo A.n (fun i=>(s.w i).wgt)+CSt.gone.wgt s.gc<s.ms.wgt+sumTo A.n (fun i=>(s.w i).wgt)+s.c.wgt s.gc
    rw[hw];have e2:MSt.recv.wgt=100:=rfl;have e3:CSt.gone.wgt s.gc=0:=rfl;have e4:CSt.live0.wgt s.gc=3:=rfl;have e5:99≤s.ms.wgt:=by rcases hms.2 with e|e <;> rw[e] <;> simp[MSt.wgt]
    omega
  have hS:SameOff A s s' (fun i=>i=0∨i=A.b+A.n):=⟨fun l _ hl=>by rw[hsw],fun h=>absurd (.inr rfl) h,fun h=>absurd (.inl rfl) h,by rw[hs'],by rw[hs']⟩
  refine⟨_,_,hrun,s',updK f 0 ⟨_,_,_,_,tr⟩,upd q (A.b+A.n) nq,kk,OO,fun _=>False,(fun p=>p=t.size+1),_,_,_,rfl,hL,?_⟩
  refine hC.turn hu hP hEx (by simp) (fun i=>i=0∨i=A.b+A.n) hne (aside_any hZ hS (fun i hi=>updK_ne _ _ (fun e=>hi (.inl e))) (fun i hi=>upd_ne q nq (fun e=>hi (.inr e))) (fun _ _ _=>rfl) (fun _ _ _=>rfl) (fun i hi hl _=>?_)) (fun i hi=>?_)
  . rcases hl with ⟨e,_⟩|⟨l,h1,h2,h3⟩|⟨e,_⟩
    . exact absurd (.inl e) hi
    . rw[hall l h1] at h3;exact h3.elim
    . exact absurd (.inr e) hi
  . rcases hi with rfl|rfl
    . refine⟨g0,hg0,fun _=>?_,fun h=>absurd h (nwalk_0 (.inl hsm)),fun h=>absurd h (nheld_0 (by rw[hsm];simp)),fun h=>absurd (live_recv hsm) h⟩
      rw[updK_same];refine⟨by show 0<A.b+A.n+1;omega,rfl,?_,rfl,rfl,tr.running,by rw[Deaf_loud hu];exact d0,.inl rfl,tie_0⟩
      show moR P A Fin _ _=modeM P A Fin s' 0;rw[mode_recv hsm,hrem]
    . refine⟨g',hself,fun h=>absurd h ?_,fun h=>absurd h ?_,fun h=>absurd h nheld_c,fun _ _ _=>⟨by omega,by rw[upd_same,Deaf_loud hu,hd];exact hq⟩⟩
      . rintro (⟨e,_⟩|⟨l,h1,h2,h3⟩|⟨_,h3⟩)
        . omega
        . omega
        . rw[hsc] at h3;exact h3
      . rintro (⟨e,_⟩|⟨l,h1,h2,h3⟩|⟨_,h3⟩)
        . omega
        . omega
        . rw[hsc] at h3;exact h3
end
section
variable {P:Program} {A:Mart} {Fin:Know->OwnM->Goroutine->Prop} {Z:Base} {s s':MS P} {f f':Nat->Node P} {q q':Nat->Nat} {kk kk':Nat->Know} {OO OO':Nat->OwnM} {J J' M M':Nat->Prop} {gs gs':Array Goroutine} {w w':World} {t u:Trace} {j:Nat} {g g₂:Goroutine} {z v:Value}
theorem getElem_cell {w:World} {b i:Nat} {c:Array Value} {e:TypeId} {v:Value} (h:w.heap[b]? = some (.cells c e (0,0))) (hc:w.cell? ⟨b,i,none⟩=some v):c[i]? = some v:=by
  simpa[World.cell?,h] using hc
theorem shape_cells {w:World} {b:Nat} {c:Array Value} {e:TypeId} (h:w.heap[b]? = some (.cells c e (0,0))):w.shape? b=some (e,c.size):=by
  simp[World.shape?,h]
theorem ev_end (hZ:A.b+A.n+1≤Z.lk) (hC:Conf (mart P A Fin Z hZ) Z s f q kk OO J M gs w t) (hm:s.ms = .recv) (hc:s.c = .gone) (hg:gs[0]? = some g) {N:Know->OwnM->Goroutine->Prop} (ht:(moR P A Fin (MS.rem P A.n s).length (MS.rem P A.n s)).talk (kk 0) (OO 0) g N) (sl:Option (Nat × Nat)) :
    ∃ ops m',runT P (crowd gs w sl) 0=(.next m',ops)∧∃ gs' w' sl' k' O' g',m'=crowd gs' w' sl'∧Stands P Z.W0 k' O' g' gs' w' (t ++ ops)∧Fin k' O' g':=by
  have hE:MEx P A Z s kk OO J M gs.size w t:=hC.ex;have hb:=A.hb;have hlk0:(0:Nat)≠Z.lk:=by omega
  obtain⟨c0,v0,m0,hall⟩:=hE.I.g8 (by rw[hc];rfl)
  obtain⟨xs,tm,hF⟩:=hE.chF;rw[show s.c.isGone=true by rw[hc];rfl] at hF
  have hrem:MS.rem P A.n s=[]:=by
    cases hr:MS.rem P A.n s with
    | nil=>rfl
    | cons a l=>
      have:a∈MS.rem P A.n s:=by rw[hr];simp
      obtain⟨e1,e2⟩:=mem_rem.1 this;rw[hall a e1] at e2;cases e2
  rw[hrem] at ht;obtain⟨_,g₂,z,e1,_,e3,⟨es,hsh⟩,e4⟩:=ht;have hlt:=(Array.getElem?_eq_some_iff.1 hg).1;obtain⟨_,_,_,_,_,_,d0,_⟩:=hC.live _ (live_recv hm);have hrun:=crowd_recv_closed (P:=P) (sl:=sl) hg (show stepG P (0 == 0) g w=_ from e1 w (hC.pool.sat 0)) hF (stand_offers fun i x _ hx=>offers_send hZ hC hx (fun j h1 h2 h3=>by rw[hall j h1] at h3;cases h3) _)
  rw[ofEvents_nil] at hrun;obtain⟨u,hu'⟩:∃ u:Trace,u=#[{ g:=0,fn:=g₂.frame.fn,pos:=g₂.frame.place,act:=.recvClosed A.cF }]:=⟨_,rfl⟩;have hrun2:runT P (crowd gs w sl) 0=(.next (crowd (gs.setIfInBounds 0 (g₂.finishComm P #[rcase A.cF z] (.recv true) 0 z false)) w sl),u):=by rw[hrun,hu'];simp
  have hDl:A.cF<w.heap.size:=(Array.getElem?_eq_some_iff.1 hF).1;have hmem:∀ op∈u,op = { g:=0,fn:=g₂.frame.fn,pos:=g₂.frame.place,act:=.recvClosed A.cF }:=fun op h=>by rw[hu'] at h;simpa using h
  have hu:Loud u:=fun op h=>by rw[hmem op h];exact⟨by simp,by simp⟩
  have hu0:u[0]? = some { g:=0,fn:=g₂.frame.fn,pos:=g₂.frame.place,act:=.recvClosed A.cF }:=by rw[hu'];rfl
  have hnt:∀ op∈u,op.act.touch? = none:=fun op h=>by rw[hmem op h];rfl
  have noJ:∀ i,¬ J i:=fun i hi=>by
    rcases (hE.hJ i).1 hi with ⟨a,a1,a2,a3⟩|⟨_,a3⟩
    . rw[hall a a1] at a3;cases a3
    . rw[hc] at a3;cases a3
  have hMk:∀ p n,M p->Before t n p->Knows (t ++ u) 0 n:=fun p n hp hk=>by
    obtain⟨a1,_,a3⟩:=hE.hM p hp
    rcases a3 with ⟨_,a4⟩|⟨_,a4⟩
    . rw[hc] at a4;rcases a4 with a4|a4|⟨_,a4⟩ <;> cases a4
    . exact knows_closed (t:=t) hu (m:=0) (y:={ g:=0,fn:=g₂.frame.fn,pos:=g₂.frame.place,act:=.recvClosed A.cF }) hu0 a4 a1 rfl d0 hk
  have hall0:∀ n a,touchAt t n=some a->a.loc.isMemory=true -> ¬ Z.Shun a.loc->Knows (t ++ u) 0 n:=fun n a ha hm hz=>by
    rcases hC.pool.acc n a ha hm with h|⟨j,hj,_⟩|⟨p,hp,h⟩|⟨h,_⟩
    . exact h.app u
    . exact absurd hj (noJ j)
    . exact hMk p n hp h
    . exact absurd h hz
  obtain⟨x,a,hx,hor,hgi⟩:=hE.lkO fun j hj=>by rw[hall j hj];rfl
  have hlkO:∀ c,OO Z.lk c≠none->c=A.mb:=fun c h=>(hE.lkB c h).1
  have hfb:∀ i,OO i A.fb=none:=fun i=>by
    cases e:OO i A.fb with
    | none=>rfl
    | some y=>obtain⟨j,_,h1,_,h2,_⟩:=hE.tok i y e;rw[hall j h1] at h2;cases h2
  have hP1:Pool Z (updK kk 0 ((kk 0).join (kk Z.lk))) (updK (updK OO 0 ((OO 0).set A.mb x)) Z.lk OwnM.bot) (fun _=>False) (fun _=>False) w (t ++ u):=by
    have hO1:∀ j b y,updK (updK OO 0 ((OO 0).set A.mb x)) Z.lk OwnM.bot j b=some y->(j≠Z.lk∧OO j b=some y ∧ ¬ (j=0∧b=A.mb))∨(j=0∧b=A.mb∧y=x):=fun j b y hy=>by
      by_cases e:j=Z.lk
      . subst e;rw[updK_same] at hy;cases hy
      . rw [updK_ne _ _ e] at hy
        by_cases e0:j=0
        . subst e0
          rw[updK_same] at hy
          by_cases eb:b=A.mb
          . subst eb
            simp only[OwnM.set,if_true,Option.some.injEq] at hy;exact .inr ⟨rfl,rfl,hy.symm⟩
          . simp only[OwnM.set,if_neg eb] at hy
            exact .inl ⟨e,hy,fun h=>eb h.2⟩
        . rw[updK_ne _ _ e0] at hy
          exact .inl ⟨e,hy,fun h=>e0 h.1⟩
    refine hC.pool.flow (fun a b=>a=b∨(a=Z.lk∧b=0)) rfl ⟨⟨.refl _,rfl⟩,fun _ _=>rfl⟩ (fun b => .inl rfl) (fun op h=>by rw[hmem op h];exact hDl) (fun i j e n y hy hmm hz hkn=>?_) (fun j b n v hv=>?_) (fun j b s hv=>?_) (fun j b y hy=>?_) (fun i j b y hij hy=>?_)
      (fun said=>noRace_appendMute (hC.pool.clean said) hnt) (fun op hop a ha=>by rw[hnt op hop] at ha;cases ha) (fun m op a hop ha=>by rw[hnt op (Array.mem_of_getElem? hop)] at ha;cases ha) (fun n a ha hmm h=>?_)
    . rcases e with rfl|⟨rfl,rfl⟩
      . exact hkn.app u
      . exact (kno_of hlk0).2 (hall0 n y hy hmm hz)
    . by_cases e:j=0
      . subst e
        rw[updK_same] at hv
        rcases Know.join_cell hv with hv|hv
        . exact⟨_,.inl rfl,hv⟩
        . exact⟨Z.lk,.inr ⟨rfl,rfl⟩,hv⟩
      . rw[updK_ne _ _ e] at hv;exact⟨j,.inl rfl,hv⟩
    . by_cases e:j=0
      . subst e
        rw[updK_same] at hv
        rcases Know.join_sh hv with hv|hv
        . exact⟨_,.inl rfl,hv⟩
        . exact⟨Z.lk,.inr ⟨rfl,rfl⟩,hv⟩
      . rw[updK_ne _ _ e] at hv;exact⟨j,.inl rfl,hv⟩
    . rcases hO1 j b y hy with ⟨h1,h2,h3⟩|⟨rfl,rfl,rfl⟩
      . refine⟨j,.inl rfl,h2,fun s hs=>?_⟩
        by_cases e:j=0
        . subst e;rw[updK_same];exact (Know.le_join _ _).sh b s hs
        . rw[updK_ne _ _ e];exact hs
      . refine⟨Z.lk,.inr ⟨rfl,rfl⟩,hx,fun s hs=>?_⟩
        rw[updK_same];exact (Know.le_join' (hC.pool.sat 0) (hC.pool.sat Z.lk)).sh _ s hs
    . cases q:updK (updK OO 0 ((OO 0).set A.mb x)) Z.lk OwnM.bot j b with
      | none=>rfl
      | some y'=>
        rcases hO1 i b y hy with ⟨h1,h2,h3⟩|⟨rfl,rfl,rfl⟩
        . rcases hO1 j b y' q with ⟨k1,k2,k3⟩|⟨rfl,rfl,rfl⟩
          . have:=hC.pool.dis i j b y hij h2
            rw[k2] at this;cases this
          . have:=hC.pool.dis i Z.lk _ y h1 h2
            rw[hx] at this;cases this
        . rcases hO1 j A.mb y' q with ⟨k1,k2,k3⟩|⟨rfl,_,_⟩
          . have:=hC.pool.dis j Z.lk _ y' k1 k2
            rw[hx] at this;cases this
          . exact absurd rfl hij
    . rcases h with ⟨j,h1,_⟩|⟨p,h1,h2⟩
      . exact absurd h1 (noJ j)
      . exact .inl (hMk p n h1 h2)
  obtain⟨hw0,hm0⟩:=hE.I.mu.rest fun i hi=>by rw[hall i hi];rfl
  obtain⟨cc,ce,hfbh⟩:=hE.inF
  have hshe:es=(ce,cc.size):=by
    have:=(hC.pool.sat 0).sh _ _ hsh;rw[shape_cells hfbh] at this;exact (Option.some.inj this).symm
  have hcw:cc[A.fo]? = some (.int .i32 0):=by
    have:=hE.mu.cw;rw[hw0] at this;exact getElem_cell hfbh this
  have hcs:cc[A.fo+1]? = some (.int .u32 0):=by
    have:=hE.mu.cs;rw[hm0] at this;exact getElem_cell hfbh this
  have hlE:∀ n v,lockEnd A.fo n=some v->(n=A.fo∨n=A.fo+1)∧cc[n]? = some v:=fun n v hv=>by
    unfold lockEnd at hv;split at hv
    . rename_i e;subst e;rw[← hv];exact⟨.inl rfl,hcw⟩
    . split at hv
      . rename_i e;subst e;rw[← hv];exact⟨.inr rfl,hcs⟩
      . cases hv
  have hnn:∀ n,lockEnd A.fo n≠none->(n=A.fo∨n=A.fo+1):=fun n hn=>by
    cases e:lockEnd A.fo n with
    | none=>exact absurd e hn
    | some v=>exact (hlE n v e).1
  have hnone:∀ i n,(n=A.fo∨n=A.fo+1)->(updK kk 0 ((kk 0).join (kk Z.lk)) i).cell A.fb n=none:=fun i n hn=>by
    have hk:∀ l,(kk l).cell A.fb n=none:=fun l=>by rcases hn with h|h <;> rw[h] <;> first|exact (hE.freeK l).1|exact (hE.freeK l).2.1
    cases e:(updK kk 0 ((kk 0).join (kk Z.lk)) i).cell A.fb n with
    | none=>rfl
    | some v=>
      by_cases ei:i=0
      . subst ei
        rw[updK_same] at e
        rcases Know.join_cell e with e|e <;> rw[hk] at e <;> cases e
      . rw[updK_ne _ _ ei,hk] at e;cases e
  have hP2:=hP1.gain hlk0 (b:=A.fb) (f:=lockEnd A.fo) (fun i=>?_) (fun n v hv i=>hnone i n (hlE n v hv).1) (fun ad had hf=>hE.noshun ad ⟨had,hnn _ hf⟩) ⟨cc,ce,hfbh,?_,fun n v hv=>(hlE n v hv).2⟩ (fun m a ad ha hl hbk hf=>?_) hE.noshunO.2.1
  . obtain⟨g1,hg1⟩:∃ g1,g1=g₂.finishComm P #[rcase A.cF z] (.recv true) 0 z false:=⟨_,rfl⟩
    have hnl:∀ i,0<i -> ¬ liveM P A s i ∧ ¬ walkM P A s i ∧ ¬ heldM P A s i:=fun i hi=>by
      refine⟨?_,?_,?_⟩
      . rintro (⟨h,_⟩|⟨a,a1,a2,a3⟩|⟨_,a3⟩)
        . omega
        . rw[hall a a1] at a3;exact a3
        . rw[hc] at a3;exact a3
      . rintro (⟨h,_⟩|⟨a,a1,a2,a3⟩|⟨_,a3⟩)
        . omega
        . rw[hall a a1] at a3;exact a3
        . rw[hc] at a3;exact a3
      . rintro (⟨h,_⟩|⟨a,a1,a2,a3⟩)
        . omega
        . rw[hall a a1] at a3;cases a3
    have hS:=hP2.finish (P:=P) (gs:=gs.setIfInBounds 0 g1) (g:=g1) (q:=q) (Array.getElem?_setIfInBounds_self_of_lt hlt) ⟨fun i y hi hy=>by
      rw[Array.getElem?_setIfInBounds_ne (by omega)] at hy
      rw[Deaf_loud hu];obtain⟨n1,n2,n3⟩:=hnl i hi;exact (hC.rest i y hy n1 n2 n3).2,fun j hj=>by rw[Deaf_loud hu];exact hC.above j (by simpa using hj)⟩ (by rw[Deaf_loud hu];exact d0)
    rw[updK_same,updK_same,updK_ne _ _ hlk0,updK_same] at hS;refine⟨u,_,hrun2,gs.setIfInBounds 0 g1,w,sl,_,_,g1,by rw[hg1],hS,?_⟩
    rw[hg1];exact e4 _ x a (Know.le_join _ _) (hor.mono (Know.le_join' (hC.pool.sat 0) (hC.pool.sat Z.lk))) hgi
  . by_cases e:i=Z.lk
    . subst e;rw[updK_same];rfl
    . rw[updK_ne _ _ e]
      by_cases e0:i=0
      . subst e0;rw[updK_same];simp only[OwnM.set,if_neg A.d5];exact hfb 0
      . rw[updK_ne _ _ e0];exact hfb i
  . rw[updK_same,← hshe];exact (Know.le_join _ _).sh _ _ hsh
  . have ha':touchAt t m=some a:=by
      rcases touch_split ha with ⟨h1,_⟩|⟨op,hop,h1⟩
      . exact h1
      . rw[hnt op hop] at h1;cases h1
    exact hall0 m a ha' (by rw[hl];rfl) (by rw[hl];exact hE.noshun ad ⟨hbk,hnn _ hf⟩)
end
def goOps (n:Nat) (f1 f2:FuncId) (p1 p2:String):Trace:=#[{ g:=0,fn:=f1,pos:=p1,act:=.go n },{ g:=n,fn:=f2,pos:=p2,act:=.start }]
theorem goOps_mem {n:Nat} {f1 f2:FuncId} {p1 p2:String} {op:MemOp} (h:op∈goOps n f1 f2 p1 p2):op.act.touch? = none∧(op.act ≠ .mark .disable∧op.act ≠ .mark .enable)∧(∀ B,op.act.low B)∧∀ a,op.act ≠ .mark (.release a):=by
  simp only[goOps,List.mem_toArray,List.mem_cons,List.not_mem_nil,or_false] at h
  rcases h with rfl|rfl <;> exact⟨rfl,⟨by simp,by simp⟩,fun B=>trivial,by simp⟩
theorem bot_join (k:Know):Know.bot.join k=k:=rfl
section
variable {P:Program} {A:Mart} {Fin:Know->OwnM->Goroutine->Prop} {Z:Base} {s s':MS P} {f f':Nat->Node P} {q q':Nat->Nat} {kk kk':Nat->Know} {OO OO':Nat->OwnM} {J J' M M':Nat->Prop} {gs gs':Array Goroutine} {w w':World} {t u:Trace} {j m:Nat} {g g' g₂ child:Goroutine} {z v:Value}
theorem push_facts {gs:Array Goroutine} {g' child:Goroutine} (hlt:0<gs.size):(∀ i,i≠0->i≠gs.size->((gs.setIfInBounds 0 g').push child)[i]? = gs[i]?)∧((gs.setIfInBounds 0 g').push child)[0]? = some g'∧((gs.setIfInBounds 0 g').push child)[gs.size]? = some child:=by
  refine⟨fun i hi hi'=>?_,?_,?_⟩
  . rw[Array.getElem?_push,if_neg (by simpa using hi'),Array.getElem?_setIfInBounds_ne (Ne.symm hi)]
  . rw[Array.getElem?_push,if_neg (by simp;omega),Array.getElem?_setIfInBounds_self_of_lt hlt]
  . rw[Array.getElem?_push,if_pos (by simp)]
theorem run_spawn {gs:Array Goroutine} (hg:gs[0]? = some g) (hs:stepG P true g w = .spawn g' child w #[]) (sl:Option (Nat × Nat)) :
    runT P (crowd gs w sl) 0=(.next (crowd ((gs.setIfInBounds 0 g').push child) w sl),goOps gs.size g.frame.fn child.frame.fn g.frame.place g.frame.place):=by
  have hrun:=runT_crowd_spawn (P:=P) (sl:=sl) (i:=0) hg (show stepG P (0 == 0) g w=_ from hs)
  rw[ofEvents_nil] at hrun;exact hrun
theorem moA_solo (m:Nat):(moA P A Fin m).solo=false:=by cases m <;> rfl
theorem live_add (e:s.ms = .add m):liveM P A s 0:=.inl ⟨rfl,by rw[e];trivial⟩
theorem live_spawn (e:s.ms = .spawn m):liveM P A s 0:=.inl ⟨rfl,by rw[e];trivial⟩
theorem nwalk_add (e:s.ms = .add m) : ¬ walkM P A s 0:=by
  have:=A.hb
  rintro (⟨_,h⟩|⟨l,h1,h2,h3⟩|⟨h,_⟩)
  . rw[e] at h;exact h
  . omega
  . omega
theorem mode_add (e:s.ms = .add m):modeM P A Fin s 0=moA P A Fin m:=by
  unfold modeM;rw[if_pos rfl,e]
theorem ev_spawnW (hZ:A.b+A.n+1≤Z.lk) (hC:Conf (mart P A Fin Z hZ) Z s f q kk OO J M gs w t) (hm:s.ms = .spawn m) (hg:gs[0]? = some g) {N:Know->OwnM->Goroutine->Prop} (ht:(moS P A Fin m).talk (kk 0) (OO 0) g N) (sl:Option (Nat × Nat)) :
    Goes P A Fin Z hZ s gs w t sl 0:=by
  have hE:MEx P A Z s kk OO J M gs.size w t:=hC.ex;have hb:=A.hb;obtain⟨rfl,g',child,hs,hc1,hc2⟩:=ht;have hms:=hE.I.ms;rw[hm] at hms;obtain⟨hsp,hcn⟩:=hms;have hsize:gs.size=A.b+s.sp:=by have:=hE.size;rw[hcn] at this;simpa[CSt.isNone] using this
  have hjn:s.sp<A.n:=by omega
  have hj:A.n-(m+1)=s.sp:=by omega
  rw[hj] at hc1;obtain⟨trc⟩:=T.tree (P:=P) (m:=moW1 P A s.sp) rfl hc1;obtain⟨trm⟩:=T.tree (moA_solo (P:=P) (A:=A) (Fin:=Fin) m) hc2;have hlt:=(Array.getElem?_eq_some_iff.1 hg).1;obtain⟨_,_,_,_,_,_,d0,_⟩:=hC.live _ (live_spawn hm);have dn:Deaf t gs.size=0:=hC.above _ (Nat.le_refl _);have hrun:=run_spawn (sl:=sl) hg (hs w (hC.pool.sat 0));have hu:Loud (goOps gs.size g.frame.fn child.frame.fn g.frame.place g.frame.place):=fun op h=>(goOps_mem h).2.1
  have hkn:∀ n,Knows t 0 n->Knows (t ++ goOps gs.size g.frame.fn child.frame.fn g.frame.place g.frame.place) gs.size n:=fun n hn=>
    knows_spawn (t:=t) (c:=0) hu (m1:=0) (m2:=1) (x:={ g:=0,fn:=g.frame.fn,pos:=g.frame.place,act:=.go gs.size }) (y:={ g:=gs.size,fn:=child.frame.fn,pos:=g.frame.place,act:=.start }) rfl rfl rfl rfl d0 dn hn
  have hidle:s.w s.sp = .idle:=by
    have:=(hE.I.idle s.sp hjn).2 (Nat.le_refl _);cases e:s.w s.sp <;> rw[e] at this <;> first|rfl|cases this
  have hnb : ¬ begunM P A s gs.size:=by
    rintro (h|⟨l,h1,h2⟩|⟨h1,h2⟩)
    . omega
    . omega
    . exact h2 hcn
  obtain⟨fk,fO⟩:=hE.fut gs.size (by omega) hnb
  obtain⟨X,hX⟩:∃ X:Node P,X=⟨moW1 P A s.sp,kk 0,OwnM.bot,child,trc⟩:=⟨_,rfl⟩;obtain⟨s',hs'⟩:∃ s',s'=s.setJ s.sp (.run false X) (.add m) (s.sp+1):=⟨_,rfl⟩;have hsx:s'.w s.sp = .run false X:=by rw[hs',setJ_same]
  have hsn:∀ {l:Nat},l≠s.sp->s'.w l=s.w l:=fun h=>by rw[hs',setJ_ne h]
  have hsc:s'.c=s.c:=by rw[hs'];rfl
  have hsm:s'.ms = .add m:=by rw[hs'];rfl
  have hss:s'.sp=s.sp+1:=by rw[hs'];rfl
  have hI:GrpI A.n s':=by
    rw[hs'];refine hE.I.setJ hjn (by rw[hidle,hm];rfl) (by rw[hidle];rfl) rfl (by rw[hidle];simp) rfl (by rw[hidle];rfl) rfl (.inr ⟨rfl,rfl⟩) (fun h=>by cases h) ⟨by omega,hcn⟩
  have hJ':∀ l,J l->busyM P A s' l:=fun l hl=>by
    rcases (hE.hJ l).1 hl with ⟨a,h1,h2,h3⟩|⟨h1,h2⟩
    . refine .inl ⟨a,h1,h2,?_⟩
      by_cases e:a=s.sp
      . subst e;rw[hsx];rfl
      . rw[hsn e];exact h3
    . exact .inr ⟨h1,by rw[hsc];exact h2⟩
  have hP:=hC.pool.hand (J':=busyM P A s') (M':=M) (w':=w) (src:=0) (dst:=gs.size) (by omega) (by omega) hkn (fun op h=>(goOps_mem h).1) (fun op h=>(goOps_mem h).2.2.1 _) rfl ⟨⟨.refl _,rfl⟩,fun _ _=>rfl⟩ (fun b => .inl rfl) (fun n a ha hmm h=>h.elim (fun ⟨j,h1,h2⟩ => .inr (.inl ⟨j,hJ' j h1,h2.app _⟩)) (fun ⟨p,h1,h2⟩ => .inr (.inr (.inl ⟨p,h1,h2.app _⟩))))
  rw[fk,bot_join] at hP;obtain⟨pf1,pf2,pf3⟩:=push_facts (g':=g') (child:=child) hlt
  have hEx:MEx P A Z s' (updK kk gs.size (kk 0)) OO (busyM P A s') M ((gs.setIfInBounds 0 g').push child).size w (t ++ goOps gs.size g.frame.fn child.frame.fn g.frame.place g.frame.place):=by
    refine hE.chan hI (by rw[Array.size_push,Array.size_setIfInBounds,hss,hsc,hcn];simp[CSt.isNone];omega) (by rw[hsc];exact hE.chF) (fun _ _=>rfl) (by rw[hs'];rfl) (by rw[hs'];rfl) (by rw[hs'];rfl) (by rw[hs'];rfl) (fun l _=>?_) (fun i b n v h=>?_) (updK_ne _ _ (by omega)) (fun i=>Iff.rfl) (.inl hsc) (fun op h=>⟨(goOps_mem h).1,(goOps_mem h).2.2.2⟩) (fun i hi=>?_) (fun i hlk hn=>?_)
    . by_cases e:l=s.sp
      . subst e;rw[hsx,hidle];rfl
      . rw[hsn e]
    . by_cases e:i=gs.size
      . subst e;rw[updK_same] at h;exact⟨0,h⟩
      . rw[updK_ne _ _ e] at h;exact⟨i,h⟩
    . rcases hi with h0|⟨l,h1,h2⟩|⟨h1,h2⟩
      . exact .inl (.inl h0)
      . rw[hss] at h1
        by_cases e:l=s.sp
        . subst e
          rw[h2,← hsize];exact .inr hkn
        . exact .inl (.inr (.inl ⟨l,by omega,h2⟩))
      . exact .inl (.inr (.inr ⟨h1,by rw[← hsc];exact h2⟩))
    . have hn' : ¬ begunM P A s i:=fun h=>hn (by
        rcases h with h0|⟨l,h1,h2⟩|⟨h1,h2⟩
        . exact .inl h0
        . exact .inr (.inl ⟨l,by omega,h2⟩)
        . exact .inr (.inr ⟨h1,by rw[hsc];exact h2⟩))
      have hne:i≠gs.size:=fun e=>hn (.inr (.inl ⟨s.sp,by omega,by omega⟩))
      rw[updK_ne _ _ hne];exact hE.fut i hlk hn'
  have hL:MS.Less A.n s' s:=by
    rw[hs'];refine less_setJ hjn ?_;rw[hidle,hm];have e1:(WSt.run (P:=P) false X).wgt=20:=rfl;have e2:(MSt.add m).wgt=40*m+200:=rfl;have e3:(MSt.spawn m).wgt=40*m+225:=rfl;have e4:(WSt.idle (P:=P)).wgt=0:=rfl;omega
  have hS:SameOff A s s' (fun i=>i=0∨i=gs.size):=⟨fun l _ hl=>hsn (fun e=>hl (.inr (by omega))),fun _=>hsc,fun h=>absurd (.inl rfl) h,by rw[hs'];rfl,by rw[hs'];rfl⟩
  refine⟨_,_,hrun,s',updK (updK f 0 ⟨_,_,_,_,trm⟩) gs.size X,q,updK kk gs.size (kk 0),OO,busyM P A s',M,_,_,_,rfl,hL,?_⟩;refine hC.turn hu hP hEx (by simp) (fun i=>i=0∨i=gs.size) (fun i hi=>pf1 i (fun e=>hi (.inl e)) (fun e=>hi (.inr e))) (aside_any hZ hS (fun i hi=>by rw[updK_ne _ _ (fun e=>hi (.inr e)),updK_ne _ _ (fun e=>hi (.inl e))]) (fun _ _=>rfl) (fun i hi _=>updK_ne _ _ (fun e=>hi (.inr e))) (fun _ _ _=>rfl) (fun l _ _ h=>hJ' l h)) (fun i hi=>?_)
  rcases hi with rfl|rfl
  . refine⟨g',pf2,fun _=>?_,fun h=>absurd h (nwalk_add hsm),fun h=>absurd h (nheld_0 (by rw[hsm];simp)),fun h=>absurd (live_add hsm) h⟩
    have hne:(0:Nat)≠gs.size:=by omega
    rw[updK_ne _ _ hne,updK_same,updK_ne _ _ hne];refine⟨by show 0<A.b+A.n+1;omega,rfl,?_,rfl,rfl,trm.running,by rw[Deaf_loud hu];exact d0,.inl rfl,tie_0⟩
    show moA P A Fin m=modeM P A Fin s' 0;rw[mode_add hsm]
  . have hlv:liveM P A s' gs.size:=by rw[hsize];exact live_run hjn hsx
    refine⟨child,pf3,fun _=>?_,fun h=>absurd h (by rw[hsize];exact nwalk_run hjn hsx),fun h=>absurd h (by rw[hsize];exact nheld_run hjn hsx),fun h=>absurd hlv h⟩
    rw[updK_same,updK_same,hX];refine⟨by show gs.size<A.b+A.n+1;omega,rfl,?_,rfl,fO.symm,trc.running,by rw[Deaf_loud hu];exact dn,.inr (.inl ⟨s.sp,hjn,hsize,by rw[hsx];rfl⟩),fun l h X' h1 h2 h3=>?_⟩
    . show moW1 P A s.sp=modeM P A Fin s' gs.size
      rw[hsize,mode_run hjn hsx]
    . obtain rfl:l=s.sp:=by omega
      rw[hsx] at h3;cases h3;rw[hX];exact Under.refl _
theorem ev_spawnC (hZ:A.b+A.n+1≤Z.lk) (hC:Conf (mart P A Fin Z hZ) Z s f q kk OO J M gs w t) (hm:s.ms = .add 0) (hg:gs[0]? = some g) {N:Know->OwnM->Goroutine->Prop} (ht:(moA P A Fin 0).talk (kk 0) (OO 0) g N) (sl:Option (Nat × Nat)) :
    Goes P A Fin Z hZ s gs w t sl 0:=by
  have hE:MEx P A Z s kk OO J M gs.size w t:=hC.ex;have hb:=A.hb;obtain⟨rfl,g',child,hs,hc1,hc2⟩:=ht;have hms:=hE.I.ms;rw[hm] at hms;obtain⟨hsp,hcn⟩:=hms;have hsp:s.sp=A.n:=by omega
  have hsize:gs.size=A.b+A.n:=by have:=hE.size;rw[hcn,hsp] at this;simpa[CSt.isNone] using this
  obtain⟨trc⟩:=T.tree (P:=P) (m:=moC1 P A) rfl hc1;obtain⟨trm⟩:=T.tree (moR_solo (P:=P) (A:=A) (Fin:=Fin) _ _) hc2;have hlt:=(Array.getElem?_eq_some_iff.1 hg).1;obtain⟨_,_,_,_,_,_,d0,_⟩:=hC.live _ (live_add hm);have dn:Deaf t gs.size=0:=hC.above _ (Nat.le_refl _);have hrun:=run_spawn (sl:=sl) hg (hs w (hC.pool.sat 0));have hu:Loud (goOps gs.size g.frame.fn child.frame.fn g.frame.place g.frame.place):=fun op h=>(goOps_mem h).2.1
  have hkn:∀ n,Knows t 0 n->Knows (t ++ goOps gs.size g.frame.fn child.frame.fn g.frame.place g.frame.place) gs.size n:=fun n hn=>
    knows_spawn (t:=t) (c:=0) hu (m1:=0) (m2:=1) (x:={ g:=0,fn:=g.frame.fn,pos:=g.frame.place,act:=.go gs.size }) (y:={ g:=gs.size,fn:=child.frame.fn,pos:=g.frame.place,act:=.start }) rfl rfl rfl rfl d0 dn hn
  have hnb : ¬ begunM P A s gs.size:=by
    rintro (h|⟨l,h1,h2⟩|⟨h1,h2⟩)
    . omega
    . omega
    . exact h2 hcn
  obtain⟨fk,fO⟩:=hE.fut gs.size (by omega) hnb
  obtain⟨s',hs'⟩:∃ s':MS P,s' = { s with ms:=.recv,c:=.live1 }:=⟨_,rfl⟩
  have hsw:s'.w=s.w:=by rw[hs']
  have hsc:s'.c = .live1:=by rw[hs']
  have hsm:s'.ms = .recv:=by rw[hs']
  have hss:s'.sp=s.sp:=by rw[hs']
  obtain⟨v0,m0,hl⟩:=hE.I.calm (by rw[hcn];rfl)
  have hI:GrpI A.n s':=by
    rw[hs'];refine⟨?_,hE.I.g2,fun h=>(by have h:s.gv=1:=h;omega),hE.I.g3,hE.I.g3',fun i hi h=>?_,⟨hE.I.g5.1,fun h=>(by have h:s.gm=1:=h;omega)⟩,fun h=>(by cases h),hE.I.g7,fun h=>(by cases h),fun k h=>(by cases h),hE.I.ok,rfl,hE.I.sp,hE.I.idle,⟨hsp,by simp⟩,fun h=>(by cases h),hE.I.mu⟩
    . have:=hE.I.g1
      rw[hm] at this;exact this
    . have h:s.w i = .dn .d7:=h
      have:=hl i hi;rw[h] at this;cases this
  have hJ':∀ l,J l->busyM P A s' l:=fun l hl=>by
    rcases (hE.hJ l).1 hl with ⟨a,h1,h2,h3⟩|⟨h1,h2⟩
    . exact .inl ⟨a,h1,h2,by rw[hsw];exact h3⟩
    . rw[hcn] at h2;cases h2
  have hP:=hC.pool.hand (J':=busyM P A s') (M':=M) (w':=w) (src:=0) (dst:=gs.size) (by omega) (by omega) hkn (fun op h=>(goOps_mem h).1) (fun op h=>(goOps_mem h).2.2.1 _) rfl ⟨⟨.refl _,rfl⟩,fun _ _=>rfl⟩ (fun b => .inl rfl) (fun n a ha hmm h=>h.elim (fun ⟨j,h1,h2⟩ => .inr (.inl ⟨j,hJ' j h1,h2.app _⟩)) (fun ⟨p,h1,h2⟩ => .inr (.inr (.inl ⟨p,h1,h2.app _⟩))))
  rw[fk,bot_join] at hP;obtain⟨pf1,pf2,pf3⟩:=push_facts (g':=g') (child:=child) hlt;have hch:=hE.chF;rw[hcn] at hch
  have hEx:MEx P A Z s' (updK kk gs.size (kk 0)) OO (busyM P A s') M ((gs.setIfInBounds 0 g').push child).size w (t ++ goOps gs.size g.frame.fn child.frame.fn g.frame.place g.frame.place):=by
    refine hE.chan hI (by rw[Array.size_push,Array.size_setIfInBounds,hss,hsc,hsize,hsp];rfl) (by rw[hsc];exact hch) (fun _ _=>rfl) (by rw[hs']) (by rw[hs']) (by rw[hs']) (by rw[hs']) (fun l _=>by rw[hsw]) (fun i b n v h=>?_) (updK_ne _ _ (by omega)) (fun i=>Iff.rfl) (.inr ⟨hcn,hsc,fun m hm=>by rw[← hsize];exact hkn m hm⟩) (fun op h=>⟨(goOps_mem h).1,(goOps_mem h).2.2.2⟩) (fun i hi=>?_) (fun i hlk hn=>?_)
    . by_cases e:i=gs.size
      . subst e;rw[updK_same] at h;exact⟨0,h⟩
      . rw[updK_ne _ _ e] at h;exact⟨i,h⟩
    . rcases hi with h0|⟨l,h1,h2⟩|⟨h1,h2⟩
      . exact .inl (.inl h0)
      . exact .inl (.inr (.inl ⟨l,by rw[← hss];exact h1,h2⟩))
      . rw[h1,← hsize];exact .inr hkn
    . have hn' : ¬ begunM P A s i:=fun h=>hn (by
        rcases h with h0|⟨l,h1,h2⟩|⟨h1,h2⟩
        . exact .inl h0
        . exact .inr (.inl ⟨l,by rw[hss];exact h1,h2⟩)
        . exact .inr (.inr ⟨h1,by rw[hsc];simp⟩))
      have hne:i≠gs.size:=fun e=>hn (.inr (.inr ⟨by omega,by rw[hsc];simp⟩))
      rw[updK_ne _ _ hne];exact hE.fut i hlk hn'
  have hL:MS.Less A.n s' s:=by
    refine .inl ?_;rw[hs'];show MSt.recv.wgt+sumTo A.n (fun i=>(s.w i).wgt)+CSt.live1.wgt s.gc<s.ms.wgt+sumTo A.n (fun i=>(s.w i).wgt)+s.c.wgt s.gc
    rw[hcn,hm];have e2:MSt.recv.wgt=100:=rfl;have e3:CSt.live1.wgt s.gc=14:=rfl;have e4:CSt.none.wgt s.gc=0:=rfl;have e5:(MSt.add 0).wgt=200:=rfl;omega
  have hrem:MS.rem P A.n s'=List.range A.n:=by
    unfold MS.rem;rw[hsw];exact List.filter_eq_self.2 fun l hl=>by rw[hE.I.early hcn l (List.mem_range.1 hl)];rfl
  have hS:SameOff A s s' (fun i=>i=0∨i=gs.size):=⟨fun l _ hl=>by rw[hsw],fun h=>absurd (.inr (by omega)) h,fun h=>absurd (.inl rfl) h,by rw[hs'],by rw[hs']⟩
  refine⟨_,_,hrun,s',updK (updK f 0 ⟨_,_,_,_,trm⟩) gs.size ⟨_,_,_,_,trc⟩,q,updK kk gs.size (kk 0),OO,busyM P A s',M,_,_,_,rfl,hL,?_⟩;refine hC.turn hu hP hEx (by simp) (fun i=>i=0∨i=gs.size) (fun i hi=>pf1 i (fun e=>hi (.inl e)) (fun e=>hi (.inr e))) (aside_any hZ hS (fun i hi=>by rw[updK_ne _ _ (fun e=>hi (.inr e)),updK_ne _ _ (fun e=>hi (.inl e))]) (fun _ _=>rfl) (fun i hi _=>updK_ne _ _ (fun e=>hi (.inr e))) (fun _ _ _=>rfl) (fun l _ _ h=>hJ' l h)) (fun i hi=>?_)
  rcases hi with rfl|rfl
  . refine⟨g',pf2,fun _=>?_,fun h=>absurd h (nwalk_0 (.inl hsm)),fun h=>absurd h (nheld_0 (by rw[hsm];simp)),fun h=>absurd (live_recv hsm) h⟩
    have hne:(0:Nat)≠gs.size:=by omega
    rw[updK_ne _ _ hne,updK_same,updK_ne _ _ hne];refine⟨by show 0<A.b+A.n+1;omega,rfl,?_,rfl,rfl,trm.running,by rw[Deaf_loud hu];exact d0,.inl rfl,tie_0⟩
    show moR P A Fin _ _=modeM P A Fin s' 0;rw[mode_recv hsm,hrem,List.length_range]
  . have hlv:liveM P A s' gs.size:=by rw[hsize];exact live_c (.inr hsc)
    refine⟨child,pf3,fun _=>?_,fun h=>absurd h (by rw[hsize];exact nwalk_c (.inr hsc)),fun h=>absurd h (by rw[hsize];exact nheld_c),fun h=>absurd hlv h⟩
    rw[updK_same,updK_same];refine⟨by show gs.size<A.b+A.n+1;omega,rfl,?_,rfl,fO.symm,trc.running,by rw[Deaf_loud hu];exact dn,.inr (.inr ⟨hsize,by rw[hsc];rfl⟩),by rw[hsize];exact tie_c⟩
    show moC1 P A=modeM P A Fin s' gs.size;rw[hsize,mode_c1 hsc]
end
section
variable {P:Program} {A:Mart} {Fin:Know->OwnM->Goroutine->Prop} {Z:Base} {s s':MS P} {f f':Nat->Node P} {q q':Nat->Nat} {kk kk':Nat->Know} {OO OO':Nat->OwnM} {J J' M M':Nat->Prop} {gs gs':Array Goroutine} {w w':World} {t u:Trace} {j m:Nat} {g g' g₂ child:Goroutine} {z v:Value}
theorem mart_someone (hZ:A.b+A.n+1≤Z.lk) (hC:Conf (mart P A Fin Z hZ) Z s f q kk OO J M gs w t):∃ (i:Nat) (g:Goroutine),gs[i]? = some g∧g.status = .running:=by
  have hE:MEx P A Z s kk OO J M gs.size w t:=hC.ex;have B:=mart_bears (P:=P) (A:=A) (Fin:=Fin) (Z:=Z) hZ;refine Classical.byContradiction fun hno=>?_
  have nlive:∀ i,¬ liveM P A s i:=fun i hl=>by
    obtain⟨_,p1,_,_,_,p2,_⟩:=hC.live i hl;exact hno ⟨i,_,p1,p2⟩
  have dry:∀ i,walkM P A s i->dryM P A s i:=fun i hw=>by
    obtain⟨_,_,_,x,x',p1,p2,p3⟩:=hC.walk i hw
    rcases p3 with ⟨h,_⟩|h
    . exact h
    . exact absurd ⟨i,x,p1,h.first (B.atRun p2).1⟩ hno
  have hb:=A.hb
  have hm:s.ms = .parked:=by
    cases e:s.ms with
    | parked=>rfl
    | add l=>exact absurd (live_add e) (nlive 0)
    | spawn l=>exact absurd (live_spawn e) (nlive 0)
    | recv=>exact absurd (live_recv e) (nlive 0)
    | adding l p=>rcases dry 0 (walk_a e) with ⟨l,_,_,h1,h2,_⟩|⟨h,_⟩ <;> omega
  have hms:=hE.I.ms;rw[hm] at hms;obtain⟨hsp,hcn,hcg,hnw⟩:=hms
  have hc:s.c = .wt .w4∧s.gm=0:=by
    cases e:s.c with
    | none=>exact absurd e hcn
    | gone=>exact absurd e hcg
    | live1=>exact absurd (live_c (.inr e)) (nlive _)
    | live0=>exact absurd (live_c (.inl e)) (nlive _)
    | wt p=>
      rcases dry _ (walk_c e) with ⟨l,_,_,h1,h2,_⟩|⟨_,h,h'⟩
      . omega
      . rw[e] at h;exact⟨h,h'⟩
  have hdryW:∀ l,l<A.n->walkM P A s (A.b+l)->∃ sv Y,s.w l = .lk (.park sv) Y∧s.sh.ms=0:=fun l hl h=>by
    rcases dry _ h with ⟨l',sv,Y,h1,h2,h3,h4⟩|⟨h1,_⟩
    . obtain rfl:l'=l:=by omega
      exact⟨sv,Y,h3,h4⟩
    . omega
  have hws:∀ l,l<A.n->s.w l = .gone∨∃ sv Y,s.w l = .lk (.park sv) Y∧s.sh.ms=0:=fun l hl=>by
    have hid:=hE.I.idle l hl;cases e:s.w l with
    | idle=>rw[e] at hid;have:=hid.1 rfl;omega
    | run h X=>exact absurd (live_run hl e) (nlive _)
    | lk p Y=>have:=hdryW l hl (.inr (.inl ⟨l,hl,rfl,by rw[e];trivial⟩));rw[e] at this;exact .inr this
    | un p Y=>have:=hdryW l hl (.inr (.inl ⟨l,hl,rfl,by rw[e];trivial⟩));rw[e] at this;obtain⟨_,_,h,_⟩:=this;cases h
    | wait=>exact absurd e (hnw l hl)
    | ran=>exact absurd (live_ran hl e) (nlive _)
    | dn p=>have:=hdryW l hl (walk_dn hl e);rw[e] at this;obtain⟨_,_,h,_⟩:=this;cases h
    | gone=>exact .inl rfl
  have hall:∀ l,l<A.n->s.w l = .gone:=fun l hl=>by
    rcases hws l hl with h|⟨sv,Y,h,h0⟩
    . exact h
    . have h1:=hE.I.mu.alive (fun i hi=>by
        rcases hws i hi with h|⟨sv,Y,h,_⟩
        . exact .inl (by rw[h];rfl)
        . exact .inr ⟨sv,by rw[h];rfl⟩) h0 l hl
      rw[h] at h1;cases h1
  have hgc:s.gc=0:=by
    have h1:=hE.I.g1;rw[hm] at h1
    have h2:sumTo A.n (fun j=>(s.w j).cnt)=0:=by
      have:∀ n,n≤A.n->sumTo n (fun j=>(s.w j).cnt)=0:=fun n=>by
        induction n with
        | zero=>intro _;rfl
        | succ n ih=>
          intro hn;have e1:=ih (by omega)
          simp only[sumTo,e1,hall n (by omega)]
          rfl
      exact this A.n (Nat.le_refl _)
    have e:MSt.parked.pend=0:=rfl;omega
  have hwt:s.c.waits=true:=by rw[hc.1];rfl
  by_cases hv:s.gv=1
  . obtain⟨i,hi,h⟩:=hE.I.g7 hv hgc
    rw[hall i hi] at h
    rcases h with h|h <;> cases h
  . have:=hE.I.g2
    obtain⟨i,hi,h⟩:=hE.I.g6 hwt (by omega) hc.2
    rw[hall i hi] at h;cases h
variable (C:GrChk P A.ng) (X:GrExt P A.ng) (CM:MuChk P A.nm) (XM:MuExt P A.nm) (F:MuFn P A.nm)
include C X CM XM F in
theorem mart_talk (hZ:A.b+A.n+1≤Z.lk) (sl:Option (Nat × Nat)) (i:Nat) {k:Know} {O:OwnM} {g:Goroutine} {N:Know->OwnM->Goroutine->Prop} (h0:g.status = .running) (h:(modeM P A Fin s i).talk k O g N) (c:∀ k' O' g',N k' O' g'->TT P (modeM P A Fin s i) k' O' g')
    (hC:Conf (mart P A Fin Z hZ) Z s f q kk OO J M gs w t) (hl:liveM P A s i) (hf:f i=⟨modeM P A Fin s i,k,O,g,.talk N h0 h c⟩) :
    ∃ ops m',runT P (crowd gs w sl) i=(.next m',ops) ∧
        ((∃ s' f' q' kk' OO' J' M' gs' w' sl',m'=crowd gs' w' sl'∧MS.Less A.n s' s∧Conf (mart P A Fin Z hZ) Z s' f' q' kk' OO' J' M' gs' w' (t ++ ops)) ∨
         (∃ gs' w' sl' k' O' g',m'=crowd gs' w' sl'∧Stands P Z.W0 k' O' g' gs' w' (t ++ ops)∧Fin k' O' g')):=by
  have hE:MEx P A Z s kk OO J M gs.size w t:=hC.ex
  have goes:Goes P A Fin Z hZ s gs w t sl i->∃ ops m',runT P (crowd gs w sl) i=(.next m',ops) ∧
        ((∃ s' f' q' kk' OO' J' M' gs' w' sl',m'=crowd gs' w' sl'∧MS.Less A.n s' s∧Conf (mart P A Fin Z hZ) Z s' f' q' kk' OO' J' M' gs' w' (t ++ ops)) ∨
         (∃ gs' w' sl' k' O' g',m'=crowd gs' w' sl'∧Stands P Z.W0 k' O' g' gs' w' (t ++ ops)∧Fin k' O' g')):=fun ⟨ops,m',e1,e2⟩=>⟨ops,m',e1,.inl e2⟩
  obtain⟨_,hgi,_,hfk,hfO,_,_,_,_⟩:=hC.live i hl;rw[hf] at hgi hfk hfO;have hgi:gs[i]? = some g:=hgi;have hfk:k=kk i:=hfk;have hfO:O=OO i:=hfO;subst hfk hfO
  rcases hl with ⟨rfl,hm⟩|⟨j,hj,rfl,hw⟩|⟨rfl,hc⟩
  . cases e:s.ms with
    | add l=>
      rw[mode_add e] at h;cases l with
      | zero=>exact goes (ev_spawnC hZ hC e hgi h sl)
      | succ l=>exact goes (talk_add C X hZ hC e rfl rfl hgi h sl)
    | adding l p=>rw[e] at hm;exact hm.elim
    | spawn l=>
      have hmode:modeM P A Fin s 0=moS P A Fin l:=by unfold modeM;rw[if_pos rfl,e]
      rw[hmode] at h;exact goes (ev_spawnW hZ hC e hgi h sl)
    | parked=>rw[e] at hm;exact hm.elim
    | recv=>
      rw[mode_recv e] at h;obtain⟨g₂,z,r1,r2,r3,r4⟩:=moR_talk h
      by_cases hwt:∃ j,j<A.n∧s.w j = .wait
      . obtain⟨j,hj,hw⟩:=hwt
        exact goes (ev_meetM hZ hC e hj hw hgi r1 h sl)
      . by_cases hc:s.c = .gone
        . obtain⟨ops,m',e1,gs',w',sl',k',O',g',e2,e3⟩:=ev_end hZ hC e hc hgi h sl
          exact⟨ops,m',e1,.inr ⟨gs',w',sl',k',O',g',e2,e3⟩⟩
        . exact goes (ev_parkM hZ hC e (fun j hj hw=>hwt ⟨j,hj,hw⟩) hc hgi r1 r2 r3 r4 sl)
  . cases e:s.w j with
    | run b X0=>
      have hmode:=mode_run (Fin:=Fin) hj e;have h':=h;rw[hmode] at h'
      rcases h' with h'|h'|⟨rfl,hO,g₂,z,v,hs,hv,ht⟩
      . exact goes (talk_lock CM XM F hZ hC hj e (Y:=⟨modeM P A Fin s (A.b+j),_,_,g,N,h0,h,c⟩) hf h' sl)
      . exact goes (talk_unlock CM XM F hZ hC hj e (Y:=⟨modeM P A Fin s (A.b+j),_,_,g,N,h0,h,c⟩) hf h' sl)
      . have hb:b=false:=by
          cases b with
          | false=>rfl
          | true=>exact absurd hO (hE.tok' j hj (by rw[e];rfl))
        subst hb
        by_cases hm:s.ms = .parked
        . exact goes (ev_meetW hZ hC hj e hm hgi hs hv ht sl)
        . exact goes (ev_park hZ hC hj e hm hgi hs hO hv ht sl)
    | ran=>
      have hmode:=mode_ran (Fin:=Fin) hj e;rw[hmode] at h;exact goes (talk_done C X hZ hC hj e hgi h sl)
    | _=>rw[e] at hw;exact hw.elim
  . cases e:s.c with
    | live1=>
      rw[mode_c1 e] at h;exact goes (talk_wait C X hZ hC e rfl rfl hgi h sl)
    | live0=>
      rw[mode_c0 (by rw[e];simp)] at h
      exact goes (ev_close hZ hC e hgi h sl)
    | _=>rw[e] at hc;exact hc.elim
include C X CM XM F in
theorem mart_stop (hZ:A.b+A.n+1≤Z.lk) (sl:Option (Nat × Nat)) (i:Nat) {g:Goroutine} (hC:Conf (mart P A Fin Z hZ) Z s f q kk OO J M gs w t) (hw:walkM P A s i) (hg:gs[i]? = some g) (hat:atM P A Fin s i (kk i) (OO i) g) :
    Goes P A Fin Z hZ s gs w t sl i∨Blocks P A s gs w sl i g:=by
  have hb:=A.hb
  rcases hw with ⟨rfl,hm⟩|⟨j,hj,rfl,hw⟩|⟨rfl,hc⟩
  . rcases hat with ⟨_,h⟩|⟨l,h1,h2,_⟩|⟨h1,_⟩
    . cases e:s.ms with
      | adding l p=>rw[e] at h;exact .inl (stop_adding C X hZ hC e hg h sl)
      | _=>rw[e] at hm;exact hm.elim
    . omega
    . omega
  . rcases hat with ⟨h1,_⟩|⟨l,h1,h2,h⟩|⟨h1,_⟩
    . omega
    . obtain rfl:l=j:=by omega
      cases e:s.w l with
      | lk p Y=>
        rw[e] at h
        by_cases hla:p = .la
        . subst hla;exact .inl (stop_la CM XM F hZ hC hj e hg h sl)
        . exact stop_lk CM XM hZ hC hj e hg h hla sl
      | un p Y=>
        rw[e] at h
        by_cases hur:p = .ur
        . subst hur;exact .inl (stop_ur CM XM hZ hC hj e hg h sl)
        . by_cases hue:p = .ue
          . subst hue;exact .inl (stop_ue CM XM F hZ hC hj e hg h sl)
          . exact .inl (stop_un CM XM hZ hC hj e hg h hur hue sl)
      | dn p=>rw[e] at h;exact .inl (stop_dn C X hZ hC hj e hg h sl)
      | _=>rw[e] at hw;exact hw.elim
    . omega
  . rcases hat with ⟨h1,_⟩|⟨l,h1,h2,h⟩|⟨_,h⟩
    . omega
    . omega
    . cases e:s.c with
      | wt p=>
        rw[e] at h
        by_cases hwa:p = .wa
        . subst hwa;exact .inl (stop_wa C X hZ hC e hg h sl)
        . exact stop_wt C X hZ hC e hwa hg h sl
      | _=>rw[e] at hc;exact hc.elim
include C X CM XM F in
theorem mart_run (hZ:A.b+A.n+1≤Z.lk) (hC:Conf (mart P A Fin Z hZ) Z s f q kk OO J M gs w t) (sl:Option (Nat × Nat)) :
    ∃ N gs' w' sl' t' k' O' g',runNT P N (crowd gs w sl) t=(.next (crowd gs' w' sl'),t')∧Stands P Z.W0 k' O' g' gs' w' t'∧Fin k' O' g':=
  pool_run (mart_bears (P:=P) (A:=A) (Fin:=Fin) (Z:=Z) hZ) Fin (fun hC=>mart_someone hZ hC) (by intro s f q kk OO J M gs w t sl i k O g N h0 h c hC hl hf;exact mart_talk C X CM XM F hZ sl i h0 h c hC hl hf)
    (by
      intro s f q kk OO J M gs w t sl i g hC hw hg hat _
      rcases mart_stop C X CM XM F hZ sl i hC hw hg hat with ⟨ops,m',e1,e2⟩|⟨hd,e⟩
      . exact⟨ops,m',e1,.inl e2⟩
      . exact⟨_,_,e,.inr (.inr ⟨hd,rfl,rfl⟩)⟩) s _ f _ q kk OO J M gs w sl t rfl rfl hC
end
end Go.Pal
