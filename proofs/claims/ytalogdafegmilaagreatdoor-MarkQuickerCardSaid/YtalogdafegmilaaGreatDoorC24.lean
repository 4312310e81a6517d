/- Part 24 of the proof. -/
import Derived.Test.YtalogdafegmilaaGreatDoorC23
set_option linter.all false
namespace Go.aN
open Go.Conc
open Go.ConcN (sumTo upd sumTo_upd upd_ne upd_same)
def hQ(c:Nat):Array Event:=#[⟨.obj c,false,true⟩,⟨.obj c,true,true⟩]
theorem lL(i:Nat)(fn:FuncId)(pos:String)(c:Nat):MemOp.ofEvents i fn pos (hQ c)=#[{g:=i,fn:=fn,pos:=pos,act:=.access ⟨.obj c,false,true⟩},{g:=i,fn:=fn,pos:=pos,act:=.close c}]:=by rw[ofEvents_eq];simp[hQ,MemAct.ofEvent]
theorem eY{i:Nat}{fn:FuncId}{pos:String}{c:Nat}{op:MemOp}(h:op∈MemOp.ofEvents i fn pos (hQ c)):op.g=i/\(op.act≠.mark .disable/\op.act≠.mark .enable)/\(∀a,op.act.touch?=some a->a.loc=.obj c/\a.kind=.atomic)/\(∀B,c<B->op.act.low B)/\∀a,op.act≠.mark (.release a):=by
 rw[lL]at h;simp only[List.mem_toArray,List.mem_cons,List.not_mem_nil,or_false]at h;rcases h with rfl|rfl
 . exact⟨rfl,⟨by simp,by simp⟩,λa ha=>by simp only[MemAct.touch?,Option.some.injEq]at ha;subst ha;exact⟨rfl,rfl⟩,λB hB=>hB,by simp⟩
 . exact⟨rfl,⟨by simp,by simp⟩,λa ha=>(by cases ha),λB hB=>hB,by simp⟩
section
variable{P:Program}{A:dM}{Fin:ag->ah->Goroutine->Prop}{Z:Base}{s s':MS P}{f f':Nat->Node P}{q q':Nat->Nat}{kk kk':Nat->ag}{OO OO':Nat->ah}{J J' M M':Nat->Prop}{gs gs':Array Goroutine}{w w':World}{t u:Trace}{j:Nat}{g g₂:Goroutine}{z v:Value}
theorem dq.again{k:ag}{O:ah}{g g₂:Goroutine}{z z':Value}(h:dq P A k O g g₂ z)(hr:g.status=.running)(sh:CommShape):dq P A k O {parked g #[rcase A.cF z'] sh with status:=.running} g₂ z:=λw hw=>by
 rw[stepG_tries];have:({g with status:=.running}:Goroutine)=g:=by cases g;simp only at hr;subst hr;rfl
 rw[this];exact h w hw
theorem E3{m:Nat}{R:List Nat}{k:ag}{O:ah}{g:Goroutine}{z:Value}{sh:CommShape}{N:ag->ah->Goroutine->Prop}(h:(pC P A Fin m R).dc k O g N)(hr:g.status=.running):
 T P (pC P A Fin m R) iG k O {parked g #[rcase A.cF z] sh with status:=.running}:=by
 refine .dc iG rfl ?_ (λ_ _ _ h=>h.elim);cases m with
 |zero=>obtain⟨_,g₂,y,h1,h2,h3,h4⟩:=h;exact⟨rfl,g₂,y,h1.again hr sh,h2,h3,h4⟩
 |succ m=>obtain⟨_,g₂,y,h1,h2,h3,h4⟩:=h;exact⟨rfl,g₂,y,h1.again hr sh,h2,h3,h4⟩
theorem bV.shut(h:bV Z kk OO J M w t){i c:Nat}{x:Nat}{tm:Bool}(hJ:∀l,J l->l=i)(hMn:∀p,¬M p)(hc:w.heap[c]?=some (.chan 0 #[] false x x tm))(hf:∀l,OO l c=none)(hkn:∀n b,touchAt t n=some b->b.loc=.obj c->b.kind=.plain->Knows t i n)(hlow:Z.W0.heap.size<=c)(fn:FuncId)(pos:String):
 bV Z kk OO (λ_=>False) (λp=>p=t.size+1) {w with heap:=w.heap.setIfInBounds c (.chan 0 #[] true x x tm)} (t++MemOp.ofEvents i fn pos (hQ c)):=by
 have hcl:c<w.heap.size:=(Array.getElem?_eq_some_iff.1 hc).1;have hop1:(MemOp.ofEvents i fn pos (hQ c))[1]?=some {g:=i,fn:=fn,pos:=pos,act:=.close c}:=by rw[lL];rfl
 have hheap:∀b,(w.heap.setIfInBounds c (.chan 0 #[] true x x tm))[b]?=if b=c then some (.chan 0 #[] true x x tm)else w.heap[b]?:=λb=>by
  by_cases hbc:b=c
  . subst hbc;rw[if_pos rfl];exact Array.getElem?_setIfInBounds_self_of_lt hcl
  . rw[if_neg hbc];exact Array.getElem?_setIfInBounds_ne (Ne.symm hbc)
 refine h.rY (λa b=>a=b) (by simp) ⟨⟨.refl _,rfl⟩,λb hb=>by show(w.heap.setIfInBounds c (.chan 0 #[] true x x tm))[b]?=_;rw[hheap,if_neg (by omega)]⟩ (λb=>?_) (λop hop=>(eY hop).2.2.2.1 _ hcl) (λa b e n y _ _ _ hk=>by subst e;exact hk.app _) (λj b n v h=>⟨j,rfl,h⟩) (λj b s h=>⟨j,rfl,h⟩) (λj b x h=>⟨j,rfl,h,λ_ h=>h⟩) h.iV
  (λsaid=>noRace_append (h.clean said) (λop hop=>(eY hop).1) λn a ha op hop b hb hc=>?_) (λop hop a ha hm=>?_) (λm op a hop ha hm=>?_) (λn a ha hm hh=>?_)
 . show Kept kk OO w _ b
   unfold Kept;rw[hheap];by_cases hbc:b=c
   . subst hbc
     exact .inr (.inl ⟨⟨_,_,_,_,_,_,hc⟩,⟨_,_,_,_,_,_,by rw[hheap,if_pos rfl]⟩,hf⟩)
   . rw[if_neg hbc];exact .inl rfl
 . obtain⟨e1,e2⟩:=(eY hop).2.2.1 b hb
   obtain⟨c1,_,_,c4⟩:=hc;rcases c4 with c4|c4|⟨_,_,c4⟩
   . exact hkn n a ha (c1.trans e1) c4
   . rw[e2]at c4;cases c4
   . rw[e2]at c4;cases c4
 . obtain⟨e1,e2⟩:=(eY hop).2.2.1 a ha
   rw[e1];exact⟨hcl,λl o ho=>by rw[hf l]at ho;cases ho⟩
 . refine .inr (.inr (.inl ⟨t.size+1,rfl,?_⟩))
   have hm0:m=0:=by
    rw[lL]at hop
    match m,hop with
    |0,_=>rfl
    |1,hop=>simp at hop;subst hop;simp[MemAct.touch?]at ha
    |m+2,hop=>simp at hop
   subst hm0;exact .inr (hb_po (by omega) (cY (m:=0) hop) (cY (m:=1) hop1) (eY (Array.mem_of_getElem? hop)).1)
 . rcases hh with⟨l,h1,h2⟩|⟨p,h1,_⟩
   . obtain rfl:=hJ l h1
     exact .inr (.inr (.inl ⟨t.size+1,rfl,kQ (m:=1) h2 hop1 rfl⟩))
   . exact absurd h1 (hMn p)
theorem HL(hZ:A.b+A.n+1<=Z.lk)(hC:br (bW P A Fin Z hZ) Z s f q kk OO J M gs w t)(hw:s.c=.jI)(hg:gs[A.b+A.n]?=some g){N:ag->ah->Goroutine->Prop}(ht:(qh P A).dc (kk (A.b+A.n)) (OO (A.b+A.n)) g N)(sl:Option (Nat × Nat)):
 Goes P A Fin Z hZ s gs w t sl (A.b+A.n):=by
 have hE:cW P A Z s kk OO J M gs.size w t:=hC.ex;have hb:=A.hb;obtain⟨rfl,g',nq,hmw,hs,hq⟩:=ht;obtain⟨x,tm,hF⟩:=hE.v7;have hng:s.c.dP=false:=by rw[hw];rfl
 rw[hng]at hF;obtain⟨c0,v0,m0,hall⟩:=hE.I.g8 (by rw[hw];rfl)
 have hms:s.sp=A.n/\(s.ms=.recv\/s.ms=.parked):=by
  have:=hE.I.ms;cases e:s.ms with
  |recv=>rw[e]at this;exact⟨this.1,.inl rfl⟩
  |parked=>rw[e]at this;exact⟨this.1,.inr rfl⟩
  |add l=>rw[e]at this;rw[hw]at this;cases this.2
  |bj l p=>rw[e]at this;rw[hw]at this;cases this.2.1
  |spawn l=>rw[e]at this;rw[hw]at this;cases this.2
 have hlt:=(Array.getElem?_eq_some_iff.1 hg).1;obtain⟨_,_,_,_,_,_,hd,_⟩:=hC.live _ (su (.inl hw));have hi0:(A.b+A.n==0)=false:=by simp;omega
 have hcl:A.cF<w.heap.size:=(Array.getElem?_eq_some_iff.1 hF).1;have hrun:=runT_crowd_go (P:=P) (sl:=sl) (i:=A.b+A.n) hg (by rw[hi0];exact hs w x x tm (hC.bY.sat _) hF)
 obtain⟨w',hw'⟩:∃w',w'={w with heap:=w.heap.setIfInBounds A.cF (.chan 0 #[] true x x tm)}:=⟨_,rfl⟩
 have hP:=hC.bY.shut (i:=A.b+A.n) (c:=A.cF) (x:=x) (tm:=tm) (λl hl=>by
  rcases(hE.hJ l).1 hl with⟨j,h1,h2,h3⟩|⟨h1,_⟩
  . rw[hall j h1]at h3;cases h3
  . exact h1) (λp hp=>by
  obtain⟨_,_,h3⟩:=hE.hM p hp
  rcases h3 with⟨_,h3⟩|⟨h3,_⟩
  . rw[hw]at h3;rcases h3 with h3|h3|⟨_,h3⟩<;>cases h3
  . rw[hw]at h3;cases h3) hF (λl=>(hE.fB l).1) (λn b hb hl hk=>hE.quiet n b hb (by rw[hl];rfl) hk _ (DR (by rw[hw];simp))) hE.dX.1 g.frame.fn g.frame.place
 rw[<-hw']at hrun hP
 change runT P (crowd gs w sl) (A.b+A.n)=(_,MemOp.ofEvents (A.b+A.n) g.frame.fn g.frame.place (hQ A.cF))at hrun
 have hu:kP (MemOp.ofEvents (A.b+A.n) g.frame.fn g.frame.place (hQ A.cF)):=λop h=>(eY h).2.1
 have hheap:∀b,w'.heap[b]?=if b=A.cF then some (.chan 0 #[] true x x tm)else w.heap[b]?:=λb=>by
  rw[hw']
  by_cases hbc:b=A.cF
  . subst hbc;rw[if_pos rfl];exact Array.getElem?_setIfInBounds_self_of_lt hcl
  . rw[if_neg hbc];exact Array.getElem?_setIfInBounds_ne (Ne.symm hbc)
 have hgr:g'.status≠.blocked/\g'.status≠.waiting:=by rcases hq.status with h|h<;>rw[h]<;>simp
 have hwk:∀o,woken P g g' w' o=o.again w':=λo=>by unfold Go.Conc.woken;rw[if_pos];simp[hmw,hgr.1,hgr.2]
 have hother:∀i o,gs[i]?=some o->i≠0->i≠A.b+A.n->woken P g g' w' o=o:=λi o ho h0 hn=>by
  have nl:¬dg P A s i:=by
   rintro(⟨e,_⟩|⟨l,h1,h2,h3⟩|⟨e,_⟩)
   . exact h0 e
   . rw[hall l h1]at h3;exact h3
   . exact hn e
  have nw:¬eV P A s i:=by
   rintro(⟨e,_⟩|⟨l,h1,h2,h3⟩|⟨e,_⟩)
   . exact h0 e
   . rw[hall l h1]at h3;exact h3
   . exact hn e
  have nh:¬dW P A s i:=by
   rintro(⟨e,_⟩|⟨l,h1,h2,h3⟩)
   . exact h0 e
   . rw[hall l h1]at h3;cases h3
  exact woken_quitsD (hC.rest i o ho nl nw nh).2
 have hne:∀i,¬(i=0\/i=A.b+A.n)->((gs.map (woken P g g' w')).setIfInBounds (A.b+A.n) g')[i]?=gs[i]?:=λi hi=>by
  rw[Array.getElem?_setIfInBounds_ne (λe=>hi (.inr e.symm)),Array.getElem?_map]
  cases hg:gs[i]? with
  |none=>rfl
  |some o=>simp only[Option.map_some,hother i o hg (λe=>hi (.inl e)) (λe=>hi (.inr e))]
 have hself:((gs.map (woken P g g' w')).setIfInBounds (A.b+A.n) g')[A.b+A.n]?=some g':=Array.getElem?_setIfInBounds_self_of_lt (by simpa using hlt)
 obtain⟨s',hs'⟩:∃s':MS P,s'={s with c:=.gone,ms:=.recv}:=⟨_,rfl⟩
 have hsm:s'.ms=.recv:=by rw[hs']
 have hsw:s'.w=s.w:=by rw[hs']
 have hsc:s'.c=.gone:=by rw[hs']
 have hrem:MS.rem P A.n s'=MS.rem P A.n s:=CG λl _=>by rw[hsw]
 obtain⟨d0,g0,hg0,tr,_⟩:Deaf t 0=0/\∃g0,((gs.map (woken P g g' w')).setIfInBounds (A.b+A.n) g')[0]?=some g0/\∃tr:TT P (pC P A Fin (MS.rem P A.n s).length (MS.rem P A.n s)) (kk 0) (OO 0) g0,True:=by
  rw[Array.getElem?_setIfInBounds_ne (by omega),Array.getElem?_map]
  rcases hms.2 with hm|hm
  . obtain⟨_,p1,pm,pk,pO,p2,p3,_⟩:=hC.live 0 (iB hm)
    have pm:(f 0).m=bu P A Fin s 0:=pm;rw[mH hm]at pm;refine⟨p3,(f 0).g,by rw[p1,Option.map_some,woken_run p2],?_⟩
    rw[<-pm,<-pk,<-pO];exact⟨(f 0).t,trivial⟩
  . obtain⟨_,_,_,p3,gp,p4,_,p5⟩:=hC.held 0 (.inl ⟨rfl,hm⟩)
    rcases p5 with⟨_,gm,zm,rfl,p6,p7,p8⟩|⟨l,h1,h2,_⟩
    . rw[p4]
      refine⟨p3,_,rfl,?_⟩;rw[hwk,again_recv_closed (by rw[hheap,if_pos rfl])]
      obtain⟨tr⟩:=T.tree (vy (P:=P) (A:=A) (Fin:=Fin) _ _) (E3 (z:=zm) (sh:=.recv true) p8 p7);exact⟨tr,trivial⟩
    . omega
 have hI:bD A.n s':=by
  rw[hs'];refine⟨?_,hE.I.g2,λh=>(by have h:s.gv=1:=h;omega),hE.I.g3,hE.I.tE,λi hi h=>(by have h:s.w i=.dn .d7:=h;rw[hall i hi]at h;cases h),⟨hE.I.g5.1,λh=>(by have h:s.gm=1:=h;omega)⟩,λh=>(by cases h),hE.I.g7,λ_=>⟨c0,v0,m0,hall⟩,λk h=>(by cases h),hE.I.ok,rfl,hE.I.sp,hE.I.idle,⟨hms.1,by simp⟩,λh=>(by cases h),hE.I.mu⟩
  have:=hE.I.g1;show s.gc=sumTo A.n (λj=>(s.w j).cnt)+nG.recv.pend
  rcases hms.2 with e|e<;>rw[e]at this<;>exact this
 have hop1:(MemOp.ofEvents (A.b+A.n) g.frame.fn g.frame.place (hQ A.cF))[1]?=some {g:=A.b+A.n,fn:=g.frame.fn,pos:=g.frame.place,act:=.close A.cF}:=by rw[lL];rfl
 have hnew:(t++MemOp.ofEvents (A.b+A.n) g.frame.fn g.frame.place (hQ A.cF)).act? (t.size+1)=some (.close A.cF)/\(t++MemOp.ofEvents (A.b+A.n) g.frame.fn g.frame.place (hQ A.cF)).heard (t.size+1):=⟨act?_of (cY (m:=1) hop1),heard_new (m:=1) hu hop1 hd⟩
 have hbg:∀i,bE P A s' i->bE P A s i:=λi hi=>by
  rcases hi with h0|⟨j,h1,h2⟩|⟨h1,h2⟩
  . exact .inl h0
  . exact .inr (.inl ⟨j,by rw[hs']at h1;exact h1,h2⟩)
  . exact .inr (.inr ⟨h1,by rw[hw];simp⟩)
 have hbg':∀i,bE P A s i->bE P A s' i:=λi hi=>by
  rcases hi with h0|⟨j,h1,h2⟩|⟨h1,h2⟩
  . exact .inl h0
  . exact .inr (.inl ⟨j,by rw[hs'];exact h1,h2⟩)
  . exact .inr (.inr ⟨h1,by rw[hsc];simp⟩)
 have hkd:∀op∈MemOp.ofEvents (A.b+A.n) g.frame.fn g.frame.place (hQ A.cF),∀a,op.act.touch?=some a->a.kind=.atomic:=λop hop a ha=>((eY hop).2.2.1 a ha).2
 have hEx:cW P A Z s' kk OO (λ_=>False) (λp=>p=t.size+1) ((gs.map (woken P g g' w')).setIfInBounds (A.b+A.n) g').size w' (t++MemOp.ofEvents (A.b+A.n) g.frame.fn g.frame.place (hQ A.cF)):=by
  refine⟨hI,?_,⟨x,tm,by rw[hheap,if_pos rfl,hsc];rfl⟩,?_,?_,?_,?_,hE.fB,hE.dI,λi y hy=>?_,λl hl hlo=>hE.vm l hl (by rw[<-hsw];exact hlo),λhlo=>hE.Hp λl hl=>by rw[<-hsw];exact hlo l hl,λc hc=>?_,λi=>?_,λp hp=>?_,λ_=>⟨t.size+1,rfl,hnew⟩,λm a ha hs hk i hi=>hE.iX _ (λop hop a ha _ hk=>by rw[hkd op hop a ha]at hk;cases hk) m a ha hs hk i (hbg i hi),λm a ha hs hk=>?_,λi hi=>hE.mW _ i (hbg i hi),hE.gV _ (λop hop=>(eY hop).2.2.2.2),λi hlk hn=>hE.AE i hlk λh=>hn (hbg' i h),hE.qc,hE.jp,hE.dX,hE.la,by simp;exact Nat.le_trans hE.n0 (Nat.le_add_right _ _)⟩
  . have:=hE.size
    rw[hw]at this;rw[hsc];simp only[Array.size_setIfInBounds,Array.size_map,jh.isNone]at this ⊢;rw[hs'];exact this
  . rw[show s'.sh=s.sh by rw[hs']];exact hE.mu.same (.of_heap (by rw[hheap,if_neg (Ne.symm A.d1)]))
  . rw[show s'.gc=s.gc by rw[hs'],show s'.gv=s.gv by rw[hs'],show s'.gm=s.gm by rw[hs']];exact hE.gr.same (.of_heap (by rw[hheap,if_neg (Ne.symm A.d2)]))
  . rw[hheap,if_neg (Ne.symm A.d1)];exact hE.ti
  . rw[hheap,if_neg (Ne.symm A.d2)];exact hE.wv
  . rw[hsw];exact hE.tok i y hy
  . rw[hsw];exact hE.Gk c hc
  . refine⟨λh=>h.elim,?_⟩
    rintro(⟨j,h1,h2,h3⟩|⟨h1,h2⟩)
    . rw[hsw,hall j h1]at h3;cases h3
    . rw[hsc]at h2;cases h2
  . subst hp
    exact⟨hnew.2,by have:=hE.n0;omega,.inr ⟨hsc,hnew.1⟩⟩
  . have h0:=hE.lF _ (λop hop a ha _ hk=>by rw[hkd op hop a ha]at hk;cases hk) m a ha hs hk
    rw[hw]at h0;rw[hsc];exact h0
 have hL:MS.fX A.n s' s:=by
  refine .inl ?_;rw[hs'];show nG.recv.cz+sumTo A.n (λi=>(s.w i).cz)+jh.gone.cz s.gc<s.ms.cz+sumTo A.n (λi=>(s.w i).cz)+s.c.cz s.gc
  rw[hw];have e2:nG.recv.cz=100:=rfl;have e3:jh.gone.cz s.gc=0:=rfl;have e4:jh.jI.cz s.gc=3:=rfl;have e5:99<=s.ms.cz:=by rcases hms.2 with e|e<;>rw[e]<;>simp[nG.cz]
  omega
 have hS:gi A s s' (λi=>i=0\/i=A.b+A.n):=⟨λl _ hl=>by rw[hsw],λh=>absurd (.inr rfl) h,λh=>absurd (.inl rfl) h,by rw[hs'],by rw[hs']⟩
 refine⟨_,_,hrun,s',bv f 0 ⟨_,_,_,_,tr⟩,upd q (A.b+A.n) nq,kk,OO,λ_=>False,(λp=>p=t.size+1),_,_,_,rfl,hL,?_⟩
 refine hC.E1 hu hP hEx (by simp) (λi=>i=0\/i=A.b+A.n) hne (kG hZ hS (λi hi=>ar _ _ (λe=>hi (.inl e))) (λi hi=>upd_ne q nq (λe=>hi (.inr e))) (λ_ _ _=>rfl) (λ_ _ _=>rfl) (λi hi hl _=>?_)) (λi hi=>?_)
 . rcases hl with⟨e,_⟩|⟨l,h1,h2,h3⟩|⟨e,_⟩
   . exact absurd (.inl e) hi
   . rw[hall l h1]at h3;exact h3.elim
   . exact absurd (.inr e) hi
 . rcases hi with rfl|rfl
   . refine⟨g0,hg0,λ_=>?_,λh=>absurd h (rk (.inl hsm)),λh=>absurd h (lJ (by rw[hsm];simp)),λh=>absurd (iB hsm) h⟩
     rw[an];refine⟨by show 0<A.b+A.n+1;omega,rfl,?_,rfl,rfl,tr.running,by rw[bK hu];exact d0,.inl rfl,AZ⟩
     show pC P A Fin _ _=bu P A Fin s' 0;rw[mH hsm,hrem]
   . refine⟨g',hself,λh=>absurd h ?_,λh=>absurd h ?_,λh=>absurd h rg,λ_ _ _=>⟨by omega,by rw[upd_same,bK hu,hd];exact hq⟩⟩
     . rintro(⟨e,_⟩|⟨l,h1,h2,h3⟩|⟨_,h3⟩)
       . omega
       . omega
       . rw[hsc]at h3;exact h3
     . rintro(⟨e,_⟩|⟨l,h1,h2,h3⟩|⟨_,h3⟩)
       . omega
       . omega
       . rw[hsc]at h3;exact h3
end
section
variable{P:Program}{A:dM}{Fin:ag->ah->Goroutine->Prop}{Z:Base}{s s':MS P}{f f':Nat->Node P}{q q':Nat->Nat}{kk kk':Nat->ag}{OO OO':Nat->ah}{J J' M M':Nat->Prop}{gs gs':Array Goroutine}{w w':World}{t u:Trace}{j:Nat}{g g₂:Goroutine}{z v:Value}
theorem rn{w:World}{b i:Nat}{c:Array Value}{e:TypeId}{v:Value}(h:w.heap[b]?=some (.cells c e (0,0)))(hc:w.cell? ⟨b,i,none⟩=some v):c[i]?=some v:=by simpa[World.cell?,h]using hc
theorem A8{w:World}{b:Nat}{c:Array Value}{e:TypeId}(h:w.heap[b]?=some (.cells c e (0,0))):w.shape? b=some (e,c.size):=by simp[World.shape?,h]
theorem Me(hZ:A.b+A.n+1<=Z.lk)(hC:br (bW P A Fin Z hZ) Z s f q kk OO J M gs w t)(hm:s.ms=.recv)(hc:s.c=.gone)(hg:gs[0]?=some g){N:ag->ah->Goroutine->Prop}(ht:(pC P A Fin (MS.rem P A.n s).length (MS.rem P A.n s)).dc (kk 0) (OO 0) g N)(sl:Option (Nat × Nat)):
 ∃ops m',runT P (crowd gs w sl) 0=(.next m',ops)/\∃gs' w' sl' k' O' g',m'=crowd gs' w' sl'/\ed P Z.W0 k' O' g' gs' w' (t++ops)/\Fin k' O' g':=by
 have hE:cW P A Z s kk OO J M gs.size w t:=hC.ex;have hb:=A.hb;have hlk0:(0:Nat)≠Z.lk:=by omega
 obtain⟨c0,v0,m0,hall⟩:=hE.I.g8 (by rw[hc];rfl)
 obtain⟨xs,tm,hF⟩:=hE.v7;rw[show s.c.dP=true by rw[hc];rfl]at hF
 have hrem:MS.rem P A.n s=[]:=by
  cases hr:MS.rem P A.n s with
  |nil=>rfl
  | cons a l=>
    have:a∈MS.rem P A.n s:=by rw[hr];simp
    obtain⟨e1,e2⟩:=ri.1 this;rw[hall a e1]at e2;cases e2
 rw[hrem]at ht;obtain⟨_,g₂,z,e1,_,e3,⟨es,hsh⟩,e4⟩:=ht;have hlt:=(Array.getElem?_eq_some_iff.1 hg).1;obtain⟨_,_,_,_,_,_,d0,_⟩:=hC.live _ (iB hm);have hrun:=crowd_recv_closed (P:=P) (sl:=sl) hg (show stepG P (0==0) g w=_ from e1 w (hC.bY.sat 0)) hF (m5 λi x _ hx=>tu hZ hC hx (λj h1 h2 h3=>by rw[hall j h1]at h3;cases h3) _)
 rw[gk]at hrun;obtain⟨u,hu'⟩:∃u:Trace,u=#[{g:=0,fn:=g₂.frame.fn,pos:=g₂.frame.place,act:=.recvClosed A.cF}]:=⟨_,rfl⟩;have hrun2:runT P (crowd gs w sl) 0=(.next (crowd (gs.setIfInBounds 0 (g₂.finishComm P #[rcase A.cF z] (.recv true) 0 z false)) w sl),u):=by rw[hrun,hu'];simp
 have hDl:A.cF<w.heap.size:=(Array.getElem?_eq_some_iff.1 hF).1;have hmem:∀op∈u,op={g:=0,fn:=g₂.frame.fn,pos:=g₂.frame.place,act:=.recvClosed A.cF}:=λop h=>by rw[hu']at h;simpa using h
 have hu:kP u:=λop h=>by rw[hmem op h];exact⟨by simp,by simp⟩
 have hu0:u[0]?=some {g:=0,fn:=g₂.frame.fn,pos:=g₂.frame.place,act:=.recvClosed A.cF}:=by rw[hu'];rfl
 have hnt:∀op∈u,op.act.touch?=none:=λop h=>by rw[hmem op h];rfl
 have noJ:∀i,¬J i:=λi hi=>by
  rcases(hE.hJ i).1 hi with⟨a,a1,a2,a3⟩|⟨_,a3⟩
  . rw[hall a a1]at a3;cases a3
  . rw[hc]at a3;cases a3
 have hMk:∀p n,M p->Before t n p->Knows (t++u) 0 n:=λp n hp hk=>by
  obtain⟨a1,_,a3⟩:=hE.hM p hp
  rcases a3 with⟨_,a4⟩|⟨_,a4⟩
  . rw[hc]at a4;rcases a4 with a4|a4|⟨_,a4⟩<;>cases a4
  . exact yC (t:=t) hu (m:=0) (y:={g:=0,fn:=g₂.frame.fn,pos:=g₂.frame.place,act:=.recvClosed A.cF}) hu0 a4 a1 rfl d0 hk
 have hall0:∀n a,touchAt t n=some a->a.loc.isMemory=true -> ¬Z.Shun a.loc->Knows (t++u) 0 n:=λn a ha hm hz=>by
  rcases hC.bY.acc n a ha hm with h|⟨j,hj,_⟩|⟨p,hp,h⟩|⟨h,_⟩
  . exact h.app u
  . exact absurd hj (noJ j)
  . exact hMk p n hp h
  . exact absurd h hz
 obtain⟨x,a,hx,hor,hgi⟩:=hE.Hp λj hj=>by rw[hall j hj];rfl
 have hlkO:∀c,OO Z.lk c≠none->c=A.mb:=λc h=>(hE.Gk c h).1
 have hfb:∀i,OO i A.fb=none:=λi=>by
  cases e:OO i A.fb with
  |none=>rfl
  |some y=>obtain⟨j,_,h1,_,h2,_⟩:=hE.tok i y e;rw[hall j h1]at h2;cases h2
 have hP1:bV Z (bv kk 0 ((kk 0).join (kk Z.lk))) (bv (bv OO 0 ((OO 0).set A.mb x)) Z.lk ah.bot) (λ_=>False) (λ_=>False) w (t++u):=by
  have hO1:∀j b y,bv (bv OO 0 ((OO 0).set A.mb x)) Z.lk ah.bot j b=some y->(j≠Z.lk/\OO j b=some y/\¬(j=0/\b=A.mb))\/(j=0/\b=A.mb/\y=x):=λj b y hy=>by
   by_cases e:j=Z.lk
   . subst e;rw[an]at hy;cases hy
   . rw [ar _ _ e]at hy
     by_cases e0:j=0
     . subst e0
       rw[an]at hy
       by_cases eb:b=A.mb
       . subst eb
         simp only[ah.set,if_true,Option.some.injEq]at hy;exact .inr ⟨rfl,rfl,hy.symm⟩
       . simp only[ah.set,if_neg eb]at hy
         exact .inl ⟨e,hy,λh=>eb h.2⟩
     . rw[ar _ _ e0]at hy
       exact .inl ⟨e,hy,λh=>e0 h.1⟩
  refine hC.bY.rY (λa b=>a=b\/(a=Z.lk/\b=0)) rfl ⟨⟨.refl _,rfl⟩,λ_ _=>rfl⟩ (λb=>.inl rfl) (λop h=>by rw[hmem op h];exact hDl) (λi j e n y hy hmm hz hkn=>?_) (λj b n v hv=>?_) (λj b s hv=>?_) (λj b y hy=>?_) (λi j b y hij hy=>?_)
   (λsaid=>noRace_appendMute (hC.bY.clean said) hnt) (λop hop a ha=>by rw[hnt op hop]at ha;cases ha) (λm op a hop ha=>by rw[hnt op (Array.mem_of_getElem? hop)]at ha;cases ha) (λn a ha hmm h=>?_)
  . rcases e with rfl|⟨rfl,rfl⟩
    . exact hkn.app u
    . exact(mR hlk0).2 (hall0 n y hy hmm hz)
  . by_cases e:j=0
    . subst e
      rw[an]at hv
      rcases ag.kC hv with hv|hv
      . exact⟨_,.inl rfl,hv⟩
      . exact⟨Z.lk,.inr ⟨rfl,rfl⟩,hv⟩
    . rw[ar _ _ e]at hv;exact⟨j,.inl rfl,hv⟩
  . by_cases e:j=0
    . subst e
      rw[an]at hv
      rcases ag.yA hv with hv|hv
      . exact⟨_,.inl rfl,hv⟩
      . exact⟨Z.lk,.inr ⟨rfl,rfl⟩,hv⟩
    . rw[ar _ _ e]at hv;exact⟨j,.inl rfl,hv⟩
  . rcases hO1 j b y hy with⟨h1,h2,h3⟩|⟨rfl,rfl,rfl⟩
    . refine⟨j,.inl rfl,h2,λs hs=>?_⟩
      by_cases e:j=0
      . subst e;rw[an];exact(ag.lC _ _).sh b s hs
      . rw[ar _ _ e];exact hs
    . refine⟨Z.lk,.inr ⟨rfl,rfl⟩,hx,λs hs=>?_⟩
      rw[an];exact(ag.nZ (hC.bY.sat 0) (hC.bY.sat Z.lk)).sh _ s hs
  . cases q:bv (bv OO 0 ((OO 0).set A.mb x)) Z.lk ah.bot j b with
    |none=>rfl
    | some y'=>
      rcases hO1 i b y hy with⟨h1,h2,h3⟩|⟨rfl,rfl,rfl⟩
      . rcases hO1 j b y' q with⟨k1,k2,k3⟩|⟨rfl,rfl,rfl⟩
        . have:=hC.bY.iV i j b y hij h2
          rw[k2]at this;cases this
        . have:=hC.bY.iV i Z.lk _ y h1 h2
          rw[hx]at this;cases this
      . rcases hO1 j A.mb y' q with⟨k1,k2,k3⟩|⟨rfl,_,_⟩
        . have:=hC.bY.iV j Z.lk _ y' k1 k2
          rw[hx]at this;cases this
        . exact absurd rfl hij
  . rcases h with⟨j,h1,_⟩|⟨p,h1,h2⟩
    . exact absurd h1 (noJ j)
    . exact .inl (hMk p n h1 h2)
 obtain⟨hw0,hm0⟩:=hE.I.mu.rest λi hi=>by rw[hall i hi];rfl
 obtain⟨cc,ce,hfbh⟩:=hE.ti
 have hshe:es=(ce,cc.size):=by have:=(hC.bY.sat 0).sh _ _ hsh;rw[A8 hfbh]at this;exact(Option.some.inj this).symm
 have hcw:cc[A.fo]?=some (.int .i32 0):=by have:=hE.mu.cw;rw[hw0]at this;exact rn hfbh this
 have hcs:cc[A.fo+1]?=some (.int .u32 0):=by have:=hE.mu.cs;rw[hm0]at this;exact rn hfbh this
 have hlE:∀n v,bC A.fo n=some v->(n=A.fo\/n=A.fo+1)/\cc[n]?=some v:=λn v hv=>by
  unfold bC at hv;split at hv
  . rename_i e;subst e;rw[<-hv];exact⟨.inl rfl,hcw⟩
  . split at hv
    . rename_i e;subst e;rw[<-hv];exact⟨.inr rfl,hcs⟩
    . cases hv
 have hnn:∀n,bC A.fo n≠none->(n=A.fo\/n=A.fo+1):=λn hn=>by
  cases e:bC A.fo n with
  |none=>exact absurd e hn
  |some v=>exact(hlE n v e).1
 have hnone:∀i n,(n=A.fo\/n=A.fo+1)->(bv kk 0 ((kk 0).join (kk Z.lk)) i).cell A.fb n=none:=λi n hn=>by
  have hk:∀l,(kk l).cell A.fb n=none:=λl=>by rcases hn with h|h<;>rw[h]<;>first|exact(hE.dI l).1|exact(hE.dI l).2.1
  cases e:(bv kk 0 ((kk 0).join (kk Z.lk)) i).cell A.fb n with
  |none=>rfl
  | some v=>
    by_cases ei:i=0
    . subst ei
      rw[an]at e
      rcases ag.kC e with e|e<;>rw[hk]at e<;>cases e
    . rw[ar _ _ ei,hk]at e;cases e
 have hP2:=hP1.Pm hlk0 (b:=A.fb) (f:=bC A.fo) (λi=>?_) (λn v hv i=>hnone i n (hlE n v hv).1) (λad had hf=>hE.jp ad ⟨had,hnn _ hf⟩) ⟨cc,ce,hfbh,?_,λn v hv=>(hlE n v hv).2⟩ (λm a ad ha hl hbk hf=>?_) hE.dX.2.1
 . obtain⟨g1,hg1⟩:∃g1,g1=g₂.finishComm P #[rcase A.cF z] (.recv true) 0 z false:=⟨_,rfl⟩
   have hnl:∀i,0<i -> ¬dg P A s i/\¬eV P A s i/\¬dW P A s i:=λi hi=>by
    refine⟨?_,?_,?_⟩
    . rintro(⟨h,_⟩|⟨a,a1,a2,a3⟩|⟨_,a3⟩)
      . omega
      . rw[hall a a1]at a3;exact a3
      . rw[hc]at a3;exact a3
    . rintro(⟨h,_⟩|⟨a,a1,a2,a3⟩|⟨_,a3⟩)
      . omega
      . rw[hall a a1]at a3;exact a3
      . rw[hc]at a3;exact a3
    . rintro(⟨h,_⟩|⟨a,a1,a2,a3⟩)
      . omega
      . rw[hall a a1]at a3;cases a3
   have hS:=hP2.finish (P:=P) (gs:=gs.setIfInBounds 0 g1) (g:=g1) (q:=q) (Array.getElem?_setIfInBounds_self_of_lt hlt) ⟨λi y hi hy=>by
    rw[Array.getElem?_setIfInBounds_ne (by omega)]at hy
    rw[bK hu];obtain⟨n1,n2,n3⟩:=hnl i hi;exact(hC.rest i y hy n1 n2 n3).2,λj hj=>by rw[bK hu];exact hC.above j (by simpa using hj)⟩ (by rw[bK hu];exact d0)
   rw[an,an,ar _ _ hlk0,an]at hS;refine⟨u,_,hrun2,gs.setIfInBounds 0 g1,w,sl,_,_,g1,by rw[hg1],hS,?_⟩
   rw[hg1];exact e4 _ x a (ag.lC _ _) (hor.mono (ag.nZ (hC.bY.sat 0) (hC.bY.sat Z.lk))) hgi
 . by_cases e:i=Z.lk
   . subst e;rw[an];rfl
   . rw[ar _ _ e]
     by_cases e0:i=0
     . subst e0;rw[an];simp only[ah.set,if_neg A.d5];exact hfb 0
     . rw[ar _ _ e0];exact hfb i
 . rw[an,<-hshe];exact(ag.lC _ _).sh _ _ hsh
 . have ha':touchAt t m=some a:=by
    rcases lE ha with⟨h1,_⟩|⟨op,hop,h1⟩
    . exact h1
    . rw[hnt op hop]at h1;cases h1
   exact hall0 m a ha' (by rw[hl];rfl) (by rw[hl];exact hE.jp ad ⟨hbk,hnn _ hf⟩)
end
def rp(n:Nat)(f1 f2:FuncId)(p1 p2:String):Trace:=#[{g:=0,fn:=f1,pos:=p1,act:=.go n},{g:=n,fn:=f2,pos:=p2,act:=.start}]
theorem fH{n:Nat}{f1 f2:FuncId}{p1 p2:String}{op:MemOp}(h:op∈rp n f1 f2 p1 p2):op.act.touch?=none/\(op.act≠.mark .disable/\op.act≠.mark .enable)/\(∀B,op.act.low B)/\∀a,op.act≠.mark (.release a):=by
 simp only[rp,List.mem_toArray,List.mem_cons,List.not_mem_nil,or_false]at h;rcases h with rfl|rfl<;>exact⟨rfl,⟨by simp,by simp⟩,λB=>trivial,by simp⟩
theorem bot_join(k:ag):ag.bot.join k=k:=rfl
section
variable{P:Program}{A:dM}{Fin:ag->ah->Goroutine->Prop}{Z:Base}{s s':MS P}{f f':Nat->Node P}{q q':Nat->Nat}{kk kk':Nat->ag}{OO OO':Nat->ah}{J J' M M':Nat->Prop}{gs gs':Array Goroutine}{w w':World}{t u:Trace}{j m:Nat}{g g' g₂ child:Goroutine}{z v:Value}
theorem vA{gs:Array Goroutine}{g' child:Goroutine}(hlt:0<gs.size):(∀i,i≠0->i≠gs.size->((gs.setIfInBounds 0 g').push child)[i]?=gs[i]?)/\((gs.setIfInBounds 0 g').push child)[0]?=some g'/\((gs.setIfInBounds 0 g').push child)[gs.size]?=some child:=by
 refine⟨λi hi hi'=>?_,?_,?_⟩
 . rw[Array.getElem?_push,if_neg (by simpa using hi'),Array.getElem?_setIfInBounds_ne (Ne.symm hi)]
 . rw[Array.getElem?_push,if_neg (by simp;omega),Array.getElem?_setIfInBounds_self_of_lt hlt]
 . rw[Array.getElem?_push,if_pos (by simp)]
theorem xx{gs:Array Goroutine}(hg:gs[0]?=some g)(hs:stepG P true g w=.spawn g' child w #[])(sl:Option (Nat × Nat)):
 runT P (crowd gs w sl) 0=(.next (crowd ((gs.setIfInBounds 0 g').push child) w sl),rp gs.size g.frame.fn child.frame.fn g.frame.place g.frame.place):=by
 have hrun:=runT_crowd_spawn (P:=P) (sl:=sl) (i:=0) hg (show stepG P (0==0) g w=_ from hs);rw[gk]at hrun;exact hrun
theorem A9(m:Nat):(xr P A Fin m).solo=false:=by cases m<;>rfl
theorem rq(e:s.ms=.add m):dg P A s 0:=.inl ⟨rfl,by rw[e];trivial⟩
theorem vB(e:s.ms=.spawn m):dg P A s 0:=.inl ⟨rfl,by rw[e];trivial⟩
theorem xy(e:s.ms=.add m):¬eV P A s 0:=by
 have:=A.hb;rintro(⟨_,h⟩|⟨l,h1,h2,h3⟩|⟨h,_⟩)
 . rw[e]at h;exact h
 . omega
 . omega
theorem Ba(e:s.ms=.add m):bu P A Fin s 0=xr P A Fin m:=by unfold bu;rw[if_pos rfl,e]
theorem E4(hZ:A.b+A.n+1<=Z.lk)(hC:br (bW P A Fin Z hZ) Z s f q kk OO J M gs w t)(hm:s.ms=.spawn m)(hg:gs[0]?=some g){N:ag->ah->Goroutine->Prop}(ht:(DM P A Fin m).dc (kk 0) (OO 0) g N)(sl:Option (Nat × Nat)):
 Goes P A Fin Z hZ s gs w t sl 0:=by
 have hE:cW P A Z s kk OO J M gs.size w t:=hC.ex;have hb:=A.hb;obtain⟨rfl,g',child,hs,hc1,hc2⟩:=ht;have hms:=hE.I.ms;rw[hm]at hms;obtain⟨hsp,hcn⟩:=hms;have hsize:gs.size=A.b+s.sp:=by have:=hE.size;rw[hcn]at this;simpa[jh.isNone]using this
 have hjn:s.sp<A.n:=by omega
 have hj:A.n-(m+1)=s.sp:=by omega
 rw[hj]at hc1;obtain⟨trc⟩:=T.tree (P:=P) (m:=kh P A s.sp) rfl hc1;obtain⟨trm⟩:=T.tree (A9 (P:=P) (A:=A) (Fin:=Fin) m) hc2;have hlt:=(Array.getElem?_eq_some_iff.1 hg).1;obtain⟨_,_,_,_,_,_,d0,_⟩:=hC.live _ (vB hm);have dn:Deaf t gs.size=0:=hC.above _ (Nat.le_refl _);have hrun:=xx (sl:=sl) hg (hs w (hC.bY.sat 0));have hu:kP (rp gs.size g.frame.fn child.frame.fn g.frame.place g.frame.place):=λop h=>(fH h).2.1
 have hkn:∀n,Knows t 0 n->Knows (t++rp gs.size g.frame.fn child.frame.fn g.frame.place g.frame.place) gs.size n:=λn hn=>te (t:=t) (c:=0) hu (m1:=0) (m2:=1) (x:={g:=0,fn:=g.frame.fn,pos:=g.frame.place,act:=.go gs.size}) (y:={g:=gs.size,fn:=child.frame.fn,pos:=g.frame.place,act:=.start}) rfl rfl rfl rfl d0 dn hn
 have hidle:s.w s.sp=.idle:=by have:=(hE.I.idle s.sp hjn).2 (Nat.le_refl _);cases e:s.w s.sp<;>rw[e]at this<;>first|rfl|cases this
 have hnb:¬bE P A s gs.size:=by
  rintro(h|⟨l,h1,h2⟩|⟨h1,h2⟩)
  . omega
  . omega
  . exact h2 hcn
 obtain⟨fk,fO⟩:=hE.AE gs.size (by omega) hnb
 obtain⟨X,hX⟩:∃X:Node P,X=⟨kh P A s.sp,kk 0,ah.bot,child,trc⟩:=⟨_,rfl⟩;obtain⟨s',hs'⟩:∃s',s'=s.jY s.sp (.run false X) (.add m) (s.sp+1):=⟨_,rfl⟩;have hsx:s'.w s.sp=.run false X:=by rw[hs',eL]
 have hsn:∀{l:Nat},l≠s.sp->s'.w l=s.w l:=λh=>by rw[hs',iZ h]
 have hsc:s'.c=s.c:=by rw[hs'];rfl
 have hsm:s'.ms=.add m:=by rw[hs'];rfl
 have hss:s'.sp=s.sp+1:=by rw[hs'];rfl
 have hI:bD A.n s':=by rw[hs'];refine hE.I.jY hjn (by rw[hidle,hm];rfl) (by rw[hidle];rfl) rfl (by rw[hidle];simp) rfl (by rw[hidle];rfl) rfl (.inr ⟨rfl,rfl⟩) (λh=>by cases h) ⟨by omega,hcn⟩
 have hJ':∀l,J l->eX P A s' l:=λl hl=>by
  rcases(hE.hJ l).1 hl with⟨a,h1,h2,h3⟩|⟨h1,h2⟩
  . refine .inl ⟨a,h1,h2,?_⟩
    by_cases e:a=s.sp
    . subst e;rw[hsx];rfl
    . rw[hsn e];exact h3
  . exact .inr ⟨h1,by rw[hsc];exact h2⟩
 have hP:=hC.bY.hand (J':=eX P A s') (M':=M) (w':=w) (src:=0) (dst:=gs.size) (by omega) (by omega) hkn (λop h=>(fH h).1) (λop h=>(fH h).2.2.1 _) rfl ⟨⟨.refl _,rfl⟩,λ_ _=>rfl⟩ (λb=>.inl rfl) (λn a ha hmm h=>h.elim (λ⟨j,h1,h2⟩=>.inr (.inl ⟨j,hJ' j h1,h2.app _⟩)) (λ⟨p,h1,h2⟩=>.inr (.inr (.inl ⟨p,h1,h2.app _⟩))))
 rw[fk,bot_join]at hP;obtain⟨pf1,pf2,pf3⟩:=vA (g':=g') (child:=child) hlt
 have hEx:cW P A Z s' (bv kk gs.size (kk 0)) OO (eX P A s') M ((gs.setIfInBounds 0 g').push child).size w (t++rp gs.size g.frame.fn child.frame.fn g.frame.place g.frame.place):=by
  refine hE.chan hI (by rw[Array.size_push,Array.size_setIfInBounds,hss,hsc,hcn];simp[jh.isNone];omega) (by rw[hsc];exact hE.v7) (λ_ _=>rfl) (by rw[hs'];rfl) (by rw[hs'];rfl) (by rw[hs'];rfl) (by rw[hs'];rfl) (λl _=>?_) (λi b n v h=>?_) (ar _ _ (by omega)) (λi=>Iff.rfl) (.inl hsc) (λop h=>⟨(fH h).1,(fH h).2.2.2⟩) (λi hi=>?_) (λi hlk hn=>?_)
  . by_cases e:l=s.sp
    . subst e;rw[hsx,hidle];rfl
    . rw[hsn e]
  . by_cases e:i=gs.size
    . subst e;rw[an]at h;exact⟨0,h⟩
    . rw[ar _ _ e]at h;exact⟨i,h⟩
  . rcases hi with h0|⟨l,h1,h2⟩|⟨h1,h2⟩
    . exact .inl (.inl h0)
    . rw[hss]at h1
      by_cases e:l=s.sp
      . subst e
        rw[h2,<-hsize];exact .inr hkn
      . exact .inl (.inr (.inl ⟨l,by omega,h2⟩))
    . exact .inl (.inr (.inr ⟨h1,by rw[<-hsc];exact h2⟩))
  . have hn':¬bE P A s i:=λh=>hn (by
     rcases h with h0|⟨l,h1,h2⟩|⟨h1,h2⟩
     . exact .inl h0
     . exact .inr (.inl ⟨l,by omega,h2⟩)
     . exact .inr (.inr ⟨h1,by rw[hsc];exact h2⟩))
    have hne:i≠gs.size:=λe=>hn (.inr (.inl ⟨s.sp,by omega,by omega⟩))
    rw[ar _ _ hne];exact hE.AE i hlk hn'
 have hL:MS.fX A.n s' s:=by rw[hs'];refine sA hjn ?_;rw[hidle,hm];have e1:(be.run (P:=P) false X).cz=20:=rfl;have e2:(nG.add m).cz=40*m+200:=rfl;have e3:(nG.spawn m).cz=40*m+225:=rfl;have e4:(be.idle (P:=P)).cz=0:=rfl;omega
 have hS:gi A s s' (λi=>i=0\/i=gs.size):=⟨λl _ hl=>hsn (λe=>hl (.inr (by omega))),λ_=>hsc,λh=>absurd (.inl rfl) h,by rw[hs'];rfl,by rw[hs'];rfl⟩
 refine⟨_,_,hrun,s',bv (bv f 0 ⟨_,_,_,_,trm⟩) gs.size X,q,bv kk gs.size (kk 0),OO,eX P A s',M,_,_,_,rfl,hL,?_⟩;refine hC.E1 hu hP hEx (by simp) (λi=>i=0\/i=gs.size) (λi hi=>pf1 i (λe=>hi (.inl e)) (λe=>hi (.inr e))) (kG hZ hS (λi hi=>by rw[ar _ _ (λe=>hi (.inr e)),ar _ _ (λe=>hi (.inl e))]) (λ_ _=>rfl) (λi hi _=>ar _ _ (λe=>hi (.inr e))) (λ_ _ _=>rfl) (λl _ _ h=>hJ' l h)) (λi hi=>?_)
 rcases hi with rfl|rfl
 . refine⟨g',pf2,λ_=>?_,λh=>absurd h (xy hsm),λh=>absurd h (lJ (by rw[hsm];simp)),λh=>absurd (rq hsm) h⟩
   have hne:(0:Nat)≠gs.size:=by omega
   rw[ar _ _ hne,an,ar _ _ hne];refine⟨by show 0<A.b+A.n+1;omega,rfl,?_,rfl,rfl,trm.running,by rw[bK hu];exact d0,.inl rfl,AZ⟩
   show xr P A Fin m=bu P A Fin s' 0;rw[Ba hsm]
 . have hlv:dg P A s' gs.size:=by rw[hsize];exact jK hjn hsx
   refine⟨child,pf3,λ_=>?_,λh=>absurd h (by rw[hsize];exact sm hjn hsx),λh=>absurd h (by rw[hsize];exact jq hjn hsx),λh=>absurd hlv h⟩
   rw[an,an,hX];refine⟨by show gs.size<A.b+A.n+1;omega,rfl,?_,rfl,fO.symm,trc.running,by rw[bK hu];exact dn,.inr (.inl ⟨s.sp,hjn,hsize,by rw[hsx];rfl⟩),λl h X' h1 h2 h3=>?_⟩
   . show kh P A s.sp=bu P A Fin s' gs.size
     rw[hsize,mF hjn hsx]
   . obtain rfl:l=s.sp:=by omega
     rw[hsx]at h3;cases h3;rw[hX];exact tj.refl _
theorem E5(hZ:A.b+A.n+1<=Z.lk)(hC:br (bW P A Fin Z hZ) Z s f q kk OO J M gs w t)(hm:s.ms=.add 0)(hg:gs[0]?=some g){N:ag->ah->Goroutine->Prop}(ht:(xr P A Fin 0).dc (kk 0) (OO 0) g N)(sl:Option (Nat × Nat)):
 Goes P A Fin Z hZ s gs w t sl 0:=by
 have hE:cW P A Z s kk OO J M gs.size w t:=hC.ex;have hb:=A.hb;obtain⟨rfl,g',child,hs,hc1,hc2⟩:=ht;have hms:=hE.I.ms;rw[hm]at hms;obtain⟨hsp,hcn⟩:=hms;have hsp:s.sp=A.n:=by omega
 have hsize:gs.size=A.b+A.n:=by have:=hE.size;rw[hcn,hsp]at this;simpa[jh.isNone]using this
 obtain⟨trc⟩:=T.tree (P:=P) (m:=vk P A) rfl hc1;obtain⟨trm⟩:=T.tree (vy (P:=P) (A:=A) (Fin:=Fin) _ _) hc2;have hlt:=(Array.getElem?_eq_some_iff.1 hg).1;obtain⟨_,_,_,_,_,_,d0,_⟩:=hC.live _ (rq hm);have dn:Deaf t gs.size=0:=hC.above _ (Nat.le_refl _);have hrun:=xx (sl:=sl) hg (hs w (hC.bY.sat 0));have hu:kP (rp gs.size g.frame.fn child.frame.fn g.frame.place g.frame.place):=λop h=>(fH h).2.1
 have hkn:∀n,Knows t 0 n->Knows (t++rp gs.size g.frame.fn child.frame.fn g.frame.place g.frame.place) gs.size n:=λn hn=>te (t:=t) (c:=0) hu (m1:=0) (m2:=1) (x:={g:=0,fn:=g.frame.fn,pos:=g.frame.place,act:=.go gs.size}) (y:={g:=gs.size,fn:=child.frame.fn,pos:=g.frame.place,act:=.start}) rfl rfl rfl rfl d0 dn hn
 have hnb:¬bE P A s gs.size:=by
  rintro(h|⟨l,h1,h2⟩|⟨h1,h2⟩)
  . omega
  . omega
  . exact h2 hcn
 obtain⟨fk,fO⟩:=hE.AE gs.size (by omega) hnb
 obtain⟨s',hs'⟩:∃s':MS P,s'={s with ms:=.recv,c:=.er}:=⟨_,rfl⟩
 have hsw:s'.w=s.w:=by rw[hs']
 have hsc:s'.c=.er:=by rw[hs']
 have hsm:s'.ms=.recv:=by rw[hs']
 have hss:s'.sp=s.sp:=by rw[hs']
 obtain⟨v0,m0,hl⟩:=hE.I.calm (by rw[hcn];rfl)
 have hI:bD A.n s':=by
  rw[hs'];refine⟨?_,hE.I.g2,λh=>(by have h:s.gv=1:=h;omega),hE.I.g3,hE.I.tE,λi hi h=>?_,⟨hE.I.g5.1,λh=>(by have h:s.gm=1:=h;omega)⟩,λh=>(by cases h),hE.I.g7,λh=>(by cases h),λk h=>(by cases h),hE.I.ok,rfl,hE.I.sp,hE.I.idle,⟨hsp,by simp⟩,λh=>(by cases h),hE.I.mu⟩
  . have:=hE.I.g1
    rw[hm]at this;exact this
  . have h:s.w i=.dn .d7:=h
    have:=hl i hi;rw[h]at this;cases this
 have hJ':∀l,J l->eX P A s' l:=λl hl=>by
  rcases(hE.hJ l).1 hl with⟨a,h1,h2,h3⟩|⟨h1,h2⟩
  . exact .inl ⟨a,h1,h2,by rw[hsw];exact h3⟩
  . rw[hcn]at h2;cases h2
 have hP:=hC.bY.hand (J':=eX P A s') (M':=M) (w':=w) (src:=0) (dst:=gs.size) (by omega) (by omega) hkn (λop h=>(fH h).1) (λop h=>(fH h).2.2.1 _) rfl ⟨⟨.refl _,rfl⟩,λ_ _=>rfl⟩ (λb=>.inl rfl) (λn a ha hmm h=>h.elim (λ⟨j,h1,h2⟩=>.inr (.inl ⟨j,hJ' j h1,h2.app _⟩)) (λ⟨p,h1,h2⟩=>.inr (.inr (.inl ⟨p,h1,h2.app _⟩))))
 rw[fk,bot_join]at hP;obtain⟨pf1,pf2,pf3⟩:=vA (g':=g') (child:=child) hlt;have hch:=hE.v7;rw[hcn]at hch
 have hEx:cW P A Z s' (bv kk gs.size (kk 0)) OO (eX P A s') M ((gs.setIfInBounds 0 g').push child).size w (t++rp gs.size g.frame.fn child.frame.fn g.frame.place g.frame.place):=by
  refine hE.chan hI (by rw[Array.size_push,Array.size_setIfInBounds,hss,hsc,hsize,hsp];rfl) (by rw[hsc];exact hch) (λ_ _=>rfl) (by rw[hs']) (by rw[hs']) (by rw[hs']) (by rw[hs']) (λl _=>by rw[hsw]) (λi b n v h=>?_) (ar _ _ (by omega)) (λi=>Iff.rfl) (.inr ⟨hcn,hsc,λm hm=>by rw[<-hsize];exact hkn m hm⟩) (λop h=>⟨(fH h).1,(fH h).2.2.2⟩) (λi hi=>?_) (λi hlk hn=>?_)
  . by_cases e:i=gs.size
    . subst e;rw[an]at h;exact⟨0,h⟩
    . rw[ar _ _ e]at h;exact⟨i,h⟩
  . rcases hi with h0|⟨l,h1,h2⟩|⟨h1,h2⟩
    . exact .inl (.inl h0)
    . exact .inl (.inr (.inl ⟨l,by rw[<-hss];exact h1,h2⟩))
    . rw[h1,<-hsize];exact .inr hkn
  . have hn':¬bE P A s i:=λh=>hn (by
     rcases h with h0|⟨l,h1,h2⟩|⟨h1,h2⟩
     . exact .inl h0
     . exact .inr (.inl ⟨l,by rw[hss];exact h1,h2⟩)
     . exact .inr (.inr ⟨h1,by rw[hsc];simp⟩))
    have hne:i≠gs.size:=λe=>hn (.inr (.inr ⟨by omega,by rw[hsc];simp⟩))
    rw[ar _ _ hne];exact hE.AE i hlk hn'
 have hL:MS.fX A.n s' s:=by
  refine .inl ?_;rw[hs'];show nG.recv.cz+sumTo A.n (λi=>(s.w i).cz)+jh.er.cz s.gc<s.ms.cz+sumTo A.n (λi=>(s.w i).cz)+s.c.cz s.gc
  rw[hcn,hm];have e2:nG.recv.cz=100:=rfl;have e3:jh.er.cz s.gc=14:=rfl;have e4:jh.none.cz s.gc=0:=rfl;have e5:(nG.add 0).cz=200:=rfl;omega
 have hrem:MS.rem P A.n s'=List.range A.n:=by unfold MS.rem;rw[hsw];exact List.filter_eq_self.2 λl hl=>by rw[hE.I.early hcn l (List.mem_range.1 hl)];rfl
 have hS:gi A s s' (λi=>i=0\/i=gs.size):=⟨λl _ hl=>by rw[hsw],λh=>absurd (.inr (by omega)) h,λh=>absurd (.inl rfl) h,by rw[hs'],by rw[hs']⟩
 refine⟨_,_,hrun,s',bv (bv f 0 ⟨_,_,_,_,trm⟩) gs.size ⟨_,_,_,_,trc⟩,q,bv kk gs.size (kk 0),OO,eX P A s',M,_,_,_,rfl,hL,?_⟩;refine hC.E1 hu hP hEx (by simp) (λi=>i=0\/i=gs.size) (λi hi=>pf1 i (λe=>hi (.inl e)) (λe=>hi (.inr e))) (kG hZ hS (λi hi=>by rw[ar _ _ (λe=>hi (.inr e)),ar _ _ (λe=>hi (.inl e))]) (λ_ _=>rfl) (λi hi _=>ar _ _ (λe=>hi (.inr e))) (λ_ _ _=>rfl) (λl _ _ h=>hJ' l h)) (λi hi=>?_)
 rcases hi with rfl|rfl
 . refine⟨g',pf2,λ_=>?_,λh=>absurd h (rk (.inl hsm)),λh=>absurd h (lJ (by rw[hsm];simp)),λh=>absurd (iB hsm) h⟩
   have hne:(0:Nat)≠gs.size:=by omega
   rw[ar _ _ hne,an,ar _ _ hne];refine⟨by show 0<A.b+A.n+1;omega,rfl,?_,rfl,rfl,trm.running,by rw[bK hu];exact d0,.inl rfl,AZ⟩
   show pC P A Fin _ _=bu P A Fin s' 0;rw[mH hsm,hrem,List.length_range]
 . have hlv:dg P A s' gs.size:=by rw[hsize];exact su (.inr hsc)
   refine⟨child,pf3,λ_=>?_,λh=>absurd h (by rw[hsize];exact DT (.inr hsc)),λh=>absurd h (by rw[hsize];exact rg),λh=>absurd hlv h⟩
   rw[an,an];refine⟨by show gs.size<A.b+A.n+1;omega,rfl,?_,rfl,fO.symm,trc.running,by rw[bK hu];exact dn,.inr (.inr ⟨hsize,by rw[hsc];rfl⟩),by rw[hsize];exact Lr⟩
   show vk P A=bu P A Fin s' gs.size;rw[hsize,DV hsc]
end
section
variable{P:Program}{A:dM}{Fin:ag->ah->Goroutine->Prop}{Z:Base}{s s':MS P}{f f':Nat->Node P}{q q':Nat->Nat}{kk kk':Nat->ag}{OO OO':Nat->ah}{J J' M M':Nat->Prop}{gs gs':Array Goroutine}{w w':World}{t u:Trace}{j m:Nat}{g g' g₂ child:Goroutine}{z v:Value}
theorem yY(hZ:A.b+A.n+1<=Z.lk)(hC:br (bW P A Fin Z hZ) Z s f q kk OO J M gs w t):∃(i:Nat) (g:Goroutine),gs[i]?=some g/\g.status=.running:=by
 have hE:cW P A Z s kk OO J M gs.size w t:=hC.ex;have B:=ba (P:=P) (A:=A) (Fin:=Fin) (Z:=Z) hZ;refine Classical.byContradiction λhno=>?_
 have nlive:∀i,¬dg P A s i:=λi hl=>by obtain⟨_,p1,_,_,_,p2,_⟩:=hC.live i hl;exact hno ⟨i,_,p1,p2⟩
 have xk:∀i,eV P A s i->L4 P A s i:=λi hw=>by
  obtain⟨_,_,_,x,x',p1,p2,p3⟩:=hC.walk i hw
  rcases p3 with⟨h,_⟩|h
  . exact h
  . exact absurd ⟨i,x,p1,h.first (B.kU p2).1⟩ hno
 have hb:=A.hb
 have hm:s.ms=.parked:=by
  cases e:s.ms with
  |parked=>rfl
  |add l=>exact absurd (rq e) (nlive 0)
  |spawn l=>exact absurd (vB e) (nlive 0)
  |recv=>exact absurd (iB e) (nlive 0)
  |bj l p=>rcases xk 0 (CF e)with⟨l,_,_,h1,h2,_⟩|⟨h,_⟩<;>omega
 have hms:=hE.I.ms;rw[hm]at hms;obtain⟨hsp,hcn,hcg,hnw⟩:=hms
 have hc:s.c=.wt .w4/\s.gm=0:=by
  cases e:s.c with
  |none=>exact absurd e hcn
  |gone=>exact absurd e hcg
  |er=>exact absurd (su (.inr e)) (nlive _)
  |jI=>exact absurd (su (.inl e)) (nlive _)
  | wt p=>
    rcases xk _ (yV e)with⟨l,_,_,h1,h2,_⟩|⟨_,h,h'⟩
    . omega
    . rw[e]at h;exact⟨h,h'⟩
 have hdryW:∀l,l<A.n->eV P A s (A.b+l)->∃sv Y,s.w l=.lk (.fN sv) Y/\s.sh.ms=0:=λl hl h=>by
  rcases xk _ h with⟨l',sv,Y,h1,h2,h3,h4⟩|⟨h1,_⟩
  . obtain rfl:l'=l:=by omega
    exact⟨sv,Y,h3,h4⟩
  . omega
 have hws:∀l,l<A.n->s.w l=.gone\/∃sv Y,s.w l=.lk (.fN sv) Y/\s.sh.ms=0:=λl hl=>by
  have hid:=hE.I.idle l hl;cases e:s.w l with
  |idle=>rw[e]at hid;have:=hid.1 rfl;omega
  |run h X=>exact absurd (jK hl e) (nlive _)
  |lk p Y=>have:=hdryW l hl (.inr (.inl ⟨l,hl,rfl,by rw[e];trivial⟩));rw[e]at this;exact .inr this
  |un p Y=>have:=hdryW l hl (.inr (.inl ⟨l,hl,rfl,by rw[e];trivial⟩));rw[e]at this;obtain⟨_,_,h,_⟩:=this;cases h
  |wait=>exact absurd e (hnw l hl)
  |xu=>exact absurd (vv hl e) (nlive _)
  |dn p=>have:=hdryW l hl (lH hl e);rw[e]at this;obtain⟨_,_,h,_⟩:=this;cases h
  |gone=>exact .inl rfl
 have hall:∀l,l<A.n->s.w l=.gone:=λl hl=>by
  rcases hws l hl with h|⟨sv,Y,h,h0⟩
  . exact h
  . have h1:=hE.I.mu.alive (λi hi=>by
     rcases hws i hi with h|⟨sv,Y,h,_⟩
     . exact .inl (by rw[h];rfl)
     . exact .inr ⟨sv,by rw[h];rfl⟩) h0 l hl
    rw[h]at h1;cases h1
 have hgc:s.gc=0:=by
  have h1:=hE.I.g1;rw[hm]at h1
  have h2:sumTo A.n (λj=>(s.w j).cnt)=0:=by
   have:∀n,n<=A.n->sumTo n (λj=>(s.w j).cnt)=0:=λn=>by
    induction n with
    |zero=>intro _;rfl
    | succ n ih=>
      intro hn;have e1:=ih (by omega)
      simp only[sumTo,e1,hall n (by omega)]
      rfl
   exact this A.n (Nat.le_refl _)
  have e:nG.parked.pend=0:=rfl;omega
 have hwt:s.c.waits=true:=by rw[hc.1];rfl
 by_cases hv:s.gv=1
 . obtain⟨i,hi,h⟩:=hE.I.g7 hv hgc
   rw[hall i hi]at h
   rcases h with h|h<;>cases h
 . have:=hE.I.g2
   obtain⟨i,hi,h⟩:=hE.I.g6 hwt (by omega) hc.2
   rw[hall i hi]at h;cases h
variable(C:jg P A.ng)(X:j9 P A.ng)(CM:iy P A.nm)(XM:iz P A.nm)(F:qg P A.nm)
include C X CM XM F in
theorem E6(hZ:A.b+A.n+1<=Z.lk)(sl:Option (Nat × Nat))(i:Nat){k:ag}{O:ah}{g:Goroutine}{N:ag->ah->Goroutine->Prop}(h0:g.status=.running)(h:(bu P A Fin s i).dc k O g N)(c:∀k' O' g',N k' O' g'->TT P (bu P A Fin s i) k' O' g')
 (hC:br (bW P A Fin Z hZ) Z s f q kk OO J M gs w t) (hl:dg P A s i) (hf:f i=⟨bu P A Fin s i,k,O,g,.dc N h0 h c⟩):
 ∃ ops m',runT P (crowd gs w sl) i=(.next m',ops)/\
  ((∃s' f' q' kk' OO' J' M' gs' w' sl',m'=crowd gs' w' sl'/\MS.fX A.n s' s/\br (bW P A Fin Z hZ) Z s' f' q' kk' OO' J' M' gs' w' (t++ops))\/
   (∃gs' w' sl' k' O' g',m'=crowd gs' w' sl'/\ed P Z.W0 k' O' g' gs' w' (t++ops)/\Fin k' O' g')):=by
 have hE:cW P A Z s kk OO J M gs.size w t:=hC.ex
 have goes:Goes P A Fin Z hZ s gs w t sl i->∃ops m',runT P (crowd gs w sl) i=(.next m',ops)/\
  ((∃s' f' q' kk' OO' J' M' gs' w' sl',m'=crowd gs' w' sl'/\MS.fX A.n s' s/\br (bW P A Fin Z hZ) Z s' f' q' kk' OO' J' M' gs' w' (t++ops))\/
   (∃gs' w' sl' k' O' g',m'=crowd gs' w' sl'/\ed P Z.W0 k' O' g' gs' w' (t++ops)/\Fin k' O' g')):=λ⟨ops,m',e1,e2⟩=>⟨ops,m',e1,.inl e2⟩
 obtain⟨_,hgi,_,hfk,hfO,_,_,_,_⟩:=hC.live i hl;rw[hf]at hgi hfk hfO;have hgi:gs[i]?=some g:=hgi;have hfk:k=kk i:=hfk;have hfO:O=OO i:=hfO;subst hfk hfO
 rcases hl with⟨rfl,hm⟩|⟨j,hj,rfl,hw⟩|⟨rfl,hc⟩
 . cases e:s.ms with
   | add l=>
     rw[Ba e]at h;cases l with
     |zero=>exact goes (E5 hZ hC e hgi h sl)
     |succ l=>exact goes (HG C X hZ hC e rfl rfl hgi h sl)
   |bj l p=>rw[e]at hm;exact hm.elim
   | spawn l=>
     have hmode:bu P A Fin s 0=DM P A Fin l:=by unfold bu;rw[if_pos rfl,e]
     rw[hmode]at h;exact goes (E4 hZ hC e hgi h sl)
   |parked=>rw[e]at hm;exact hm.elim
   | recv=>
     rw[mH e]at h;obtain⟨g₂,z,r1,r2,r3,r4⟩:=HH h
     by_cases hwt:∃j,j<A.n/\s.w j=.wait
     . obtain⟨j,hj,hw⟩:=hwt
       exact goes (HJ hZ hC e hj hw hgi r1 h sl)
     . by_cases hc:s.c=.gone
       . obtain⟨ops,m',e1,gs',w',sl',k',O',g',e2,e3⟩:=Me hZ hC e hc hgi h sl
         exact⟨ops,m',e1,.inr ⟨gs',w',sl',k',O',g',e2,e3⟩⟩
       . exact goes (HK hZ hC e (λj hj hw=>hwt ⟨j,hj,hw⟩) hc hgi r1 r2 r3 r4 sl)
 . cases e:s.w j with
   | run b X0=>
     have hmode:=mF (Fin:=Fin) hj e;have h':=h;rw[hmode]at h'
     rcases h' with h'|h'|⟨rfl,hO,g₂,z,v,hs,hv,ht⟩
     . exact goes (EU CM XM F hZ hC hj e (Y:=⟨bu P A Fin s (A.b+j),_,_,g,N,h0,h,c⟩) hf h' sl)
     . exact goes (AP CM XM F hZ hC hj e (Y:=⟨bu P A Fin s (A.b+j),_,_,g,N,h0,h,c⟩) hf h' sl)
     . have hb:b=false:=by
        cases b with
        |false=>rfl
        |true=>exact absurd hO (hE.vm j hj (by rw[e];rfl))
       subst hb
       by_cases hm:s.ms=.parked
       . exact goes (HI hZ hC hj e hm hgi hs hv ht sl)
       . exact goes (Kx hZ hC hj e hm hgi hs hO hv ht sl)
   |xu=>have hmode:=AX (Fin:=Fin) hj e;rw[hmode]at h;exact goes (E0 C X hZ hC hj e hgi h sl)
   |_=>rw[e]at hw;exact hw.elim
 . cases e:s.c with
   |er=>rw[DV e]at h;exact goes (EZ C X hZ hC e rfl rfl hgi h sl)
   | jI=>
     rw[DU (by rw[e];simp)]at h
     exact goes (HL hZ hC e hgi h sl)
   |_=>rw[e]at hc;exact hc.elim
include C X CM XM F in
theorem E7(hZ:A.b+A.n+1<=Z.lk)(sl:Option (Nat × Nat))(i:Nat){g:Goroutine}(hC:br (bW P A Fin Z hZ) Z s f q kk OO J M gs w t)(hw:eV P A s i)(hg:gs[i]?=some g)(hat:Od P A Fin s i (kk i) (OO i) g):
 Goes P A Fin Z hZ s gs w t sl i\/CB P A s gs w sl i g:=by
 have hb:=A.hb;rcases hw with⟨rfl,hm⟩|⟨j,hj,rfl,hw⟩|⟨rfl,hc⟩
 . rcases hat with⟨_,h⟩|⟨l,h1,h2,_⟩|⟨h1,_⟩
   . cases e:s.ms with
     |bj l p=>rw[e]at h;exact .inl (AU C X hZ hC e hg h sl)
     |_=>rw[e]at hm;exact hm.elim
   . omega
   . omega
 . rcases hat with⟨h1,_⟩|⟨l,h1,h2,h⟩|⟨h1,_⟩
   . omega
   . obtain rfl:l=j:=by omega
     cases e:s.w l with
     | lk p Y=>
       rw[e]at h;by_cases hla:p=.la
       . subst hla;exact .inl (Kj CM XM F hZ hC hj e hg h sl)
       . exact Kg CM XM hZ hC hj e hg h hla sl
     | un p Y=>
       rw[e]at h;by_cases hur:p=.ur
       . subst hur;exact .inl (Kk CM XM hZ hC hj e hg h sl)
       . by_cases hue:p=.ue
         . subst hue;exact .inl (Ki CM XM F hZ hC hj e hg h sl)
         . exact .inl (Kh CM XM hZ hC hj e hg h hur hue sl)
     |dn p=>rw[e]at h;exact .inl (Kr C X hZ hC hj e hg h sl)
     |_=>rw[e]at hw;exact hw.elim
   . omega
 . rcases hat with⟨h1,_⟩|⟨l,h1,h2,h⟩|⟨_,h⟩
   . omega
   . omega
   . cases e:s.c with
     | wt p=>
       rw[e]at h;by_cases hwa:p=.wa
       . subst hwa;exact .inl (Ku C X hZ hC e hg h sl)
       . exact Kt C X hZ hC e hwa hg h sl
     |_=>rw[e]at hc;exact hc.elim
include C X CM XM F in
theorem HM(hZ:A.b+A.n+1<=Z.lk)(hC:br (bW P A Fin Z hZ) Z s f q kk OO J M gs w t)(sl:Option (Nat × Nat)):
 ∃N gs' w' sl' t' k' O' g',runNT P N (crowd gs w sl) t=(.next (crowd gs' w' sl'),t')/\ed P Z.W0 k' O' g' gs' w' t'/\Fin k' O' g':=
 GZ (ba (P:=P) (A:=A) (Fin:=Fin) (Z:=Z) hZ) Fin (λhC=>yY hZ hC) (by intro s f q kk OO J M gs w t sl i k O g N h0 h c hC hl hf;exact E6 C X CM XM F hZ sl i h0 h c hC hl hf)
  (by
    intro s f q kk OO J M gs w t sl i g hC hw hg hat _;rcases E7 C X CM XM F hZ sl i hC hw hg hat with⟨ops,m',e1,e2⟩|⟨hd,e⟩
    . exact⟨ops,m',e1,.inl e2⟩
    . exact⟨_,_,e,.inr (.inr ⟨hd,rfl,rfl⟩)⟩) s _ f _ q kk OO J M gs w sl t rfl rfl hC
end
end Go.aN
