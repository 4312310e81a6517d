/- Part 24 of the proof. -/
import Derived.Test.YtigilmjkokbblaaGreatDoorC23
set_option linter.all false
namespace Go.bd
open Go.Conc
open Go.ConcN (sumTo upd sumTo_upd upd_ne upd_same)
def iF(c:Nat):Array Event:=#[⟨.obj c,false,true⟩,⟨.obj c,true,true⟩]
theorem mX(i:Nat)(fn:FuncId)(pos:String)(c:Nat):MemOp.ofEvents i fn pos (iF c)=#[{g:=i,fn:=fn,pos:=pos,act:=.access ⟨.obj c,false,true⟩},{g:=i,fn:=fn,pos:=pos,act:=.close c}]:=by rw[ofEvents_eq];simp[iF,MemAct.ofEvent]
theorem fG{i:Nat}{fn:FuncId}{pos:String}{c:Nat}{op:MemOp}(h:op∈MemOp.ofEvents i fn pos (iF c)):op.g=i/\(op.act≠.mark .disable/\op.act≠.mark .enable)/\(∀a,op.act.touch?=some a->a.loc=.obj c/\a.kind=.atomic)/\(∀B,c<B->op.act.low B)/\∀a,op.act≠.mark (.release a):=by
 rw[mX]at h;simp only[List.mem_toArray,List.mem_cons,List.not_mem_nil,or_false]at h;rcases h with rfl|rfl
 . exact⟨rfl,⟨by simp,by simp⟩,λa b=>by simp only[MemAct.touch?,Option.some.injEq]at b;subst b;exact⟨rfl,rfl⟩,λB d=>d,by simp⟩
 . exact⟨rfl,⟨by simp,by simp⟩,λa b=>(by cases b),λB d=>d,by simp⟩
section
variable{P:Program}{A:eu}{Fin:ah->ai->Goroutine->Prop}{Z:Base}{s s':MS P}{f f':Nat->Node P}{q q':Nat->Nat}{kk kk':Nat->ah}{OO OO':Nat->ai}{J J' M M':Nat->Prop}{gs gs':Array Goroutine}{w w':World}{t u:Trace}{j:Nat}{g g₂:Goroutine}{z v:Value}
theorem dP.again{k:ah}{O:ai}{g g₂:Goroutine}{z b:Value}(h:dP P A k O g g₂ z)(a:g.status=.running)(sh:CommShape):dP P A k O {parked g #[rcase A.cF b] sh with status:=.running} g₂ z:=λw c=>by
 rw[stepG_tries];have:({g with status:=.running}:Goroutine)=g:=by cases g;simp only at a;subst a;rfl
 rw[this];exact h w c
theorem Iu{m:Nat}{R:List Nat}{k:ah}{O:ai}{g:Goroutine}{z:Value}{sh:CommShape}{N:ah->ai->Goroutine->Prop}(h:(qV P A Fin m R).dC k O g N)(e:g.status=.running):
 T P (qV P A Fin m R) ja k O {parked g #[rcase A.cF z] sh with status:=.running}:=by
 refine .dC ja rfl ?_ (λ_ _ _ h=>h.elim);cases m with
 |zero=>obtain⟨_,g₂,y,a,b,c,d⟩:=h;exact⟨rfl,g₂,y,a.again e sh,b,c,d⟩
 |succ m=>obtain⟨_,g₂,y,a,b,c,d⟩:=h;exact⟨rfl,g₂,y,a.again e sh,b,c,d⟩
theorem cA.shut(h:cA Z kk OO J M w t){i c:Nat}{x:Nat}{tm:Bool}(L:∀l,J l->l=i)(A:∀p,¬M p)(z:w.heap[c]?=some (.chan 0 #[] false x x tm))(G:∀l,OO l c=none)(B:∀n b,touchAt t n=some b->b.loc=.obj c->b.kind=.plain->Knows t i n)(H:Z.W0.heap.size<=c)(fn:FuncId)(pos:String):
 cA Z kk OO (λ_=>False) (λp=>p=t.size+1) {w with heap:=w.heap.setIfInBounds c (.chan 0 #[] true x x tm)} (t++MemOp.ofEvents i fn pos (iF c)):=by
 have r:c<w.heap.size:=(Array.getElem?_eq_some_iff.1 z).1;have q:(MemOp.ofEvents i fn pos (iF c))[1]?=some {g:=i,fn:=fn,pos:=pos,act:=.close c}:=by rw[mX];rfl
 have f:∀b,(w.heap.setIfInBounds c (.chan 0 #[] true x x tm))[b]?=if b=c then some (.chan 0 #[] true x x tm)else w.heap[b]?:=λb=>by
  by_cases k:b=c
  . subst k;rw[if_pos rfl];exact Array.getElem?_setIfInBounds_self_of_lt r
  . rw[if_neg k];exact Array.getElem?_setIfInBounds_ne (Ne.symm k)
 refine h.tY (λa b=>a=b) (by simp) ⟨⟨.refl _,rfl⟩,λb hb=>by show(w.heap.setIfInBounds c (.chan 0 #[] true x x tm))[b]?=_;rw[f,if_neg (by omega)]⟩ (λb=>?_) (λop d=>(fG d).2.2.2.1 _ r) (λa b e n y _ _ _ N=>by subst e;exact N.app _) (λj b n v h=>⟨j,rfl,h⟩) (λj b s h=>⟨j,rfl,h⟩) (λj b x h=>⟨j,rfl,h,λ_ h=>h⟩) h.ju
  (λsaid=>noRace_append (h.clean said) (λop d=>(fG d).1) λn a u op d b hb z=>?_) (λop d a u I=>?_) (λm op a d u I=>?_) (λn a u I O=>?_)
 . show Kept kk OO w _ b
   unfold Kept;rw[f];by_cases k:b=c
   . subst k
     exact .inr (.inl ⟨⟨_,_,_,_,_,_,z⟩,⟨_,_,_,_,_,_,by rw[f,if_pos rfl]⟩,G⟩)
   . rw[if_neg k];exact .inl rfl
 . obtain⟨C,D⟩:=(fG d).2.2.1 b hb
   obtain⟨P,_,_,c4⟩:=z;rcases c4 with c4|c4|⟨_,_,c4⟩
   . exact B n a u (P.trans C) c4
   . rw[D]at c4;cases c4
   . rw[D]at c4;cases c4
 . obtain⟨C,D⟩:=(fG d).2.2.1 a u
   rw[C];exact⟨r,λl o K=>by rw[G l]at K;cases K⟩
 . refine .inr (.inr (.inl ⟨t.size+1,rfl,?_⟩))
   have E:m=0:=by
    rw[mX]at d
    match m,d with
    |0,_=>rfl
    |1,d=>simp at d;subst d;simp[MemAct.touch?]at u
    |m+2,d=>simp at d
   subst E;exact .inr (hb_po (by omega) (dw (m:=0) d) (dw (m:=1) q) (fG (Array.mem_of_getElem? d)).1)
 . rcases O with⟨l,F,Q⟩|⟨p,F,_⟩
   . obtain rfl:=L l F
     exact .inr (.inr (.inl ⟨t.size+1,rfl,l8 (m:=1) Q q rfl⟩))
   . exact absurd F (A p)
theorem LA(hZ:A.b+A.n+1<=Z.lk)(Y:bJ (cB P A Fin Z hZ) Z s f q kk OO J M gs w t)(K:s.c=.kF)(hg:gs[A.b+A.n]?=some g){N:ah->ai->Goroutine->Prop}(ht:(rL P A).dC (kk (A.b+A.n)) (OO (A.b+A.n)) g N)(sl:Option (Nat × Nat)):
 Goes P A Fin Z hZ s gs w t sl (A.b+A.n):=by
 have d:dt P A Z s kk OO J M gs.size w t:=Y.ex;have hb:=A.hb;obtain⟨rfl,g',nq,b2,hs,hq⟩:=ht;obtain⟨x,tm,hF⟩:=d.yE;have b3:s.c.eD=false:=by rw[K];rfl
 rw[b3]at hF;obtain⟨c0,v0,m0,B⟩:=d.I.g8 (by rw[K];rfl)
 have U:s.sp=A.n/\(s.ms=.recv\/s.ms=.parked):=by
  have:=d.I.ms;cases e:s.ms with
  |recv=>rw[e]at this;exact⟨this.1,.inl rfl⟩
  |parked=>rw[e]at this;exact⟨this.1,.inr rfl⟩
  |add l=>rw[e]at this;rw[K]at this;cases this.2
  |bD l p=>rw[e]at this;rw[K]at this;cases this.2.1
  |spawn l=>rw[e]at this;rw[K]at this;cases this.2
 have b4:=(Array.getElem?_eq_some_iff.1 hg).1;obtain⟨_,_,_,_,_,_,hd,_⟩:=Y.live _ (uw (.inl K));have b5:(A.b+A.n==0)=false:=by simp;omega
 have b6:A.cF<w.heap.size:=(Array.getElem?_eq_some_iff.1 hF).1;have L:=runT_crowd_go (P:=P) (sl:=sl) (i:=A.b+A.n) hg (by rw[b5];exact hs w x x tm (Y.cE.sat _) hF)
 obtain⟨w',al⟩:∃w',w'={w with heap:=w.heap.setIfInBounds A.cF (.chan 0 #[] true x x tm)}:=⟨_,rfl⟩
 have hP:=Y.cE.shut (i:=A.b+A.n) (c:=A.cF) (x:=x) (tm:=tm) (λl R=>by
  rcases(d.hJ l).1 R with⟨j,C,E,r⟩|⟨C,_⟩
  . rw[B j C]at r;cases r
  . exact C) (λp hp=>by
  obtain⟨_,_,r⟩:=d.hM p hp
  rcases r with⟨_,r⟩|⟨r,_⟩
  . rw[K]at r;rcases r with r|r|⟨_,r⟩<;>cases r
  . rw[K]at r;cases r) hF (λl=>(d.fV l).1) (λn b hb R O=>d.quiet n b hb (by rw[R];rfl) O _ (Ha (by rw[K];simp))) d.eN.1 g.frame.fn g.frame.place
 rw[<-al]at L hP
 change runT P (crowd gs w sl) (A.b+A.n)=(_,MemOp.ofEvents (A.b+A.n) g.frame.fn g.frame.place (iF A.cF))at L
 have hu:lZ (MemOp.ofEvents (A.b+A.n) g.frame.fn g.frame.place (iF A.cF)):=λop h=>(fG h).2.1
 have v:∀b,w'.heap[b]?=if b=A.cF then some (.chan 0 #[] true x x tm)else w.heap[b]?:=λb=>by
  rw[al]
  by_cases a8:b=A.cF
  . subst a8;rw[if_pos rfl];exact Array.getElem?_setIfInBounds_self_of_lt b6
  . rw[if_neg a8];exact Array.getElem?_setIfInBounds_ne (Ne.symm a8)
 have av:g'.status≠.blocked/\g'.status≠.waiting:=by rcases hq.status with h|h<;>rw[h]<;>simp
 have b7:∀o,woken P g g' w' o=o.again w':=λo=>by unfold Go.Conc.woken;rw[if_pos];simp[b2,av.1,av.2]
 have V:∀i o,gs[i]?=some o->i≠0->i≠A.b+A.n->woken P g g' w' o=o:=λi o ho S hn=>by
  have nl:¬dH P A s i:=by
   rintro(⟨e,_⟩|⟨l,C,E,r⟩|⟨e,_⟩)
   . exact S e
   . rw[B l C]at r;exact r
   . exact hn e
  have nw:¬fE P A s i:=by
   rintro(⟨e,_⟩|⟨l,C,E,r⟩|⟨e,_⟩)
   . exact S e
   . rw[B l C]at r;exact r
   . exact hn e
  have nh:¬eM P A s i:=by
   rintro(⟨e,_⟩|⟨l,C,E,r⟩)
   . exact S e
   . rw[B l C]at r;cases r
  exact woken_quitsD (Y.rest i o ho nl nw nh).2
 have b8:∀i,¬(i=0\/i=A.b+A.n)->((gs.map (woken P g g' w')).setIfInBounds (A.b+A.n) g')[i]?=gs[i]?:=λi D=>by
  rw[Array.getElem?_setIfInBounds_ne (λe=>D (.inr e.symm)),Array.getElem?_map]
  cases hg:gs[i]? with
  |none=>rfl
  |some o=>simp only[Option.map_some,V i o hg (λe=>D (.inl e)) (λe=>D (.inr e))]
 have a9:((gs.map (woken P g g' w')).setIfInBounds (A.b+A.n) g')[A.b+A.n]?=some g':=Array.getElem?_setIfInBounds_self_of_lt (by simpa using b4)
 obtain⟨s',u⟩:∃s':MS P,s'={s with c:=.gone,ms:=.recv}:=⟨_,rfl⟩
 have W:s'.ms=.recv:=by rw[u]
 have G:s'.w=s.w:=by rw[u]
 have F:s'.c=.gone:=by rw[u]
 have ax:MS.rem P A.n s'=MS.rem P A.n s:=FF λl _=>by rw[G]
 obtain⟨d0,g0,b9,tr,_⟩:Deaf t 0=0/\∃g0,((gs.map (woken P g g' w')).setIfInBounds (A.b+A.n) g')[0]?=some g0/\∃tr:TT P (qV P A Fin (MS.rem P A.n s).length (MS.rem P A.n s)) (kk 0) (OO 0) g0,True:=by
  rw[Array.getElem?_setIfInBounds_ne (by omega),Array.getElem?_map]
  rcases U.2 with hm|hm
  . obtain⟨_,p1,pm,pk,pO,p2,p3,_⟩:=Y.live 0 (iX hm)
    have pm:(f 0).m=bP P A Fin s 0:=pm;rw[nW hm]at pm;refine⟨p3,(f 0).g,by rw[p1,Option.map_some,woken_run p2],?_⟩
    rw[<-pm,<-pk,<-pO];exact⟨(f 0).t,trivial⟩
  . obtain⟨_,_,_,p3,gp,p4,_,p5⟩:=Y.held 0 (.inl ⟨rfl,hm⟩)
    rcases p5 with⟨_,gm,zm,rfl,p6,p7,p8⟩|⟨l,C,E,_⟩
    . rw[p4]
      refine⟨p3,_,rfl,?_⟩;rw[b7,again_recv_closed (by rw[v,if_pos rfl])]
      obtain⟨tr⟩:=T.tree (xU (P:=P) (A:=A) (Fin:=Fin) _ _) (Iu (z:=zm) (sh:=.recv true) p8 p7);exact⟨tr,trivial⟩
    . omega
 have hI:bT A.n s':=by
  rw[u];refine⟨?_,d.I.g2,λh=>(by have h:s.gv=1:=h;omega),d.I.g3,d.I.zw,λi D h=>(by have h:s.w i=.dn .d7:=h;rw[B i D]at h;cases h),⟨d.I.g5.1,λh=>(by have h:s.gm=1:=h;omega)⟩,λh=>(by cases h),d.I.g7,λ_=>⟨c0,v0,m0,B⟩,λk h=>(by cases h),d.I.ok,rfl,d.I.sp,d.I.idle,⟨U.1,by simp⟩,λh=>(by cases h),d.I.mu⟩
  have:=d.I.g1;show s.gc=sumTo A.n (λj=>(s.w j).cnt)+pq.recv.pend
  rcases U.2 with e|e<;>rw[e]at this<;>exact this
 have a7:(MemOp.ofEvents (A.b+A.n) g.frame.fn g.frame.place (iF A.cF))[1]?=some {g:=A.b+A.n,fn:=g.frame.fn,pos:=g.frame.place,act:=.close A.cF}:=by rw[mX];rfl
 have Q:(t++MemOp.ofEvents (A.b+A.n) g.frame.fn g.frame.place (iF A.cF)).act? (t.size+1)=some (.close A.cF)/\(t++MemOp.ofEvents (A.b+A.n) g.frame.fn g.frame.place (iF A.cF)).heard (t.size+1):=⟨act?_of (dw (m:=1) a7),heard_new (m:=1) hu a7 hd⟩
 have ay:∀i,bU P A s' i->bU P A s i:=λi D=>by
  rcases D with S|⟨j,C,E⟩|⟨C,E⟩
  . exact .inl S
  . exact .inr (.inl ⟨j,by rw[u]at C;exact C,E⟩)
  . exact .inr (.inr ⟨C,by rw[K];simp⟩)
 have b0:∀i,bU P A s i->bU P A s' i:=λi D=>by
  rcases D with S|⟨j,C,E⟩|⟨C,E⟩
  . exact .inl S
  . exact .inr (.inl ⟨j,by rw[u];exact C,E⟩)
  . exact .inr (.inr ⟨C,by rw[F];simp⟩)
 have b1:∀op∈MemOp.ofEvents (A.b+A.n) g.frame.fn g.frame.place (iF A.cF),∀a,op.act.touch?=some a->a.kind=.atomic:=λop H a X=>((fG H).2.2.1 a X).2
 have bq:dt P A Z s' kk OO (λ_=>False) (λp=>p=t.size+1) ((gs.map (woken P g g' w')).setIfInBounds (A.b+A.n) g').size w' (t++MemOp.ofEvents (A.b+A.n) g.frame.fn g.frame.place (iF A.cF)):=by
  refine⟨hI,?_,⟨x,tm,by rw[v,if_pos rfl,F];rfl⟩,?_,?_,?_,?_,d.fV,d.dZ,λi y hy=>?_,λl R ad=>d.xJ l R (by rw[<-G];exact ad),λad=>d.Lf λl R=>by rw[<-G];exact ad l R,λc hc=>?_,λi=>?_,λp hp=>?_,λ_=>⟨t.size+1,rfl,Q⟩,λm a X hs O i D=>d.jw _ (λop H a X _ O=>by rw[b1 op H a X]at O;cases O) m a X hs O i (ay i D),λm a X hs O=>?_,λi D=>d.oJ _ i (ay i D),d.iy _ (λop H=>(fG H).2.2.2.2),λi bz hn=>d.Dl i bz λh=>hn (b0 i h),d.rE,d.jV,d.eN,d.la,by simp;exact Nat.le_trans d.n0 (Nat.le_add_right _ _)⟩
  . have:=d.size
    rw[K]at this;rw[F];simp only[Array.size_setIfInBounds,Array.size_map,jI.isNone]at this ⊢;rw[u];exact this
  . rw[show s'.sh=s.sh by rw[u]];exact d.mu.same (.of_heap (by rw[v,if_neg (Ne.symm A.d1)]))
  . rw[show s'.gc=s.gc by rw[u],show s'.gv=s.gv by rw[u],show s'.gm=s.gm by rw[u]];exact d.gr.same (.of_heap (by rw[v,if_neg (Ne.symm A.d2)]))
  . rw[v,if_neg (Ne.symm A.d1)];exact d.vg
  . rw[v,if_neg (Ne.symm A.d2)];exact d.yX
  . rw[G];exact d.tok i y hy
  . rw[G];exact d.JF c hc
  . refine⟨λh=>h.elim,?_⟩
    rintro(⟨j,C,E,r⟩|⟨C,E⟩)
    . rw[G,B j C]at r;cases r
    . rw[F]at E;cases E
  . subst hp
    exact⟨Q.2,by have:=d.n0;omega,.inr ⟨F,Q.1⟩⟩
  . have S:=d.mR _ (λop H a X _ O=>by rw[b1 op H a X]at O;cases O) m a X hs O
    rw[K]at S;rw[F];exact S
 have hL:MS.gM A.n s' s:=by
  refine .inl ?_;rw[u];show pq.recv.cS+sumTo A.n (λi=>(s.w i).cS)+jI.gone.cS s.gc<s.ms.cS+sumTo A.n (λi=>(s.w i).cS)+s.c.cS s.gc
  rw[K];have e2:pq.recv.cS=100:=rfl;have e3:jI.gone.cS s.gc=0:=rfl;have e4:jI.kF.cS s.gc=3:=rfl;have e5:99<=s.ms.cS:=by rcases U.2 with e|e<;>rw[e]<;>simp[pq.cS]
  omega
 have hS:gV A s s' (λi=>i=0\/i=A.b+A.n):=⟨λl _ R=>by rw[G],λh=>absurd (.inr rfl) h,λh=>absurd (.inl rfl) h,by rw[u],by rw[u]⟩
 refine⟨_,_,L,s',bR f 0 ⟨_,_,_,_,tr⟩,upd q (A.b+A.n) nq,kk,OO,λ_=>False,(λp=>p=t.size+1),_,_,_,rfl,hL,?_⟩
 refine Y.Is hu hP bq (by simp) (λi=>i=0\/i=A.b+A.n) b8 (lO hZ hS (λi D=>az _ _ (λe=>D (.inl e))) (λi D=>upd_ne q nq (λe=>D (.inr e))) (λ_ _ _=>rfl) (λ_ _ _=>rfl) (λi D R _=>?_)) (λi D=>?_)
 . rcases R with⟨e,_⟩|⟨l,C,E,r⟩|⟨e,_⟩
   . exact absurd (.inl e) D
   . rw[B l C]at r;exact r.elim
   . exact absurd (.inr e) D
 . rcases D with rfl|rfl
   . refine⟨g0,b9,λ_=>?_,λh=>absurd h (tg (.inl W)),λh=>absurd h (mV (by rw[W];simp)),λh=>absurd (iX W) h⟩
     rw[au];refine⟨by show 0<A.b+A.n+1;omega,rfl,?_,rfl,rfl,tr.running,by rw[cy hu];exact d0,.inl rfl,DI⟩
     show qV P A Fin _ _=bP P A Fin s' 0;rw[nW W,ax]
   . refine⟨g',a9,λh=>absurd h ?_,λh=>absurd h ?_,λh=>absurd h s8,λ_ _ _=>⟨by omega,by rw[upd_same,cy hu,hd];exact hq⟩⟩
     . rintro(⟨e,_⟩|⟨l,C,E,r⟩|⟨_,r⟩)
       . omega
       . omega
       . rw[F]at r;exact r
     . rintro(⟨e,_⟩|⟨l,C,E,r⟩|⟨_,r⟩)
       . omega
       . omega
       . rw[F]at r;exact r
end
section
variable{P:Program}{A:eu}{Fin:ah->ai->Goroutine->Prop}{Z:Base}{s s':MS P}{f f':Nat->Node P}{q q':Nat->Nat}{kk kk':Nat->ah}{OO OO':Nat->ai}{J J' M M':Nat->Prop}{gs gs':Array Goroutine}{w w':World}{t u:Trace}{j:Nat}{g g₂:Goroutine}{z v:Value}
theorem ti{w:World}{b i:Nat}{c:Array Value}{e:TypeId}{v:Value}(h:w.heap[b]?=some (.cells c e (0,0)))(a:w.cell? ⟨b,i,none⟩=some v):c[i]?=some v:=by simpa[World.cell?,h]using a
theorem DK{w:World}{b:Nat}{c:Array Value}{e:TypeId}(h:w.heap[b]?=some (.cells c e (0,0))):w.shape? b=some (e,c.size):=by simp[World.shape?,h]
theorem QI(hZ:A.b+A.n+1<=Z.lk)(B:bJ (cB P A Fin Z hZ) Z s f q kk OO J M gs w t)(hm:s.ms=.recv)(Y:s.c=.gone)(hg:gs[0]?=some g){N:ah->ai->Goroutine->Prop}(ht:(qV P A Fin (MS.rem P A.n s).length (MS.rem P A.n s)).dC (kk 0) (OO 0) g N)(sl:Option (Nat × Nat)):
 ∃ops m',runT P (crowd gs w sl) 0=(.next m',ops)/\∃gs' w' b3 k' O' g',m'=crowd gs' w' b3/\eQ P Z.W0 k' O' g' gs' w' (t++ops)/\Fin k' O' g':=by
 have C:dt P A Z s kk OO J M gs.size w t:=B.ex;have hb:=A.hb;have F:(0:Nat)≠Z.lk:=by omega
 obtain⟨c0,v0,m0,d⟩:=C.I.g8 (by rw[Y];rfl)
 obtain⟨xs,tm,hF⟩:=C.yE;rw[show s.c.eD=true by rw[Y];rfl]at hF
 have a7:MS.rem P A.n s=[]:=by
  cases hr:MS.rem P A.n s with
  |nil=>rfl
  | cons a l=>
    have:a∈MS.rem P A.n s:=by rw[hr];simp
    obtain⟨e1,e2⟩:=ta.1 this;rw[d a e1]at e2;cases e2
 rw[a7]at ht;obtain⟨_,g₂,z,e1,_,e3,⟨es,a8⟩,e4⟩:=ht;have b4:=(Array.getElem?_eq_some_iff.1 hg).1;obtain⟨_,_,_,_,_,_,d0,_⟩:=B.live _ (iX hm);have T:=crowd_recv_closed (P:=P) (sl:=sl) hg (show stepG P (0==0) g w=_ from e1 w (B.cE.sat 0)) hF (oR λi x _ hx=>vl hZ B hx (λj D L h3=>by rw[d j D]at h3;cases h3) _)
 rw[gW]at T;obtain⟨u,U⟩:∃u:Trace,u=#[{g:=0,fn:=g₂.frame.fn,pos:=g₂.frame.place,act:=.recvClosed A.cF}]:=⟨_,rfl⟩;have V:runT P (crowd gs w sl) 0=(.next (crowd (gs.setIfInBounds 0 (g₂.finishComm P #[rcase A.cF z] (.recv true) 0 z false)) w sl),u):=by rw[T,U];simp
 have b5:A.cF<w.heap.size:=(Array.getElem?_eq_some_iff.1 hF).1;have G:∀op∈u,op={g:=0,fn:=g₂.frame.fn,pos:=g₂.frame.place,act:=.recvClosed A.cF}:=λop h=>by rw[U]at h;simpa using h
 have hu:lZ u:=λop h=>by rw[G op h];exact⟨by simp,by simp⟩
 have b6:u[0]?=some {g:=0,fn:=g₂.frame.fn,pos:=g₂.frame.place,act:=.recvClosed A.cF}:=by rw[U];rfl
 have Q:∀op∈u,op.act.touch?=none:=λop h=>by rw[G op h];rfl
 have a9:∀i,¬J i:=λi hi=>by
  rcases(C.hJ i).1 hi with⟨a,R,a2,o⟩|⟨_,o⟩
  . rw[d a R]at o;cases o
  . rw[Y]at o;cases o
 have al:∀p n,M p->Before t n p->Knows (t++u) 0 n:=λp n hp hk=>by
  obtain⟨R,_,o⟩:=C.hM p hp
  rcases o with⟨_,a4⟩|⟨_,a4⟩
  . rw[Y]at a4;rcases a4 with a4|a4|⟨_,a4⟩<;>cases a4
  . exact Bt (t:=t) hu (m:=0) (y:={g:=0,fn:=g₂.frame.fn,pos:=g₂.frame.place,act:=.recvClosed A.cF}) b6 a4 R rfl d0 hk
 have H:∀n a,touchAt t n=some a->a.loc.isMemory=true -> ¬Z.Shun a.loc->Knows (t++u) 0 n:=λn a O hm hz=>by
  rcases B.cE.acc n a O hm with h|⟨j,hj,_⟩|⟨p,hp,h⟩|⟨h,_⟩
  . exact h.app u
  . exact absurd hj (a9 j)
  . exact al p n hp h
  . exact absurd h hz
 obtain⟨x,a,hx,b7,b8⟩:=C.Lf λj hj=>by rw[d j hj];rfl
 have cg:∀c,OO Z.lk c≠none->c=A.mb:=λc h=>(C.JF c h).1
 have av:∀i,OO i A.fb=none:=λi=>by
  cases e:OO i A.fb with
  |none=>rfl
  |some y=>obtain⟨j,_,D,_,L,_⟩:=C.tok i y e;rw[d j D]at L;cases L
 have b9:cA Z (bR kk 0 ((kk 0).join (kk Z.lk))) (bR (bR OO 0 ((OO 0).set A.mb x)) Z.lk ai.bot) (λ_=>False) (λ_=>False) w (t++u):=by
  have S:∀j b y,bR (bR OO 0 ((OO 0).set A.mb x)) Z.lk ai.bot j b=some y->(j≠Z.lk/\OO j b=some y/\¬(j=0/\b=A.mb))\/(j=0/\b=A.mb/\y=x):=λj b y r=>by
   by_cases e:j=Z.lk
   . subst e;rw[au]at r;cases r
   . rw [az _ _ e]at r
     by_cases e0:j=0
     . subst e0
       rw[au]at r
       by_cases eb:b=A.mb
       . subst eb
         simp only[ai.set,if_true,Option.some.injEq]at r;exact .inr ⟨rfl,rfl,r.symm⟩
       . simp only[ai.set,if_neg eb]at r
         exact .inl ⟨e,r,λh=>eb h.2⟩
     . rw[az _ _ e0]at r
       exact .inl ⟨e,r,λh=>e0 h.1⟩
  refine B.cE.tY (λa b=>a=b\/(a=Z.lk/\b=0)) rfl ⟨⟨.refl _,rfl⟩,λ_ _=>rfl⟩ (λb=>.inl rfl) (λop h=>by rw[G op h];exact b5) (λi j e n y r ax hz bq=>?_) (λj b n v k=>?_) (λj b s k=>?_) (λj b y r=>?_) (λi j b y ay r=>?_)
   (λsaid=>noRace_appendMute (B.cE.clean said) Q) (λop K a O=>by rw[Q op K]at O;cases O) (λm op a K O=>by rw[Q op (Array.mem_of_getElem? K)]at O;cases O) (λn a O ax h=>?_)
  . rcases e with rfl|⟨rfl,rfl⟩
    . exact bq.app u
    . exact(oC F).2 (H n y r ax hz)
  . by_cases e:j=0
    . subst e
      rw[au]at k
      rcases ah.lK k with k|k
      . exact⟨_,.inl rfl,k⟩
      . exact⟨Z.lk,.inr ⟨rfl,rfl⟩,k⟩
    . rw[az _ _ e]at k;exact⟨j,.inl rfl,k⟩
  . by_cases e:j=0
    . subst e
      rw[au]at k
      rcases ah.Br k with k|k
      . exact⟨_,.inl rfl,k⟩
      . exact⟨Z.lk,.inr ⟨rfl,rfl⟩,k⟩
    . rw[az _ _ e]at k;exact⟨j,.inl rfl,k⟩
  . rcases S j b y r with⟨D,L,h3⟩|⟨rfl,rfl,rfl⟩
    . refine⟨j,.inl rfl,L,λs hs=>?_⟩
      by_cases e:j=0
      . subst e;rw[au];exact(ah.mO _ _).sh b s hs
      . rw[az _ _ e];exact hs
    . refine⟨Z.lk,.inr ⟨rfl,rfl⟩,hx,λs hs=>?_⟩
      rw[au];exact(ah.pP (B.cE.sat 0) (B.cE.sat Z.lk)).sh _ s hs
  . cases q:bR (bR OO 0 ((OO 0).set A.mb x)) Z.lk ai.bot j b with
    |none=>rfl
    | some y'=>
      rcases S i b y r with⟨D,L,h3⟩|⟨rfl,rfl,rfl⟩
      . rcases S j b y' q with⟨k1,k2,k3⟩|⟨rfl,rfl,rfl⟩
        . have:=B.cE.ju i j b y ay L
          rw[k2]at this;cases this
        . have:=B.cE.ju i Z.lk _ y D L
          rw[hx]at this;cases this
      . rcases S j A.mb y' q with⟨k1,k2,k3⟩|⟨rfl,_,_⟩
        . have:=B.cE.ju j Z.lk _ y' k1 k2
          rw[hx]at this;cases this
        . exact absurd rfl ay
  . rcases h with⟨j,D,_⟩|⟨p,D,L⟩
    . exact absurd D (a9 j)
    . exact .inl (al p n D L)
 obtain⟨bz,bA⟩:=C.I.mu.rest λi hi=>by rw[d i hi];rfl
 obtain⟨cc,ce,E⟩:=C.vg
 have b0:es=(ce,cc.size):=by have:=(B.cE.sat 0).sh _ _ a8;rw[DK E]at this;exact(Option.some.inj this).symm
 have bB:cc[A.fo]?=some (.int .i32 0):=by have:=C.mu.cw;rw[bz]at this;exact ti E this
 have c5:cc[A.fo+1]?=some (.int .u32 0):=by have:=C.mu.cs;rw[bA]at this;exact ti E this
 have W:∀n v,bS A.fo n=some v->(n=A.fo\/n=A.fo+1)/\cc[n]?=some v:=λn v k=>by
  unfold bS at k;split at k
  . rename_i e;subst e;rw[<-k];exact⟨.inl rfl,bB⟩
  . split at k
    . rename_i e;subst e;rw[<-k];exact⟨.inr rfl,c5⟩
    . cases k
 have b1:∀n,bS A.fo n≠none->(n=A.fo\/n=A.fo+1):=λn hn=>by
  cases e:bS A.fo n with
  |none=>exact absurd e hn
  |some v=>exact(W n v e).1
 have X:∀i n,(n=A.fo\/n=A.fo+1)->(bR kk 0 ((kk 0).join (kk Z.lk)) i).cell A.fb n=none:=λi n hn=>by
  have hk:∀l,(kk l).cell A.fb n=none:=λl=>by rcases hn with h|h<;>rw[h]<;>first|exact(C.dZ l).1|exact(C.dZ l).2.1
  cases e:(bR kk 0 ((kk 0).join (kk Z.lk)) i).cell A.fb n with
  |none=>rfl
  | some v=>
    by_cases ei:i=0
    . subst ei
      rw[au]at e
      rcases ah.lK e with e|e<;>rw[hk]at e<;>cases e
    . rw[az _ _ ei,hk]at e;cases e
 have c6:=b9.UY F (b:=A.fb) (f:=bS A.fo) (λi=>?_) (λn v k i=>X i n (W n v k).1) (λad c7 hf=>C.jV ad ⟨c7,b1 _ hf⟩) ⟨cc,ce,E,?_,λn v k=>(W n v k).2⟩ (λm a ad O hl c8 hf=>?_) C.eN.2.1
 . obtain⟨g1,b2⟩:∃g1,g1=g₂.finishComm P #[rcase A.cF z] (.recv true) 0 z false:=⟨_,rfl⟩
   have ca:∀i,0<i -> ¬dH P A s i/\¬fE P A s i/\¬eM P A s i:=λi hi=>by
    refine⟨?_,?_,?_⟩
    . rintro(⟨h,_⟩|⟨a,R,a2,o⟩|⟨_,o⟩)
      . omega
      . rw[d a R]at o;exact o
      . rw[Y]at o;exact o
    . rintro(⟨h,_⟩|⟨a,R,a2,o⟩|⟨_,o⟩)
      . omega
      . rw[d a R]at o;exact o
      . rw[Y]at o;exact o
    . rintro(⟨h,_⟩|⟨a,R,a2,o⟩)
      . omega
      . rw[d a R]at o;cases o
   have hS:=c6.finish (P:=P) (gs:=gs.setIfInBounds 0 g1) (g:=g1) (q:=q) (Array.getElem?_setIfInBounds_self_of_lt b4) ⟨λi y hi r=>by
    rw[Array.getElem?_setIfInBounds_ne (by omega)]at r
    rw[cy hu];obtain⟨n1,n2,n3⟩:=ca i hi;exact(B.rest i y r n1 n2 n3).2,λj hj=>by rw[cy hu];exact B.above j (by simpa using hj)⟩ (by rw[cy hu];exact d0)
   rw[au,au,az _ _ F,au]at hS;refine⟨u,_,V,gs.setIfInBounds 0 g1,w,sl,_,_,g1,by rw[b2],hS,?_⟩
   rw[b2];exact e4 _ x a (ah.mO _ _) (b7.mono (ah.pP (B.cE.sat 0) (B.cE.sat Z.lk))) b8
 . by_cases e:i=Z.lk
   . subst e;rw[au];rfl
   . rw[az _ _ e]
     by_cases e0:i=0
     . subst e0;rw[au];simp only[ai.set,if_neg A.d5];exact av 0
     . rw[az _ _ e0];exact av i
 . rw[au,<-b0];exact(ah.mO _ _).sh _ _ a8
 . have cb:touchAt t m=some a:=by
    rcases mQ O with⟨D,_⟩|⟨op,K,D⟩
    . exact D
    . rw[Q op K]at D;cases D
   exact H m a cb (by rw[hl];rfl) (by rw[hl];exact C.jV ad ⟨c8,b1 _ hf⟩)
end
def tj(n:Nat)(f1 a:FuncId)(b c:String):Trace:=#[{g:=0,fn:=f1,pos:=b,act:=.go n},{g:=n,fn:=a,pos:=c,act:=.start}]
theorem ga{n:Nat}{f1 b:FuncId}{c d:String}{op:MemOp}(h:op∈tj n f1 b c d):op.act.touch?=none/\(op.act≠.mark .disable/\op.act≠.mark .enable)/\(∀B,op.act.low B)/\∀a,op.act≠.mark (.release a):=by
 simp only[tj,List.mem_toArray,List.mem_cons,List.not_mem_nil,or_false]at h;rcases h with rfl|rfl<;>exact⟨rfl,⟨by simp,by simp⟩,λB=>trivial,by simp⟩
theorem bot_join(k:ah):ah.bot.join k=k:=rfl
section
variable{P:Program}{A:eu}{Fin:ah->ai->Goroutine->Prop}{Z:Base}{s s':MS P}{f f':Nat->Node P}{q q':Nat->Nat}{kk kk':Nat->ah}{OO OO':Nat->ai}{J J' M M':Nat->Prop}{gs gs':Array Goroutine}{w w':World}{t u:Trace}{j m:Nat}{g g' g₂ child:Goroutine}{z v:Value}
theorem xW{gs:Array Goroutine}{g' child:Goroutine}(a:0<gs.size):(∀i,i≠0->i≠gs.size->((gs.setIfInBounds 0 g').push child)[i]?=gs[i]?)/\((gs.setIfInBounds 0 g').push child)[0]?=some g'/\((gs.setIfInBounds 0 g').push child)[gs.size]?=some child:=by
 refine⟨λi c b=>?_,?_,?_⟩
 . rw[Array.getElem?_push,if_neg (by simpa using b),Array.getElem?_setIfInBounds_ne (Ne.symm c)]
 . rw[Array.getElem?_push,if_neg (by simp;omega),Array.getElem?_setIfInBounds_self_of_lt a]
 . rw[Array.getElem?_push,if_pos (by simp)]
theorem Ak{gs:Array Goroutine}(b:gs[0]?=some g)(c:stepG P true g w=.spawn g' child w #[])(sl:Option (Nat × Nat)):
 runT P (crowd gs w sl) 0=(.next (crowd ((gs.setIfInBounds 0 g').push child) w sl),tj gs.size g.frame.fn child.frame.fn g.frame.place g.frame.place):=by
 have a:=runT_crowd_spawn (P:=P) (sl:=sl) (i:=0) b (show stepG P (0==0) g w=_ from c);rw[gW]at a;exact a
theorem DL(m:Nat):(Ag P A Fin m).solo=false:=by cases m<;>rfl
theorem tk(e:s.ms=.add m):dH P A s 0:=.inl ⟨rfl,by rw[e];trivial⟩
theorem xX(e:s.ms=.spawn m):dH P A s 0:=.inl ⟨rfl,by rw[e];trivial⟩
theorem Al(e:s.ms=.add m):¬fE P A s 0:=by
 have:=A.hb;rintro(⟨_,h⟩|⟨l,a,b,c⟩|⟨h,_⟩)
 . rw[e]at h;exact h
 . omega
 . omega
theorem DN(e:s.ms=.add m):bP P A Fin s 0=Ag P A Fin m:=by unfold bP;rw[if_pos rfl,e]
theorem Iv(hZ:A.b+A.n+1<=Z.lk)(L:bJ (cB P A Fin Z hZ) Z s f q kk OO J M gs w t)(hm:s.ms=.spawn m)(hg:gs[0]?=some g){N:ah->ai->Goroutine->Prop}(ht:(G3 P A Fin m).dC (kk 0) (OO 0) g N)(sl:Option (Nat × Nat)):
 Goes P A Fin Z hZ s gs w t sl 0:=by
 have E:dt P A Z s kk OO J M gs.size w t:=L.ex;have hb:=A.hb;obtain⟨rfl,g',child,hs,O,a7⟩:=ht;have Q:=E.I.ms;rw[hm]at Q;obtain⟨b2,F⟩:=Q;have d:gs.size=A.b+s.sp:=by have:=E.size;rw[F]at this;simpa[jI.isNone]using this
 have u:s.sp<A.n:=by omega
 have hj:A.n-(m+1)=s.sp:=by omega
 rw[hj]at O;obtain⟨R⟩:=T.tree (P:=P) (m:=lC P A s.sp) rfl O;obtain⟨S⟩:=T.tree (DL (P:=P) (A:=A) (Fin:=Fin) m) a7;have a8:=(Array.getElem?_eq_some_iff.1 hg).1;obtain⟨_,_,_,_,_,_,d0,_⟩:=L.live _ (xX hm);have dn:Deaf t gs.size=0:=L.above _ (Nat.le_refl _);have U:=Ak (sl:=sl) hg (hs w (L.cE.sat 0));have hu:lZ (tj gs.size g.frame.fn child.frame.fn g.frame.place g.frame.place):=λop h=>(ga h).2.1
 have V:∀n,Knows t 0 n->Knows (t++tj gs.size g.frame.fn child.frame.fn g.frame.place g.frame.place) gs.size n:=λn hn=>vd (t:=t) (c:=0) hu (m1:=0) (m2:=1) (x:={g:=0,fn:=g.frame.fn,pos:=g.frame.place,act:=.go gs.size}) (y:={g:=gs.size,fn:=child.frame.fn,pos:=g.frame.place,act:=.start}) rfl rfl rfl rfl d0 dn hn
 have k:s.w s.sp=.idle:=by have:=(E.I.idle s.sp u).2 (Nat.le_refl _);cases e:s.w s.sp<;>rw[e]at this<;>first|rfl|cases this
 have a9:¬bU P A s gs.size:=by
  rintro(h|⟨l,z,r⟩|⟨z,r⟩)
  . omega
  . omega
  . exact r F
 obtain⟨fk,fO⟩:=E.Dl gs.size (by omega) a9
 obtain⟨X,hX⟩:∃X:Node P,X=⟨lC P A s.sp,kk 0,ai.bot,child,R⟩:=⟨_,rfl⟩;obtain⟨s',o⟩:∃s',s'=s.kY s.sp (.run false X) (.add m) (s.sp+1):=⟨_,rfl⟩;have B:s'.w s.sp=.run false X:=by rw[o,fh]
 have K:∀{l:Nat},l≠s.sp->s'.w l=s.w l:=λh=>by rw[o,jy h]
 have C:s'.c=s.c:=by rw[o];rfl
 have G:s'.ms=.add m:=by rw[o];rfl
 have W:s'.sp=s.sp+1:=by rw[o];rfl
 have hI:bT A.n s':=by rw[o];refine E.I.kY u (by rw[k,hm];rfl) (by rw[k];rfl) rfl (by rw[k];simp) rfl (by rw[k];rfl) rfl (.inr ⟨rfl,rfl⟩) (λh=>by cases h) ⟨by omega,F⟩
 have Y:∀l,J l->fF P A s' l:=λl hl=>by
  rcases(E.hJ l).1 hl with⟨a,z,r,h3⟩|⟨z,r⟩
  . refine .inl ⟨a,z,r,?_⟩
    by_cases e:a=s.sp
    . subst e;rw[B];rfl
    . rw[K e];exact h3
  . exact .inr ⟨z,by rw[C];exact r⟩
 have hP:=L.cE.hand (J':=fF P A s') (M':=M) (w':=w) (src:=0) (dst:=gs.size) (by omega) (by omega) V (λop h=>(ga h).1) (λop h=>(ga h).2.2.1 _) rfl ⟨⟨.refl _,rfl⟩,λ_ _=>rfl⟩ (λb=>.inl rfl) (λn a ha b3 h=>h.elim (λ⟨j,z,r⟩=>.inr (.inl ⟨j,Y j z,r.app _⟩)) (λ⟨p,z,r⟩=>.inr (.inr (.inl ⟨p,z,r.app _⟩))))
 rw[fk,bot_join]at hP;obtain⟨ad,al,av⟩:=xW (g':=g') (child:=child) a8
 have ax:dt P A Z s' (bR kk gs.size (kk 0)) OO (fF P A s') M ((gs.setIfInBounds 0 g').push child).size w (t++tj gs.size g.frame.fn child.frame.fn g.frame.place g.frame.place):=by
  refine E.chan hI (by rw[Array.size_push,Array.size_setIfInBounds,W,C,F];simp[jI.isNone];omega) (by rw[C];exact E.yE) (λ_ _=>rfl) (by rw[o];rfl) (by rw[o];rfl) (by rw[o];rfl) (by rw[o];rfl) (λl _=>?_) (λi b n v h=>?_) (az _ _ (by omega)) (λi=>Iff.rfl) (.inl C) (λop h=>⟨(ga h).1,(ga h).2.2.2⟩) (λi D=>?_) (λi ay hn=>?_)
  . by_cases e:l=s.sp
    . subst e;rw[B,k];rfl
    . rw[K e]
  . by_cases e:i=gs.size
    . subst e;rw[au]at h;exact⟨0,h⟩
    . rw[az _ _ e]at h;exact⟨i,h⟩
  . rcases D with h0|⟨l,z,r⟩|⟨z,r⟩
    . exact .inl (.inl h0)
    . rw[W]at z
      by_cases e:l=s.sp
      . subst e
        rw[r,<-d];exact .inr V
      . exact .inl (.inr (.inl ⟨l,by omega,r⟩))
    . exact .inl (.inr (.inr ⟨z,by rw[<-C];exact r⟩))
  . have b0:¬bU P A s i:=λh=>hn (by
     rcases h with h0|⟨l,z,r⟩|⟨z,r⟩
     . exact .inl h0
     . exact .inr (.inl ⟨l,by omega,r⟩)
     . exact .inr (.inr ⟨z,by rw[C];exact r⟩))
    have H:i≠gs.size:=λe=>hn (.inr (.inl ⟨s.sp,by omega,by omega⟩))
    rw[az _ _ H];exact E.Dl i ay b0
 have hL:MS.gM A.n s' s:=by rw[o];refine uA u ?_;rw[k,hm];have e1:(bt.run (P:=P) false X).cS=20:=rfl;have e2:(pq.add m).cS=40*m+200:=rfl;have e3:(pq.spawn m).cS=40*m+225:=rfl;have e4:(bt.idle (P:=P)).cS=0:=rfl;omega
 have hS:gV A s s' (λi=>i=0\/i=gs.size):=⟨λl _ hl=>K (λe=>hl (.inr (by omega))),λ_=>C,λh=>absurd (.inl rfl) h,by rw[o];rfl,by rw[o];rfl⟩
 refine⟨_,_,U,s',bR (bR f 0 ⟨_,_,_,_,S⟩) gs.size X,q,bR kk gs.size (kk 0),OO,fF P A s',M,_,_,_,rfl,hL,?_⟩;refine L.Is hu hP ax (by simp) (λi=>i=0\/i=gs.size) (λi D=>ad i (λe=>D (.inl e)) (λe=>D (.inr e))) (lO hZ hS (λi D=>by rw[az _ _ (λe=>D (.inr e)),az _ _ (λe=>D (.inl e))]) (λ_ _=>rfl) (λi D _=>az _ _ (λe=>D (.inr e))) (λ_ _ _=>rfl) (λl _ _ h=>Y l h)) (λi D=>?_)
 rcases D with rfl|rfl
 . refine⟨g',al,λ_=>?_,λh=>absurd h (Al G),λh=>absurd h (mV (by rw[G];simp)),λh=>absurd (tk G) h⟩
   have H:(0:Nat)≠gs.size:=by omega
   rw[az _ _ H,au,az _ _ H];refine⟨by show 0<A.b+A.n+1;omega,rfl,?_,rfl,rfl,S.running,by rw[cy hu];exact d0,.inl rfl,DI⟩
   show Ag P A Fin m=bP P A Fin s' 0;rw[DN G]
 . have b1:dH P A s' gs.size:=by rw[d];exact kH u B
   refine⟨child,av,λ_=>?_,λh=>absurd h (by rw[d];exact uu u B),λh=>absurd h (by rw[d];exact jW u B),λh=>absurd b1 h⟩
   rw[au,au,hX];refine⟨by show gs.size<A.b+A.n+1;omega,rfl,?_,rfl,fO.symm,R.running,by rw[cy hu];exact dn,.inr (.inl ⟨s.sp,u,d,by rw[B];rfl⟩),λl h X' z r h3=>?_⟩
   . show lC P A s.sp=bP P A Fin s' gs.size
     rw[d,nR u B]
   . obtain rfl:l=s.sp:=by omega
     rw[B]at h3;cases h3;rw[hX];exact vh.refl _
theorem Iw(hZ:A.b+A.n+1<=Z.lk)(O:bJ (cB P A Fin Z hZ) Z s f q kk OO J M gs w t)(Q:s.ms=.add 0)(hg:gs[0]?=some g){N:ah->ai->Goroutine->Prop}(ht:(Ag P A Fin 0).dC (kk 0) (OO 0) g N)(sl:Option (Nat × Nat)):
 Goes P A Fin Z hZ s gs w t sl 0:=by
 have r:dt P A Z s kk OO J M gs.size w t:=O.ex;have hb:=A.hb;obtain⟨rfl,g',child,hs,a8,a9⟩:=ht;have S:=r.I.ms;rw[Q]at S;obtain⟨E,z⟩:=S;have E:s.sp=A.n:=by omega
 have d:gs.size=A.b+A.n:=by have:=r.size;rw[z,E]at this;simpa[jI.isNone]using this
 obtain⟨U⟩:=T.tree (P:=P) (m:=xH P A) rfl a8;obtain⟨V⟩:=T.tree (xU (P:=P) (A:=A) (Fin:=Fin) _ _) a9;have ad:=(Array.getElem?_eq_some_iff.1 hg).1;obtain⟨_,_,_,_,_,_,d0,_⟩:=O.live _ (tk Q);have dn:Deaf t gs.size=0:=O.above _ (Nat.le_refl _);have W:=Ak (sl:=sl) hg (hs w (O.cE.sat 0));have hu:lZ (tj gs.size g.frame.fn child.frame.fn g.frame.place g.frame.place):=λop h=>(ga h).2.1
 have K:∀n,Knows t 0 n->Knows (t++tj gs.size g.frame.fn child.frame.fn g.frame.place g.frame.place) gs.size n:=λn hn=>vd (t:=t) (c:=0) hu (m1:=0) (m2:=1) (x:={g:=0,fn:=g.frame.fn,pos:=g.frame.place,act:=.go gs.size}) (y:={g:=gs.size,fn:=child.frame.fn,pos:=g.frame.place,act:=.start}) rfl rfl rfl rfl d0 dn hn
 have al:¬bU P A s gs.size:=by
  rintro(h|⟨l,C,B⟩|⟨C,B⟩)
  . omega
  . omega
  . exact B z
 obtain⟨fk,fO⟩:=r.Dl gs.size (by omega) al
 obtain⟨s',o⟩:∃s':MS P,s'={s with ms:=.recv,c:=.eU}:=⟨_,rfl⟩
 have F:s'.w=s.w:=by rw[o]
 have u:s'.c=.eU:=by rw[o]
 have G:s'.ms=.recv:=by rw[o]
 have L:s'.sp=s.sp:=by rw[o]
 obtain⟨v0,m0,R⟩:=r.I.calm (by rw[z];rfl)
 have hI:bT A.n s':=by
  rw[o];refine⟨?_,r.I.g2,λh=>(by have h:s.gv=1:=h;omega),r.I.g3,r.I.zw,λi D h=>?_,⟨r.I.g5.1,λh=>(by have h:s.gm=1:=h;omega)⟩,λh=>(by cases h),r.I.g7,λh=>(by cases h),λk h=>(by cases h),r.I.ok,rfl,r.I.sp,r.I.idle,⟨E,by simp⟩,λh=>(by cases h),r.I.mu⟩
  . have:=r.I.g1
    rw[Q]at this;exact this
  . have h:s.w i=.dn .d7:=h
    have:=R i D;rw[h]at this;cases this
 have X:∀l,J l->fF P A s' l:=λl R=>by
  rcases(r.hJ l).1 R with⟨a,C,B,h3⟩|⟨C,B⟩
  . exact .inl ⟨a,C,B,by rw[F];exact h3⟩
  . rw[z]at B;cases B
 have hP:=O.cE.hand (J':=fF P A s') (M':=M) (w':=w) (src:=0) (dst:=gs.size) (by omega) (by omega) K (λop h=>(ga h).1) (λop h=>(ga h).2.2.1 _) rfl ⟨⟨.refl _,rfl⟩,λ_ _=>rfl⟩ (λb=>.inl rfl) (λn a ha b4 h=>h.elim (λ⟨j,C,B⟩=>.inr (.inl ⟨j,X j C,B.app _⟩)) (λ⟨p,C,B⟩=>.inr (.inr (.inl ⟨p,C,B.app _⟩))))
 rw[fk,bot_join]at hP;obtain⟨av,ax,ay⟩:=xW (g':=g') (child:=child) ad;have Y:=r.yE;rw[z]at Y
 have b0:dt P A Z s' (bR kk gs.size (kk 0)) OO (fF P A s') M ((gs.setIfInBounds 0 g').push child).size w (t++tj gs.size g.frame.fn child.frame.fn g.frame.place g.frame.place):=by
  refine r.chan hI (by rw[Array.size_push,Array.size_setIfInBounds,L,u,d,E];rfl) (by rw[u];exact Y) (λ_ _=>rfl) (by rw[o]) (by rw[o]) (by rw[o]) (by rw[o]) (λl _=>by rw[F]) (λi b n v h=>?_) (az _ _ (by omega)) (λi=>Iff.rfl) (.inr ⟨z,u,λm Q=>by rw[<-d];exact K m Q⟩) (λop h=>⟨(ga h).1,(ga h).2.2.2⟩) (λi D=>?_) (λi b1 hn=>?_)
  . by_cases e:i=gs.size
    . subst e;rw[au]at h;exact⟨0,h⟩
    . rw[az _ _ e]at h;exact⟨i,h⟩
  . rcases D with h0|⟨l,C,B⟩|⟨C,B⟩
    . exact .inl (.inl h0)
    . exact .inl (.inr (.inl ⟨l,by rw[<-L];exact C,B⟩))
    . rw[C,<-d];exact .inr K
  . have b2:¬bU P A s i:=λh=>hn (by
     rcases h with h0|⟨l,C,B⟩|⟨C,B⟩
     . exact .inl h0
     . exact .inr (.inl ⟨l,by rw[L];exact C,B⟩)
     . exact .inr (.inr ⟨C,by rw[u];simp⟩))
    have H:i≠gs.size:=λe=>hn (.inr (.inr ⟨by omega,by rw[u];simp⟩))
    rw[az _ _ H];exact r.Dl i b1 b2
 have hL:MS.gM A.n s' s:=by
  refine .inl ?_;rw[o];show pq.recv.cS+sumTo A.n (λi=>(s.w i).cS)+jI.eU.cS s.gc<s.ms.cS+sumTo A.n (λi=>(s.w i).cS)+s.c.cS s.gc
  rw[z,Q];have e2:pq.recv.cS=100:=rfl;have e3:jI.eU.cS s.gc=14:=rfl;have e4:jI.none.cS s.gc=0:=rfl;have e5:(pq.add 0).cS=200:=rfl;omega
 have a7:MS.rem P A.n s'=List.range A.n:=by unfold MS.rem;rw[F];exact List.filter_eq_self.2 λl R=>by rw[r.I.early z l (List.mem_range.1 R)];rfl
 have hS:gV A s s' (λi=>i=0\/i=gs.size):=⟨λl _ R=>by rw[F],λh=>absurd (.inr (by omega)) h,λh=>absurd (.inl rfl) h,by rw[o],by rw[o]⟩
 refine⟨_,_,W,s',bR (bR f 0 ⟨_,_,_,_,V⟩) gs.size ⟨_,_,_,_,U⟩,q,bR kk gs.size (kk 0),OO,fF P A s',M,_,_,_,rfl,hL,?_⟩;refine O.Is hu hP b0 (by simp) (λi=>i=0\/i=gs.size) (λi D=>av i (λe=>D (.inl e)) (λe=>D (.inr e))) (lO hZ hS (λi D=>by rw[az _ _ (λe=>D (.inr e)),az _ _ (λe=>D (.inl e))]) (λ_ _=>rfl) (λi D _=>az _ _ (λe=>D (.inr e))) (λ_ _ _=>rfl) (λl _ _ h=>X l h)) (λi D=>?_)
 rcases D with rfl|rfl
 . refine⟨g',ax,λ_=>?_,λh=>absurd h (tg (.inl G)),λh=>absurd h (mV (by rw[G];simp)),λh=>absurd (iX G) h⟩
   have H:(0:Nat)≠gs.size:=by omega
   rw[az _ _ H,au,az _ _ H];refine⟨by show 0<A.b+A.n+1;omega,rfl,?_,rfl,rfl,V.running,by rw[cy hu];exact d0,.inl rfl,DI⟩
   show qV P A Fin _ _=bP P A Fin s' 0;rw[nW G,a7,List.length_range]
 . have b3:dH P A s' gs.size:=by rw[d];exact uw (.inr u)
   refine⟨child,ay,λ_=>?_,λh=>absurd h (by rw[d];exact Hb (.inr u)),λh=>absurd h (by rw[d];exact s8),λh=>absurd b3 h⟩
   rw[au,au];refine⟨by show gs.size<A.b+A.n+1;omega,rfl,?_,rfl,fO.symm,U.running,by rw[cy hu];exact dn,.inr (.inr ⟨d,by rw[u];rfl⟩),by rw[d];exact PJ⟩
   show xH P A=bP P A Fin s' gs.size;rw[d,Hd u]
end
section
variable{P:Program}{A:eu}{Fin:ah->ai->Goroutine->Prop}{Z:Base}{s s':MS P}{f f':Nat->Node P}{q q':Nat->Nat}{kk kk':Nat->ah}{OO OO':Nat->ai}{J J' M M':Nat->Prop}{gs gs':Array Goroutine}{w w':World}{t u:Trace}{j m:Nat}{g g' g₂ child:Goroutine}{z v:Value}
theorem BQ(Q:A.b+A.n+1<=Z.lk)(D:bJ (cB P A Fin Z Q) Z s f q kk OO J M gs w t):∃(i:Nat) (g:Goroutine),gs[i]?=some g/\g.status=.running:=by
 have r:dt P A Z s kk OO J M gs.size w t:=D.ex;have B:=bm (P:=P) (A:=A) (Fin:=Fin) (Z:=Z) Q;refine Classical.byContradiction λu=>?_
 have a:∀i,¬dH P A s i:=λi d=>by obtain⟨_,E,_,_,_,F,_⟩:=D.live i d;exact u ⟨i,_,E,F⟩
 have Aa:∀i,fE P A s i->Qz P A s i:=λi T=>by
  obtain⟨_,_,_,x,x',E,F,U⟩:=D.walk i T
  rcases U with⟨h,_⟩|h
  . exact h
  . exact absurd ⟨i,x,E,h.first (B.me F).1⟩ u
 have hb:=A.hb
 have R:s.ms=.parked:=by
  cases e:s.ms with
  |parked=>rfl
  |add l=>exact absurd (tk e) (a 0)
  |spawn l=>exact absurd (xX e) (a 0)
  |recv=>exact absurd (iX e) (a 0)
  |bD l p=>rcases Aa 0 (FE e)with⟨l,_,_,o,G,_⟩|⟨h,_⟩<;>omega
 have v:=r.I.ms;rw[R]at v;obtain⟨V,H,K,L⟩:=v
 have S:s.c=.wt .w4/\s.gm=0:=by
  cases e:s.c with
  |none=>exact absurd e H
  |gone=>exact absurd e K
  |eU=>exact absurd (uw (.inr e)) (a _)
  |kF=>exact absurd (uw (.inl e)) (a _)
  | wt p=>
    rcases Aa _ (BN e)with⟨l,_,_,o,G,_⟩|⟨_,h,W⟩
    . omega
    . rw[e]at h;exact⟨h,W⟩
 have k:∀l,l<A.n->fE P A s (A.b+l)->∃sv Y,s.w l=.lk (.gx sv) Y/\s.sh.ms=0:=λl d h=>by
  rcases Aa _ h with⟨l',sv,Y,o,G,h3,h4⟩|⟨o,_⟩
  . obtain rfl:l'=l:=by omega
    exact⟨sv,Y,h3,h4⟩
  . omega
 have y:∀l,l<A.n->s.w l=.gone\/∃sv Y,s.w l=.lk (.gx sv) Y/\s.sh.ms=0:=λl d=>by
  have z:=r.I.idle l d;cases e:s.w l with
  |idle=>rw[e]at z;have:=z.1 rfl;omega
  |run h X=>exact absurd (kH d e) (a _)
  |lk p Y=>have:=k l d (.inr (.inl ⟨l,d,rfl,by rw[e];trivial⟩));rw[e]at this;exact .inr this
  |un p Y=>have:=k l d (.inr (.inl ⟨l,d,rfl,by rw[e];trivial⟩));rw[e]at this;obtain⟨_,_,h,_⟩:=this;cases h
  |wait=>exact absurd e (L l d)
  |Ah=>exact absurd (xS d e) (a _)
  |dn p=>have:=k l d (mT d e);rw[e]at this;obtain⟨_,_,h,_⟩:=this;cases h
  |gone=>exact .inl rfl
 have m:∀l,l<A.n->s.w l=.gone:=λl d=>by
  rcases y l d with h|⟨sv,Y,h,h0⟩
  . exact h
  . have o:=r.I.mu.alive (λi C=>by
     rcases y i C with h|⟨sv,Y,h,_⟩
     . exact .inl (by rw[h];rfl)
     . exact .inr ⟨sv,by rw[h];rfl⟩) h0 l d
    rw[h]at o;cases o
 have N:s.gc=0:=by
  have o:=r.I.g1;rw[R]at o
  have G:sumTo A.n (λj=>(s.w j).cnt)=0:=by
   have:∀n,n<=A.n->sumTo n (λj=>(s.w j).cnt)=0:=λn=>by
    induction n with
    |zero=>intro _;rfl
    | succ n ih=>
      intro hn;have e1:=ih (by omega)
      simp only[sumTo,e1,m n (by omega)]
      rfl
   exact this A.n (Nat.le_refl _)
  have e:pq.parked.pend=0:=rfl;omega
 have O:s.c.waits=true:=by rw[S.1];rfl
 by_cases hv:s.gv=1
 . obtain⟨i,C,h⟩:=r.I.g7 hv N
   rw[m i C]at h
   rcases h with h|h<;>cases h
 . have:=r.I.g2
   obtain⟨i,C,h⟩:=r.I.g6 O (by omega) S.2
   rw[m i C]at h;cases h
variable(C:jH P A.ng)(X:ll P A.ng)(CM:iT P A.nm)(XM:iU P A.nm)(F:rK P A.nm)
include C X CM XM F in
theorem Ix(o:A.b+A.n+1<=Z.lk)(sl:Option (Nat × Nat))(i:Nat){k:ah}{O:ai}{g:Goroutine}{N:ah->ai->Goroutine->Prop}(K:g.status=.running)(h:(bP P A Fin s i).dC k O g N)(c:∀k' O' g',N k' O' g'->TT P (bP P A Fin s i) k' O' g')
 (r:bJ (cB P A Fin Z o) Z s f q kk OO J M gs w t) (S:dH P A s i) (L:f i=⟨bP P A Fin s i,k,O,g,.dC N K h c⟩):
 ∃ ops x,runT P (crowd gs w sl) i=(.next x,ops)/\
  ((∃s' f' q' kk' OO' J' M' gs' w' m,x=crowd gs' w' m/\MS.gM A.n s' s/\bJ (cB P A Fin Z o) Z s' f' q' kk' OO' J' M' gs' w' (t++ops))\/
   (∃gs' w' m k' O' g',x=crowd gs' w' m/\eQ P Z.W0 k' O' g' gs' w' (t++ops)/\Fin k' O' g')):=by
 have hE:dt P A Z s kk OO J M gs.size w t:=r.ex
 have goes:Goes P A Fin Z o s gs w t sl i->∃ops x,runT P (crowd gs w sl) i=(.next x,ops)/\
  ((∃s' f' q' kk' OO' J' M' gs' w' m,x=crowd gs' w' m/\MS.gM A.n s' s/\bJ (cB P A Fin Z o) Z s' f' q' kk' OO' J' M' gs' w' (t++ops))\/
   (∃gs' w' m k' O' g',x=crowd gs' w' m/\eQ P Z.W0 k' O' g' gs' w' (t++ops)/\Fin k' O' g')):=λ⟨ops,x,Q,R⟩=>⟨ops,x,Q,.inl R⟩
 obtain⟨_,a,_,y,B,_,_,_,_⟩:=r.live i S;rw[L]at a y B;have a:gs[i]?=some g:=a;have y:k=kk i:=y;have B:O=OO i:=B;subst y B
 rcases S with⟨rfl,D⟩|⟨j,u,rfl,E⟩|⟨rfl,H⟩
 . cases e:s.ms with
   | add l=>
     rw[DN e]at h;cases l with
     |zero=>exact goes (Iw o r e a h sl)
     |succ l=>exact goes (Lv C X o r e rfl rfl a h sl)
   |bD l p=>rw[e]at D;exact D.elim
   | spawn l=>
     have d:bP P A Fin s 0=G3 P A Fin l:=by unfold bP;rw[if_pos rfl,e]
     rw[d]at h;exact goes (Iv o r e a h sl)
   |parked=>rw[e]at D;exact D.elim
   | recv=>
     rw[nW e]at h;obtain⟨g₂,z,T,r2,r3,r4⟩:=Lw h
     by_cases I:∃j,j<A.n/\s.w j=.wait
     . obtain⟨j,u,E⟩:=I
       exact goes (Ly o r e u E a T h sl)
     . by_cases H:s.c=.gone
       . obtain⟨ops,x,Q,gs',w',m,k',O',g',R,e3⟩:=QI o r e H a h sl
         exact⟨ops,x,Q,.inr ⟨gs',w',m,k',O',g',R,e3⟩⟩
       . exact goes (Lz o r e (λj u E=>I ⟨j,u,E⟩) H a T r2 r3 r4 sl)
 . cases e:s.w j with
   | run b X0=>
     have d:=nR (Fin:=Fin) u e;have G:=h;rw[d]at G
     rcases G with G|G|⟨rfl,U,g₂,z,v,V,W,ht⟩
     . exact goes (Ik CM XM F o r u e (Y:=⟨bP P A Fin s (A.b+j),_,_,g,N,K,h,c⟩) L G sl)
     . exact goes (Dw CM XM F o r u e (Y:=⟨bP P A Fin s (A.b+j),_,_,g,N,K,h,c⟩) L G sl)
     . have hb:b=false:=by
        cases b with
        |false=>rfl
        |true=>exact absurd U (hE.xJ j u (by rw[e];rfl))
       subst hb
       by_cases D:s.ms=.parked
       . exact goes (Lx o r u e D a V W ht sl)
       . exact goes (OT o r u e D a V U W ht sl)
   |Ah=>have d:=DG (Fin:=Fin) u e;rw[d]at h;exact goes (Ir C X o r u e a h sl)
   |_=>rw[e]at E;exact E.elim
 . cases e:s.c with
   |eU=>rw[Hd e]at h;exact goes (Iq C X o r e rfl rfl a h sl)
   | kF=>
     rw[Hc (by rw[e];simp)]at h
     exact goes (LA o r e a h sl)
   |_=>rw[e]at H;exact H.elim
include C X CM XM F in
theorem Iy(a:A.b+A.n+1<=Z.lk)(sl:Option (Nat × Nat))(i:Nat){g:Goroutine}(d:bJ (cB P A Fin Z a) Z s f q kk OO J M gs w t)(z:fE P A s i)(k:gs[i]?=some g)(m:Tr P A Fin s i (kk i) (OO i) g):
 Goes P A Fin Z a s gs w t sl i\/FA P A s gs w sl i g:=by
 have hb:=A.hb;rcases z with⟨rfl,B⟩|⟨j,o,rfl,z⟩|⟨rfl,D⟩
 . rcases m with⟨_,h⟩|⟨l,r,E,_⟩|⟨r,_⟩
   . cases e:s.ms with
     |bD l p=>rw[e]at h;exact .inl (DD C X a d e k h sl)
     |_=>rw[e]at B;exact B.elim
   . omega
   . omega
 . rcases m with⟨r,_⟩|⟨l,r,E,h⟩|⟨r,_⟩
   . omega
   . obtain rfl:l=j:=by omega
     cases e:s.w l with
     | lk p Y=>
       rw[e]at h;by_cases u:p=.la
       . subst u;exact .inl (OG CM XM F a d o e k h sl)
       . exact OD CM XM a d o e k h u sl
     | un p Y=>
       rw[e]at h;by_cases v:p=.ur
       . subst v;exact .inl (OH CM XM a d o e k h sl)
       . by_cases x:p=.ue
         . subst x;exact .inl (OF CM XM F a d o e k h sl)
         . exact .inl (OE CM XM a d o e k h v x sl)
     |dn p=>rw[e]at h;exact .inl (OM C X a d o e k h sl)
     |_=>rw[e]at z;exact z.elim
   . omega
 . rcases m with⟨r,_⟩|⟨l,r,E,h⟩|⟨_,h⟩
   . omega
   . omega
   . cases e:s.c with
     | wt p=>
       rw[e]at h;by_cases y:p=.wa
       . subst y;exact .inl (OQ C X a d e k h sl)
       . exact OP C X a d e y k h sl
     |_=>rw[e]at D;exact D.elim
include C X CM XM F in
theorem LB(d:A.b+A.n+1<=Z.lk)(a:bJ (cB P A Fin Z d) Z s f q kk OO J M gs w t)(sl:Option (Nat × Nat)):
 ∃N gs' w' j m k' O' g',runNT P N (crowd gs w sl) t=(.next (crowd gs' w' j),m)/\eQ P Z.W0 k' O' g' gs' w' m/\Fin k' O' g':=
 KQ (bm (P:=P) (A:=A) (Fin:=Fin) (Z:=Z) d) Fin (λa=>BQ d a) (by intro s f q kk OO J M gs w t sl i k O g N o h c a p r;exact Ix C X CM XM F d sl i o h c a p r)
  (by
    intro s f q kk OO J M gs w t sl i g a u v l _;rcases Iy C X CM XM F d sl i a u v l with⟨ops,x,y,z⟩|⟨hd,e⟩
    . exact⟨ops,x,y,.inl z⟩
    . exact⟨_,_,e,.inr (.inr ⟨hd,rfl,rfl⟩)⟩) s _ f _ q kk OO J M gs w sl t rfl rfl a
end
end Go.bd
