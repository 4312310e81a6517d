import Derived.Test.YtldmpfccgajobaaGreatDoorC23
set_option linter.all false
namespace Go.aR
open Go.Conc
open Go.ConcN (sumTo upd sumTo_upd upd_ne upd_same)
def iT(c:Nat):Array Event:=#[⟨.obj c,false,true⟩,⟨.obj c,true,true⟩]
theorem nf(i:Nat)(fn:FuncId)(pos:String)(c:Nat):MemOp.ofEvents i fn pos (iT c)=#[{g:=i,fn:=fn,pos:=pos,act:=.access ⟨.obj c,false,true⟩},{g:=i,fn:=fn,pos:=pos,act:=.close c}]:=by rw[ofEvents_eq];simp[iT,MemAct.ofEvent]
theorem fZ{i:Nat}{fn:FuncId}{pos:String}{c:Nat}{op:MemOp}(h:op∈MemOp.ofEvents i fn pos (iT c)):op.g=i/\(op.act≠.mark .disable/\op.act≠.mark .enable)/\(∀a,op.act.touch?=some a->a.loc=.obj c/\a.kind=.atomic)/\(∀B,c<B->op.act.low B)/\∀a,op.act≠.mark (.release a):=by
 rw[nf]at h;simp only[List.mem_toArray,List.mem_cons,List.not_mem_nil,or_false]at h;rcases h with rfl|rfl
 . exact⟨rfl,⟨by simp,by simp⟩,λa b=>by simp only[MemAct.touch?,Option.some.injEq]at b;subst b;exact⟨rfl,rfl⟩,λB d=>d,by simp⟩
 . exact⟨rfl,⟨by simp,by simp⟩,λa b=>(by cases b),λB d=>d,by simp⟩
section
variable{P:Program}{A:eD}{Fin:ah->aj->Goroutine->Prop}{Z:Base}{s s':MS P}{f f':Nat->Node P}{q q':Nat->Nat}{kk kk':Nat->ah}{OO OO':Nat->aj}{J J' M M':Nat->Prop}{gs gs':Array Goroutine}{w w':World}{t u:Trace}{j:Nat}{g g₂:Goroutine}{z v:Value}
theorem dS.again{k:ah}{O:aj}{g g₂:Goroutine}{z b:Value}(h:dS P A k O g g₂ z)(a:g.status=.running)(sh:CommShape):dS P A k O {parked g #[rcase A.cF b] sh with status:=.running} g₂ z:=λw c=>by
 rw[stepG_tries];have:({g with status:=.running}:Goroutine)=g:=by cases g;simp only at a;subst a;rfl
 rw[this];exact h w c
theorem Hb{m:Nat}{R:List Nat}{k:ah}{O:aj}{g:Goroutine}{z:Value}{sh:CommShape}{N:ah->aj->Goroutine->Prop}(h:(qW P A Fin m R).dH k O g N)(e:g.status=.running):
 T P (qW P A Fin m R) jn k O {parked g #[rcase A.cF z] sh with status:=.running}:=by
 refine .dH jn rfl ?_ (λ_ _ _ h=>h.elim);cases m with
 |zero=>obtain⟨_,g₂,y,a,b,c,d⟩:=h;exact⟨rfl,g₂,y,a.again e sh,b,c,d⟩
 |succ m=>obtain⟨_,g₂,y,a,b,c,d⟩:=h;exact⟨rfl,g₂,y,a.again e sh,b,c,d⟩
theorem cE.shut(h:cE Z kk OO J M w t){i c:Nat}{x:Nat}{tm:Bool}(L:∀l,J l->l=i)(A:∀p,¬M p)(z:w.heap[c]?=some (.chan 0 #[] false x x tm))(G:∀l,OO l c=none)(B:∀n b,touchAt t n=some b->b.loc=.obj c->b.kind=.plain->Knows t i n)(H:Z.W0.heap.size<=c)(fn:FuncId)(pos:String):
 cE Z kk OO (λ_=>False) (λp=>p=t.size+1) {w with heap:=w.heap.setIfInBounds c (.chan 0 #[] true x x tm)} (t++MemOp.ofEvents i fn pos (iT c)):=by
 have r:c<w.heap.size:=(Array.getElem?_eq_some_iff.1 z).1;have q:(MemOp.ofEvents i fn pos (iT c))[1]?=some {g:=i,fn:=fn,pos:=pos,act:=.close c}:=by rw[nf];rfl
 have f:∀b,(w.heap.setIfInBounds c (.chan 0 #[] true x x tm))[b]?=if b=c then some (.chan 0 #[] true x x tm)else w.heap[b]?:=λb=>by
  by_cases k:b=c
  . subst k;rw[if_pos rfl];exact Array.getElem?_setIfInBounds_self_of_lt r
  . rw[if_neg k];exact Array.getElem?_setIfInBounds_ne (Ne.symm k)
 refine h.tL (λa b=>a=b) (by simp) ⟨⟨.refl _,rfl⟩,λb hb=>by show(w.heap.setIfInBounds c (.chan 0 #[] true x x tm))[b]?=_;rw[f,if_neg (by omega)]⟩ (λb=>?_) (λop d=>(fZ d).2.2.2.1 _ r) (λa b e n y _ _ _ N=>by subst e;exact N.app _) (λj b n v h=>⟨j,rfl,h⟩) (λj b s h=>⟨j,rfl,h⟩) (λj b x h=>⟨j,rfl,h,λ_ h=>h⟩) h.jF
  (λsaid=>noRace_append (h.clean said) (λop d=>(fZ d).1) λn a u op d b hb z=>?_) (λop d a u I=>?_) (λm op a d u I=>?_) (λn a u I O=>?_)
 . show Kept kk OO w _ b
   unfold Kept;rw[f];by_cases k:b=c
   . subst k
     exact .inr (.inl ⟨⟨_,_,_,_,_,_,z⟩,⟨_,_,_,_,_,_,by rw[f,if_pos rfl]⟩,G⟩)
   . rw[if_neg k];exact .inl rfl
 . obtain⟨C,D⟩:=(fZ d).2.2.1 b hb
   obtain⟨P,_,_,c4⟩:=z;rcases c4 with c4|c4|⟨_,_,c4⟩
   . exact B n a u (P.trans C) c4
   . rw[D]at c4;cases c4
   . rw[D]at c4;cases c4
 . obtain⟨C,D⟩:=(fZ d).2.2.1 a u
   rw[C];exact⟨r,λl o K=>by rw[G l]at K;cases K⟩
 . refine .inr (.inr (.inl ⟨t.size+1,rfl,?_⟩))
   have E:m=0:=by
    rw[nf]at d
    match m,d with
    |0,_=>rfl
    |1,d=>simp at d;subst d;simp[MemAct.touch?]at u
    |m+2,d=>simp at d
   subst E;exact .inr (hb_po (by omega) (dB (m:=0) d) (dB (m:=1) q) (fZ (Array.mem_of_getElem? d)).1)
 . rcases O with⟨l,F,Q⟩|⟨p,F,_⟩
   . obtain rfl:=L l F
     exact .inr (.inr (.inl ⟨t.size+1,rfl,mg (m:=1) Q q rfl⟩))
   . exact absurd F (A p)
theorem J5(hZ:A.b+A.n+1<=Z.lk)(Y:bI (cG P A Fin Z hZ) Z s f q kk OO J M gs w t)(K:s.c=.kK)(hg:gs[A.b+A.n]?=some g){N:ah->aj->Goroutine->Prop}(ht:(rI P A).dH (kk (A.b+A.n)) (OO (A.b+A.n)) g N)(sl:Option (Nat × Nat)):
 Goes P A Fin Z hZ s gs w t sl (A.b+A.n):=by
 have d:dw P A Z s kk OO J M gs.size w t:=Y.ex;have hb:=A.hb;obtain⟨rfl,g',nq,b2,hs,hq⟩:=ht;obtain⟨x,tm,hF⟩:=d.xP;have b3:s.c.eL=false:=by rw[K];rfl
 rw[b3]at hF;obtain⟨c0,v0,m0,B⟩:=d.I.g8 (by rw[K];rfl)
 have U:s.sp=A.n/\(s.ms=.recv\/s.ms=.parked):=by
  have:=d.I.ms;cases e:s.ms with
  |recv=>rw[e]at this;exact⟨this.1,.inl rfl⟩
  |parked=>rw[e]at this;exact⟨this.1,.inr rfl⟩
  |add l=>rw[e]at this;rw[K]at this;cases this.2
  |bw l p=>rw[e]at this;rw[K]at this;cases this.2.1
  |spawn l=>rw[e]at this;rw[K]at this;cases this.2
 have b4:=(Array.getElem?_eq_some_iff.1 hg).1;obtain⟨_,_,_,_,_,_,hd,_⟩:=Y.live _ (ub (.inl K));have b5:(A.b+A.n==0)=false:=by simp;omega
 have b6:A.cF<w.heap.size:=(Array.getElem?_eq_some_iff.1 hF).1;have L:=runT_crowd_go (P:=P) (sl:=sl) (i:=A.b+A.n) hg (by rw[b5];exact hs w x x tm (Y.cK.sat _) hF)
 obtain⟨w',al⟩:∃w',w'={w with heap:=w.heap.setIfInBounds A.cF (.chan 0 #[] true x x tm)}:=⟨_,rfl⟩
 have hP:=Y.cK.shut (i:=A.b+A.n) (c:=A.cF) (x:=x) (tm:=tm) (λl R=>by
  rcases(d.hJ l).1 R with⟨j,C,E,r⟩|⟨C,_⟩
  . rw[B j C]at r;cases r
  . exact C) (λp hp=>by
  obtain⟨_,_,r⟩:=d.hM p hp
  rcases r with⟨_,r⟩|⟨r,_⟩
  . rw[K]at r;rcases r with r|r|⟨_,r⟩<;>cases r
  . rw[K]at r;cases r) hF (λl=>(d.gF l).1) (λn b hb R O=>d.quiet n b hb (by rw[R];rfl) O _ (FK (by rw[K];simp))) d.fq.1 g.frame.fn g.frame.place
 rw[<-al]at L hP
 change runT P (crowd gs w sl) (A.b+A.n)=(_,MemOp.ofEvents (A.b+A.n) g.frame.fn g.frame.place (iT A.cF))at L
 have hu:mf (MemOp.ofEvents (A.b+A.n) g.frame.fn g.frame.place (iT A.cF)):=λop h=>(fZ h).2.1
 have v:∀b,w'.heap[b]?=if b=A.cF then some (.chan 0 #[] true x x tm)else w.heap[b]?:=λb=>by
  rw[al]
  by_cases a8:b=A.cF
  . subst a8;rw[if_pos rfl];exact Array.getElem?_setIfInBounds_self_of_lt b6
  . rw[if_neg a8];exact Array.getElem?_setIfInBounds_ne (Ne.symm a8)
 have av:g'.status≠.blocked/\g'.status≠.waiting:=by rcases hq.status with h|h<;>rw[h]<;>simp
 have b7:∀o,woken P g g' w' o=o.again w':=λo=>by unfold Go.Conc.woken;rw[if_pos];simp[b2,av.1,av.2]
 have V:∀i o,gs[i]?=some o->i≠0->i≠A.b+A.n->woken P g g' w' o=o:=λi o ho S hn=>by
  have nl:¬dK P A s i:=by
   rintro(⟨e,_⟩|⟨l,C,E,r⟩|⟨e,_⟩)
   . exact S e
   . rw[B l C]at r;exact r
   . exact hn e
  have nw:¬fX P A s i:=by
   rintro(⟨e,_⟩|⟨l,C,E,r⟩|⟨e,_⟩)
   . exact S e
   . rw[B l C]at r;exact r
   . exact hn e
  have nh:¬fj P A s i:=by
   rintro(⟨e,_⟩|⟨l,C,E,r⟩)
   . exact S e
   . rw[B l C]at r;cases r
  exact woken_quitsD (Y.rest i o ho nl nw nh).2
 have b8:∀i,¬(i=0\/i=A.b+A.n)->((gs.map (woken P g g' w')).setIfInBounds (A.b+A.n) g')[i]?=gs[i]?:=λi D=>by
  rw[Array.getElem?_setIfInBounds_ne (λe=>D (.inr e.symm)),Array.getElem?_map]
  cases hg:gs[i]? with
  |none=>rfl
  |some o=>simp only[Option.map_some,V i o hg (λe=>D (.inl e)) (λe=>D (.inr e))]
 have a9:((gs.map (woken P g g' w')).setIfInBounds (A.b+A.n) g')[A.b+A.n]?=some g':=Array.getElem?_setIfInBounds_self_of_lt (by simpa using b4)
 obtain⟨s',u⟩:∃s':MS P,s'={s with c:=.gone,ms:=.recv}:=⟨_,rfl⟩
 have W:s'.ms=.recv:=by rw[u]
 have G:s'.w=s.w:=by rw[u]
 have F:s'.c=.gone:=by rw[u]
 have ax:MS.rem P A.n s'=MS.rem P A.n s:=Ep λl _=>by rw[G]
 obtain⟨d0,g0,b9,tr,_⟩:Deaf t 0=0/\∃g0,((gs.map (woken P g g' w')).setIfInBounds (A.b+A.n) g')[0]?=some g0/\∃tr:TT P (qW P A Fin (MS.rem P A.n s).length (MS.rem P A.n s)) (kk 0) (OO 0) g0,True:=by
  rw[Array.getElem?_setIfInBounds_ne (by omega),Array.getElem?_map]
  rcases U.2 with hm|hm
  . obtain⟨_,p1,pm,pk,pO,p2,p3,_⟩:=Y.live 0 (ji hm)
    have pm:(f 0).m=bM P A Fin s 0:=pm;rw[oi hm]at pm;refine⟨p3,(f 0).g,by rw[p1,Option.map_some,woken_run p2],?_⟩
    rw[<-pm,<-pk,<-pO];exact⟨(f 0).t,trivial⟩
  . obtain⟨_,_,_,p3,gp,p4,_,p5⟩:=Y.held 0 (.inl ⟨rfl,hm⟩)
    rcases p5 with⟨_,gm,zm,rfl,p6,p7,p8⟩|⟨l,C,E,_⟩
    . rw[p4]
      refine⟨p3,_,rfl,?_⟩;rw[b7,again_recv_closed (by rw[v,if_pos rfl])]
      obtain⟨tr⟩:=T.tree (wW (P:=P) (A:=A) (Fin:=Fin) _ _) (Hb (z:=zm) (sh:=.recv true) p8 p7);exact⟨tr,trivial⟩
    . omega
 have hI:bQ A.n s':=by
  rw[u];refine⟨?_,d.I.g2,λh=>(by have h:s.gv=1:=h;omega),d.I.g3,d.I.mE,λi D h=>(by have h:s.w i=.dn .d7:=h;rw[B i D]at h;cases h),⟨d.I.g5.1,λh=>(by have h:s.gm=1:=h;omega)⟩,λh=>(by cases h),d.I.g7,λ_=>⟨c0,v0,m0,B⟩,λk h=>(by cases h),d.I.ok,rfl,d.I.sp,d.I.idle,⟨U.1,by simp⟩,λh=>(by cases h),d.I.mu⟩
  have:=d.I.g1;show s.gc=sumTo A.n (λj=>(s.w j).cnt)+pv.recv.pend
  rcases U.2 with e|e<;>rw[e]at this<;>exact this
 have a7:(MemOp.ofEvents (A.b+A.n) g.frame.fn g.frame.place (iT A.cF))[1]?=some {g:=A.b+A.n,fn:=g.frame.fn,pos:=g.frame.place,act:=.close A.cF}:=by rw[nf];rfl
 have Q:(t++MemOp.ofEvents (A.b+A.n) g.frame.fn g.frame.place (iT A.cF)).act? (t.size+1)=some (.close A.cF)/\(t++MemOp.ofEvents (A.b+A.n) g.frame.fn g.frame.place (iT A.cF)).heard (t.size+1):=⟨act?_of (dB (m:=1) a7),heard_new (m:=1) hu a7 hd⟩
 have ay:∀i,bR P A s' i->bR P A s i:=λi D=>by
  rcases D with S|⟨j,C,E⟩|⟨C,E⟩
  . exact .inl S
  . exact .inr (.inl ⟨j,by rw[u]at C;exact C,E⟩)
  . exact .inr (.inr ⟨C,by rw[K];simp⟩)
 have b0:∀i,bR P A s i->bR P A s' i:=λi D=>by
  rcases D with S|⟨j,C,E⟩|⟨C,E⟩
  . exact .inl S
  . exact .inr (.inl ⟨j,by rw[u];exact C,E⟩)
  . exact .inr (.inr ⟨C,by rw[F];simp⟩)
 have b1:∀op∈MemOp.ofEvents (A.b+A.n) g.frame.fn g.frame.place (iT A.cF),∀a,op.act.touch?=some a->a.kind=.atomic:=λop H a X=>((fZ H).2.2.1 a X).2
 have bq:dw P A Z s' kk OO (λ_=>False) (λp=>p=t.size+1) ((gs.map (woken P g g' w')).setIfInBounds (A.b+A.n) g').size w' (t++MemOp.ofEvents (A.b+A.n) g.frame.fn g.frame.place (iT A.cF)):=by
  refine⟨hI,?_,⟨x,tm,by rw[v,if_pos rfl,F];rfl⟩,?_,?_,?_,?_,d.gF,d.eu,λi y hy=>?_,λl R ad=>d.wI l R (by rw[<-G];exact ad),λad=>d.JL λl R=>by rw[<-G];exact ad l R,λc hc=>?_,λi=>?_,λp hp=>?_,λ_=>⟨t.size+1,rfl,Q⟩,λm a X hs O i D=>d.jH _ (λop H a X _ O=>by rw[b1 op H a X]at O;cases O) m a X hs O i (ay i D),λm a X hs O=>?_,λi D=>d.oO _ i (ay i D),d.iM _ (λop H=>(fZ H).2.2.2.2),λi bz hn=>d.Ck i bz λh=>hn (b0 i h),d.rB,d.kb,d.fq,d.la,by simp;exact Nat.le_trans d.n0 (Nat.le_add_right _ _)⟩
  . have:=d.size
    rw[K]at this;rw[F];simp only[Array.size_setIfInBounds,Array.size_map,jT.isNone]at this ⊢;rw[u];exact this
  . rw[show s'.sh=s.sh by rw[u]];exact d.mu.same (.of_heap (by rw[v,if_neg (Ne.symm A.d1)]))
  . rw[show s'.gc=s.gc by rw[u],show s'.gv=s.gv by rw[u],show s'.gm=s.gm by rw[u]];exact d.gr.same (.of_heap (by rw[v,if_neg (Ne.symm A.d2)]))
  . rw[v,if_neg (Ne.symm A.d1)];exact d.uQ
  . rw[v,if_neg (Ne.symm A.d2)];exact d.ya
  . rw[G];exact d.tok i y hy
  . rw[G];exact d.Ir c hc
  . refine⟨λh=>h.elim,?_⟩
    rintro(⟨j,C,E,r⟩|⟨C,E⟩)
    . rw[G,B j C]at r;cases r
    . rw[F]at E;cases E
  . subst hp
    exact⟨Q.2,by have:=d.n0;omega,.inr ⟨F,Q.1⟩⟩
  . have S:=d.m5 _ (λop H a X _ O=>by rw[b1 op H a X]at O;cases O) m a X hs O
    rw[K]at S;rw[F];exact S
 have hL:MS.ik A.n s' s:=by
  refine .inl ?_;rw[u];show pv.recv.cS+sumTo A.n (λi=>(s.w i).cS)+jT.gone.cS s.gc<s.ms.cS+sumTo A.n (λi=>(s.w i).cS)+s.c.cS s.gc
  rw[K];have e2:pv.recv.cS=100:=rfl;have e3:jT.gone.cS s.gc=0:=rfl;have e4:jT.kK.cS s.gc=3:=rfl;have e5:99<=s.ms.cS:=by rcases U.2 with e|e<;>rw[e]<;>simp[pv.cS]
  omega
 have hS:ir A s s' (λi=>i=0\/i=A.b+A.n):=⟨λl _ R=>by rw[G],λh=>absurd (.inr rfl) h,λh=>absurd (.inl rfl) h,by rw[u],by rw[u]⟩
 refine⟨_,_,L,s',bO f 0 ⟨_,_,_,_,tr⟩,upd q (A.b+A.n) nq,kk,OO,λ_=>False,(λp=>p=t.size+1),_,_,_,rfl,hL,?_⟩
 refine Y.G8 hu hP bq (by simp) (λi=>i=0\/i=A.b+A.n) b8 (lR hZ hS (λi D=>au _ _ (λe=>D (.inl e))) (λi D=>upd_ne q nq (λe=>D (.inr e))) (λ_ _ _=>rfl) (λ_ _ _=>rfl) (λi D R _=>?_)) (λi D=>?_)
 . rcases R with⟨e,_⟩|⟨l,C,E,r⟩|⟨e,_⟩
   . exact absurd (.inl e) D
   . rw[B l C]at r;exact r.elim
   . exact absurd (.inr e) D
 . rcases D with rfl|rfl
   . refine⟨g0,b9,λ_=>?_,λh=>absurd h (sP (.inl W)),λh=>absurd h (na (by rw[W];simp)),λh=>absurd (ji W) h⟩
     rw[ap];refine⟨by show 0<A.b+A.n+1;omega,rfl,?_,rfl,rfl,tr.running,by rw[cj hu];exact d0,.inl rfl,CD⟩
     show qW P A Fin _ _=bM P A Fin s' 0;rw[oi W,ax]
   . refine⟨g',a9,λh=>absurd h ?_,λh=>absurd h ?_,λh=>absurd h sL,λ_ _ _=>⟨by omega,by rw[upd_same,cj hu,hd];exact hq⟩⟩
     . rintro(⟨e,_⟩|⟨l,C,E,r⟩|⟨_,r⟩)
       . omega
       . omega
       . rw[F]at r;exact r
     . rintro(⟨e,_⟩|⟨l,C,E,r⟩|⟨_,r⟩)
       . omega
       . omega
       . rw[F]at r;exact r
end
section
variable{P:Program}{A:eD}{Fin:ah->aj->Goroutine->Prop}{Z:Base}{s s':MS P}{f f':Nat->Node P}{q q':Nat->Nat}{kk kk':Nat->ah}{OO OO':Nat->aj}{J J' M M':Nat->Prop}{gs gs':Array Goroutine}{w w':World}{t u:Trace}{j:Nat}{g g₂:Goroutine}{z v:Value}
theorem sR{w:World}{b i:Nat}{c:Array Value}{e:TypeId}{v:Value}(h:w.heap[b]?=some (.cells c e (0,0)))(a:w.cell? ⟨b,i,none⟩=some v):c[i]?=some v:=by simpa[World.cell?,h]using a
theorem CF{w:World}{b:Nat}{c:Array Value}{e:TypeId}(h:w.heap[b]?=some (.cells c e (0,0))):w.shape? b=some (e,c.size):=by simp[World.shape?,h]
theorem OW(hZ:A.b+A.n+1<=Z.lk)(B:bI (cG P A Fin Z hZ) Z s f q kk OO J M gs w t)(hm:s.ms=.recv)(Y:s.c=.gone)(hg:gs[0]?=some g){N:ah->aj->Goroutine->Prop}(ht:(qW P A Fin (MS.rem P A.n s).length (MS.rem P A.n s)).dH (kk 0) (OO 0) g N)(sl:Option (Nat × Nat)):
 ∃ops m',runT P (crowd gs w sl) 0=(.next m',ops)/\∃gs' w' b3 k' O' g',m'=crowd gs' w' b3/\fA P Z.W0 k' O' g' gs' w' (t++ops)/\Fin k' O' g':=by
 have C:dw P A Z s kk OO J M gs.size w t:=B.ex;have hb:=A.hb;have F:(0:Nat)≠Z.lk:=by omega
 obtain⟨c0,v0,m0,d⟩:=C.I.g8 (by rw[Y];rfl)
 obtain⟨xs,tm,hF⟩:=C.xP;rw[show s.c.eL=true by rw[Y];rfl]at hF
 have a7:MS.rem P A.n s=[]:=by
  cases hr:MS.rem P A.n s with
  |nil=>rfl
  | cons a l=>
    have:a∈MS.rem P A.n s:=by rw[hr];simp
    obtain⟨e1,e2⟩:=sN.1 this;rw[d a e1]at e2;cases e2
 rw[a7]at ht;obtain⟨_,g₂,z,e1,_,e3,⟨es,a8⟩,e4⟩:=ht;have b4:=(Array.getElem?_eq_some_iff.1 hg).1;obtain⟨_,_,_,_,_,_,d0,_⟩:=B.live _ (ji hm);have T:=crowd_recv_closed (P:=P) (sl:=sl) hg (show stepG P (0==0) g w=_ from e1 w (B.cK.sat 0)) hF (oT λi x _ hx=>uU hZ B hx (λj D L h3=>by rw[d j D]at h3;cases h3) _)
 rw[iu]at T;obtain⟨u,U⟩:∃u:Trace,u=#[{g:=0,fn:=g₂.frame.fn,pos:=g₂.frame.place,act:=.recvClosed A.cF}]:=⟨_,rfl⟩;have V:runT P (crowd gs w sl) 0=(.next (crowd (gs.setIfInBounds 0 (g₂.finishComm P #[rcase A.cF z] (.recv true) 0 z false)) w sl),u):=by rw[T,U];simp
 have b5:A.cF<w.heap.size:=(Array.getElem?_eq_some_iff.1 hF).1;have G:∀op∈u,op={g:=0,fn:=g₂.frame.fn,pos:=g₂.frame.place,act:=.recvClosed A.cF}:=λop h=>by rw[U]at h;simpa using h
 have hu:mf u:=λop h=>by rw[G op h];exact⟨by simp,by simp⟩
 have b6:u[0]?=some {g:=0,fn:=g₂.frame.fn,pos:=g₂.frame.place,act:=.recvClosed A.cF}:=by rw[U];rfl
 have Q:∀op∈u,op.act.touch?=none:=λop h=>by rw[G op h];rfl
 have a9:∀i,¬J i:=λi hi=>by
  rcases(C.hJ i).1 hi with⟨a,R,a2,o⟩|⟨_,o⟩
  . rw[d a R]at o;cases o
  . rw[Y]at o;cases o
 have al:∀p n,M p->Before t n p->Knows (t++u) 0 n:=λp n hp hk=>by
  obtain⟨R,_,o⟩:=C.hM p hp
  rcases o with⟨_,a4⟩|⟨_,a4⟩
  . rw[Y]at a4;rcases a4 with a4|a4|⟨_,a4⟩<;>cases a4
  . exact Ax (t:=t) hu (m:=0) (y:={g:=0,fn:=g₂.frame.fn,pos:=g₂.frame.place,act:=.recvClosed A.cF}) b6 a4 R rfl d0 hk
 have H:∀n a,touchAt t n=some a->a.loc.isMemory=true -> ¬Z.Shun a.loc->Knows (t++u) 0 n:=λn a O hm hz=>by
  rcases B.cK.acc n a O hm with h|⟨j,hj,_⟩|⟨p,hp,h⟩|⟨h,_⟩
  . exact h.app u
  . exact absurd hj (a9 j)
  . exact al p n hp h
  . exact absurd h hz
 obtain⟨x,a,hx,b7,b8⟩:=C.JL λj hj=>by rw[d j hj];rfl
 have cg:∀c,OO Z.lk c≠none->c=A.mb:=λc h=>(C.Ir c h).1
 have av:∀i,OO i A.fb=none:=λi=>by
  cases e:OO i A.fb with
  |none=>rfl
  |some y=>obtain⟨j,_,D,_,L,_⟩:=C.tok i y e;rw[d j D]at L;cases L
 have b9:cE Z (bO kk 0 ((kk 0).join (kk Z.lk))) (bO (bO OO 0 ((OO 0).set A.mb x)) Z.lk aj.bot) (λ_=>False) (λ_=>False) w (t++u):=by
  have S:∀j b y,bO (bO OO 0 ((OO 0).set A.mb x)) Z.lk aj.bot j b=some y->(j≠Z.lk/\OO j b=some y/\¬(j=0/\b=A.mb))\/(j=0/\b=A.mb/\y=x):=λj b y r=>by
   by_cases e:j=Z.lk
   . subst e;rw[ap]at r;cases r
   . rw [au _ _ e]at r
     by_cases e0:j=0
     . subst e0
       rw[ap]at r
       by_cases eb:b=A.mb
       . subst eb
         simp only[aj.set,if_true,Option.some.injEq]at r;exact .inr ⟨rfl,rfl,r.symm⟩
       . simp only[aj.set,if_neg eb]at r
         exact .inl ⟨e,r,λh=>eb h.2⟩
     . rw[au _ _ e0]at r
       exact .inl ⟨e,r,λh=>e0 h.1⟩
  refine B.cK.tL (λa b=>a=b\/(a=Z.lk/\b=0)) rfl ⟨⟨.refl _,rfl⟩,λ_ _=>rfl⟩ (λb=>.inl rfl) (λop h=>by rw[G op h];exact b5) (λi j e n y r ax hz bq=>?_) (λj b n v k=>?_) (λj b s k=>?_) (λj b y r=>?_) (λi j b y ay r=>?_)
   (λsaid=>noRace_appendMute (B.cK.clean said) Q) (λop K a O=>by rw[Q op K]at O;cases O) (λm op a K O=>by rw[Q op (Array.mem_of_getElem? K)]at O;cases O) (λn a O ax h=>?_)
  . rcases e with rfl|⟨rfl,rfl⟩
    . exact bq.app u
    . exact(oD F).2 (H n y r ax hz)
  . by_cases e:j=0
    . subst e
      rw[ap]at k
      rcases ah.lN k with k|k
      . exact⟨_,.inl rfl,k⟩
      . exact⟨Z.lk,.inr ⟨rfl,rfl⟩,k⟩
    . rw[au _ _ e]at k;exact⟨j,.inl rfl,k⟩
  . by_cases e:j=0
    . subst e
      rw[ap]at k
      rcases ah.Av k with k|k
      . exact⟨_,.inl rfl,k⟩
      . exact⟨Z.lk,.inr ⟨rfl,rfl⟩,k⟩
    . rw[au _ _ e]at k;exact⟨j,.inl rfl,k⟩
  . rcases S j b y r with⟨D,L,h3⟩|⟨rfl,rfl,rfl⟩
    . refine⟨j,.inl rfl,L,λs hs=>?_⟩
      by_cases e:j=0
      . subst e;rw[ap];exact(ah.mX _ _).sh b s hs
      . rw[au _ _ e];exact hs
    . refine⟨Z.lk,.inr ⟨rfl,rfl⟩,hx,λs hs=>?_⟩
      rw[ap];exact(ah.pN (B.cK.sat 0) (B.cK.sat Z.lk)).sh _ s hs
  . cases q:bO (bO OO 0 ((OO 0).set A.mb x)) Z.lk aj.bot j b with
    |none=>rfl
    | some y'=>
      rcases S i b y r with⟨D,L,h3⟩|⟨rfl,rfl,rfl⟩
      . rcases S j b y' q with⟨k1,k2,k3⟩|⟨rfl,rfl,rfl⟩
        . have:=B.cK.jF i j b y ay L
          rw[k2]at this;cases this
        . have:=B.cK.jF i Z.lk _ y D L
          rw[hx]at this;cases this
      . rcases S j A.mb y' q with⟨k1,k2,k3⟩|⟨rfl,_,_⟩
        . have:=B.cK.jF j Z.lk _ y' k1 k2
          rw[hx]at this;cases this
        . exact absurd rfl ay
  . rcases h with⟨j,D,_⟩|⟨p,D,L⟩
    . exact absurd D (a9 j)
    . exact .inl (al p n D L)
 obtain⟨bz,bA⟩:=C.I.mu.rest λi hi=>by rw[d i hi];rfl
 obtain⟨cc,ce,E⟩:=C.uQ
 have b0:es=(ce,cc.size):=by have:=(B.cK.sat 0).sh _ _ a8;rw[CF E]at this;exact(Option.some.inj this).symm
 have bB:cc[A.fo]?=some (.int .i32 0):=by have:=C.mu.cw;rw[bz]at this;exact sR E this
 have c5:cc[A.fo+1]?=some (.int .u32 0):=by have:=C.mu.cs;rw[bA]at this;exact sR E this
 have W:∀n v,bP A.fo n=some v->(n=A.fo\/n=A.fo+1)/\cc[n]?=some v:=λn v k=>by
  unfold bP at k;split at k
  . rename_i e;subst e;rw[<-k];exact⟨.inl rfl,bB⟩
  . split at k
    . rename_i e;subst e;rw[<-k];exact⟨.inr rfl,c5⟩
    . cases k
 have b1:∀n,bP A.fo n≠none->(n=A.fo\/n=A.fo+1):=λn hn=>by
  cases e:bP A.fo n with
  |none=>exact absurd e hn
  |some v=>exact(W n v e).1
 have X:∀i n,(n=A.fo\/n=A.fo+1)->(bO kk 0 ((kk 0).join (kk Z.lk)) i).cell A.fb n=none:=λi n hn=>by
  have hk:∀l,(kk l).cell A.fb n=none:=λl=>by rcases hn with h|h<;>rw[h]<;>first|exact(C.eu l).1|exact(C.eu l).2.1
  cases e:(bO kk 0 ((kk 0).join (kk Z.lk)) i).cell A.fb n with
  |none=>rfl
  | some v=>
    by_cases ei:i=0
    . subst ei
      rw[ap]at e
      rcases ah.lN e with e|e<;>rw[hk]at e<;>cases e
    . rw[au _ _ ei,hk]at e;cases e
 have c6:=b9.Sf F (b:=A.fb) (f:=bP A.fo) (λi=>?_) (λn v k i=>X i n (W n v k).1) (λad c7 hf=>C.kb ad ⟨c7,b1 _ hf⟩) ⟨cc,ce,E,?_,λn v k=>(W n v k).2⟩ (λm a ad O hl c8 hf=>?_) C.fq.2.1
 . obtain⟨g1,b2⟩:∃g1,g1=g₂.finishComm P #[rcase A.cF z] (.recv true) 0 z false:=⟨_,rfl⟩
   have ca:∀i,0<i -> ¬dK P A s i/\¬fX P A s i/\¬fj P A s i:=λi hi=>by
    refine⟨?_,?_,?_⟩
    . rintro(⟨h,_⟩|⟨a,R,a2,o⟩|⟨_,o⟩)
      . omega
      . rw[d a R]at o;exact o
      . rw[Y]at o;exact o
    . rintro(⟨h,_⟩|⟨a,R,a2,o⟩|⟨_,o⟩)
      . omega
      . rw[d a R]at o;exact o
      . rw[Y]at o;exact o
    . rintro(⟨h,_⟩|⟨a,R,a2,o⟩)
      . omega
      . rw[d a R]at o;cases o
   have hS:=c6.finish (P:=P) (gs:=gs.setIfInBounds 0 g1) (g:=g1) (q:=q) (Array.getElem?_setIfInBounds_self_of_lt b4) ⟨λi y hi r=>by
    rw[Array.getElem?_setIfInBounds_ne (by omega)]at r
    rw[cj hu];obtain⟨n1,n2,n3⟩:=ca i hi;exact(B.rest i y r n1 n2 n3).2,λj hj=>by rw[cj hu];exact B.above j (by simpa using hj)⟩ (by rw[cj hu];exact d0)
   rw[ap,ap,au _ _ F,ap]at hS;refine⟨u,_,V,gs.setIfInBounds 0 g1,w,sl,_,_,g1,by rw[b2],hS,?_⟩
   rw[b2];exact e4 _ x a (ah.mX _ _) (b7.mono (ah.pN (B.cK.sat 0) (B.cK.sat Z.lk))) b8
 . by_cases e:i=Z.lk
   . subst e;rw[ap];rfl
   . rw[au _ _ e]
     by_cases e0:i=0
     . subst e0;rw[ap];simp only[aj.set,if_neg A.d5];exact av 0
     . rw[au _ _ e0];exact av i
 . rw[ap,<-b0];exact(ah.mX _ _).sh _ _ a8
 . have cb:touchAt t m=some a:=by
    rcases mZ O with⟨D,_⟩|⟨op,K,D⟩
    . exact D
    . rw[Q op K]at D;cases D
   exact H m a cb (by rw[hl];rfl) (by rw[hl];exact C.kb ad ⟨c8,b1 _ hf⟩)
end
def sS(n:Nat)(f1 a:FuncId)(b c:String):Trace:=#[{g:=0,fn:=f1,pos:=b,act:=.go n},{g:=n,fn:=a,pos:=c,act:=.start}]
theorem gN{n:Nat}{f1 b:FuncId}{c d:String}{op:MemOp}(h:op∈sS n f1 b c d):op.act.touch?=none/\(op.act≠.mark .disable/\op.act≠.mark .enable)/\(∀B,op.act.low B)/\∀a,op.act≠.mark (.release a):=by
 simp only[sS,List.mem_toArray,List.mem_cons,List.not_mem_nil,or_false]at h;rcases h with rfl|rfl<;>exact⟨rfl,⟨by simp,by simp⟩,λB=>trivial,by simp⟩
theorem bot_join(k:ah):ah.bot.join k=k:=rfl
section
variable{P:Program}{A:eD}{Fin:ah->aj->Goroutine->Prop}{Z:Base}{s s':MS P}{f f':Nat->Node P}{q q':Nat->Nat}{kk kk':Nat->ah}{OO OO':Nat->aj}{J J' M M':Nat->Prop}{gs gs':Array Goroutine}{w w':World}{t u:Trace}{j m:Nat}{g g' g₂ child:Goroutine}{z v:Value}
theorem wY{gs:Array Goroutine}{g' child:Goroutine}(a:0<gs.size):(∀i,i≠0->i≠gs.size->((gs.setIfInBounds 0 g').push child)[i]?=gs[i]?)/\((gs.setIfInBounds 0 g').push child)[0]?=some g'/\((gs.setIfInBounds 0 g').push child)[gs.size]?=some child:=by
 refine⟨λi c b=>?_,?_,?_⟩
 . rw[Array.getElem?_push,if_neg (by simpa using b),Array.getElem?_setIfInBounds_ne (Ne.symm c)]
 . rw[Array.getElem?_push,if_neg (by simp;omega),Array.getElem?_setIfInBounds_self_of_lt a]
 . rw[Array.getElem?_push,if_pos (by simp)]
theorem zk{gs:Array Goroutine}(b:gs[0]?=some g)(c:stepG P true g w=.spawn g' child w #[])(sl:Option (Nat × Nat)):
 runT P (crowd gs w sl) 0=(.next (crowd ((gs.setIfInBounds 0 g').push child) w sl),sS gs.size g.frame.fn child.frame.fn g.frame.place g.frame.place):=by
 have a:=runT_crowd_spawn (P:=P) (sl:=sl) (i:=0) b (show stepG P (0==0) g w=_ from c);rw[iu]at a;exact a
theorem CG(m:Nat):(zf P A Fin m).solo=false:=by cases m<;>rfl
theorem sT(e:s.ms=.add m):dK P A s 0:=.inl ⟨rfl,by rw[e];trivial⟩
theorem wZ(e:s.ms=.spawn m):dK P A s 0:=.inl ⟨rfl,by rw[e];trivial⟩
theorem zn(e:s.ms=.add m):¬fX P A s 0:=by
 have:=A.hb;rintro(⟨_,h⟩|⟨l,a,b,c⟩|⟨h,_⟩)
 . rw[e]at h;exact h
 . omega
 . omega
theorem CH(e:s.ms=.add m):bM P A Fin s 0=zf P A Fin m:=by unfold bM;rw[if_pos rfl,e]
theorem Hc(hZ:A.b+A.n+1<=Z.lk)(L:bI (cG P A Fin Z hZ) Z s f q kk OO J M gs w t)(hm:s.ms=.spawn m)(hg:gs[0]?=some g){N:ah->aj->Goroutine->Prop}(ht:(FF P A Fin m).dH (kk 0) (OO 0) g N)(sl:Option (Nat × Nat)):
 Goes P A Fin Z hZ s gs w t sl 0:=by
 have E:dw P A Z s kk OO J M gs.size w t:=L.ex;have hb:=A.hb;obtain⟨rfl,g',child,hs,O,a7⟩:=ht;have Q:=E.I.ms;rw[hm]at Q;obtain⟨b2,F⟩:=Q;have d:gs.size=A.b+s.sp:=by have:=E.size;rw[F]at this;simpa[jT.isNone]using this
 have u:s.sp<A.n:=by omega
 have hj:A.n-(m+1)=s.sp:=by omega
 rw[hj]at O;obtain⟨R⟩:=T.tree (P:=P) (m:=lG P A s.sp) rfl O;obtain⟨S⟩:=T.tree (CG (P:=P) (A:=A) (Fin:=Fin) m) a7;have a8:=(Array.getElem?_eq_some_iff.1 hg).1;obtain⟨_,_,_,_,_,_,d0,_⟩:=L.live _ (wZ hm);have dn:Deaf t gs.size=0:=L.above _ (Nat.le_refl _);have U:=zk (sl:=sl) hg (hs w (L.cK.sat 0));have hu:mf (sS gs.size g.frame.fn child.frame.fn g.frame.place g.frame.place):=λop h=>(gN h).2.1
 have V:∀n,Knows t 0 n->Knows (t++sS gs.size g.frame.fn child.frame.fn g.frame.place g.frame.place) gs.size n:=λn hn=>uN (t:=t) (c:=0) hu (m1:=0) (m2:=1) (x:={g:=0,fn:=g.frame.fn,pos:=g.frame.place,act:=.go gs.size}) (y:={g:=gs.size,fn:=child.frame.fn,pos:=g.frame.place,act:=.start}) rfl rfl rfl rfl d0 dn hn
 have k:s.w s.sp=.idle:=by have:=(E.I.idle s.sp u).2 (Nat.le_refl _);cases e:s.w s.sp<;>rw[e]at this<;>first|rfl|cases this
 have a9:¬bR P A s gs.size:=by
  rintro(h|⟨l,z,r⟩|⟨z,r⟩)
  . omega
  . omega
  . exact r F
 obtain⟨fk,fO⟩:=E.Ck gs.size (by omega) a9
 obtain⟨X,hX⟩:∃X:Node P,X=⟨lG P A s.sp,kk 0,aj.bot,child,R⟩:=⟨_,rfl⟩;obtain⟨s',o⟩:∃s',s'=s.lg s.sp (.run false X) (.add m) (s.sp+1):=⟨_,rfl⟩;have B:s'.w s.sp=.run false X:=by rw[o,fS]
 have K:∀{l:Nat},l≠s.sp->s'.w l=s.w l:=λh=>by rw[o,jJ h]
 have C:s'.c=s.c:=by rw[o];rfl
 have G:s'.ms=.add m:=by rw[o];rfl
 have W:s'.sp=s.sp+1:=by rw[o];rfl
 have hI:bQ A.n s':=by rw[o];refine E.I.lg u (by rw[k,hm];rfl) (by rw[k];rfl) rfl (by rw[k];simp) rfl (by rw[k];rfl) rfl (.inr ⟨rfl,rfl⟩) (λh=>by cases h) ⟨by omega,F⟩
 have Y:∀l,J l->fY P A s' l:=λl hl=>by
  rcases(E.hJ l).1 hl with⟨a,z,r,h3⟩|⟨z,r⟩
  . refine .inl ⟨a,z,r,?_⟩
    by_cases e:a=s.sp
    . subst e;rw[B];rfl
    . rw[K e];exact h3
  . exact .inr ⟨z,by rw[C];exact r⟩
 have hP:=L.cK.hand (J':=fY P A s') (M':=M) (w':=w) (src:=0) (dst:=gs.size) (by omega) (by omega) V (λop h=>(gN h).1) (λop h=>(gN h).2.2.1 _) rfl ⟨⟨.refl _,rfl⟩,λ_ _=>rfl⟩ (λb=>.inl rfl) (λn a ha b3 h=>h.elim (λ⟨j,z,r⟩=>.inr (.inl ⟨j,Y j z,r.app _⟩)) (λ⟨p,z,r⟩=>.inr (.inr (.inl ⟨p,z,r.app _⟩))))
 rw[fk,bot_join]at hP;obtain⟨ad,al,av⟩:=wY (g':=g') (child:=child) a8
 have ax:dw P A Z s' (bO kk gs.size (kk 0)) OO (fY P A s') M ((gs.setIfInBounds 0 g').push child).size w (t++sS gs.size g.frame.fn child.frame.fn g.frame.place g.frame.place):=by
  refine E.chan hI (by rw[Array.size_push,Array.size_setIfInBounds,W,C,F];simp[jT.isNone];omega) (by rw[C];exact E.xP) (λ_ _=>rfl) (by rw[o];rfl) (by rw[o];rfl) (by rw[o];rfl) (by rw[o];rfl) (λl _=>?_) (λi b n v h=>?_) (au _ _ (by omega)) (λi=>Iff.rfl) (.inl C) (λop h=>⟨(gN h).1,(gN h).2.2.2⟩) (λi D=>?_) (λi ay hn=>?_)
  . by_cases e:l=s.sp
    . subst e;rw[B,k];rfl
    . rw[K e]
  . by_cases e:i=gs.size
    . subst e;rw[ap]at h;exact⟨0,h⟩
    . rw[au _ _ e]at h;exact⟨i,h⟩
  . rcases D with h0|⟨l,z,r⟩|⟨z,r⟩
    . exact .inl (.inl h0)
    . rw[W]at z
      by_cases e:l=s.sp
      . subst e
        rw[r,<-d];exact .inr V
      . exact .inl (.inr (.inl ⟨l,by omega,r⟩))
    . exact .inl (.inr (.inr ⟨z,by rw[<-C];exact r⟩))
  . have b0:¬bR P A s i:=λh=>hn (by
     rcases h with h0|⟨l,z,r⟩|⟨z,r⟩
     . exact .inl h0
     . exact .inr (.inl ⟨l,by omega,r⟩)
     . exact .inr (.inr ⟨z,by rw[C];exact r⟩))
    have H:i≠gs.size:=λe=>hn (.inr (.inl ⟨s.sp,by omega,by omega⟩))
    rw[au _ _ H];exact E.Ck i ay b0
 have hL:MS.ik A.n s' s:=by rw[o];refine ug u ?_;rw[k,hm];have e1:(br.run (P:=P) false X).cS=20:=rfl;have e2:(pv.add m).cS=40*m+200:=rfl;have e3:(pv.spawn m).cS=40*m+225:=rfl;have e4:(br.idle (P:=P)).cS=0:=rfl;omega
 have hS:ir A s s' (λi=>i=0\/i=gs.size):=⟨λl _ hl=>K (λe=>hl (.inr (by omega))),λ_=>C,λh=>absurd (.inl rfl) h,by rw[o];rfl,by rw[o];rfl⟩
 refine⟨_,_,U,s',bO (bO f 0 ⟨_,_,_,_,S⟩) gs.size X,q,bO kk gs.size (kk 0),OO,fY P A s',M,_,_,_,rfl,hL,?_⟩;refine L.G8 hu hP ax (by simp) (λi=>i=0\/i=gs.size) (λi D=>ad i (λe=>D (.inl e)) (λe=>D (.inr e))) (lR hZ hS (λi D=>by rw[au _ _ (λe=>D (.inr e)),au _ _ (λe=>D (.inl e))]) (λ_ _=>rfl) (λi D _=>au _ _ (λe=>D (.inr e))) (λ_ _ _=>rfl) (λl _ _ h=>Y l h)) (λi D=>?_)
 rcases D with rfl|rfl
 . refine⟨g',al,λ_=>?_,λh=>absurd h (zn G),λh=>absurd h (na (by rw[G];simp)),λh=>absurd (sT G) h⟩
   have H:(0:Nat)≠gs.size:=by omega
   rw[au _ _ H,ap,au _ _ H];refine⟨by show 0<A.b+A.n+1;omega,rfl,?_,rfl,rfl,S.running,by rw[cj hu];exact d0,.inl rfl,CD⟩
   show zf P A Fin m=bM P A Fin s' 0;rw[CH G]
 . have b1:dK P A s' gs.size:=by rw[d];exact kM u B
   refine⟨child,av,λ_=>?_,λh=>absurd h (by rw[d];exact t9 u B),λh=>absurd h (by rw[d];exact kc u B),λh=>absurd b1 h⟩
   rw[ap,ap,hX];refine⟨by show gs.size<A.b+A.n+1;omega,rfl,?_,rfl,fO.symm,R.running,by rw[cj hu];exact dn,.inr (.inl ⟨s.sp,u,d,by rw[B];rfl⟩),λl h X' z r h3=>?_⟩
   . show lG P A s.sp=bM P A Fin s' gs.size
     rw[d,og u B]
   . obtain rfl:l=s.sp:=by omega
     rw[B]at h3;cases h3;rw[hX];exact uR.refl _
theorem Hd(hZ:A.b+A.n+1<=Z.lk)(O:bI (cG P A Fin Z hZ) Z s f q kk OO J M gs w t)(Q:s.ms=.add 0)(hg:gs[0]?=some g){N:ah->aj->Goroutine->Prop}(ht:(zf P A Fin 0).dH (kk 0) (OO 0) g N)(sl:Option (Nat × Nat)):
 Goes P A Fin Z hZ s gs w t sl 0:=by
 have r:dw P A Z s kk OO J M gs.size w t:=O.ex;have hb:=A.hb;obtain⟨rfl,g',child,hs,a8,a9⟩:=ht;have S:=r.I.ms;rw[Q]at S;obtain⟨E,z⟩:=S;have E:s.sp=A.n:=by omega
 have d:gs.size=A.b+A.n:=by have:=r.size;rw[z,E]at this;simpa[jT.isNone]using this
 obtain⟨U⟩:=T.tree (P:=P) (m:=wG P A) rfl a8;obtain⟨V⟩:=T.tree (wW (P:=P) (A:=A) (Fin:=Fin) _ _) a9;have ad:=(Array.getElem?_eq_some_iff.1 hg).1;obtain⟨_,_,_,_,_,_,d0,_⟩:=O.live _ (sT Q);have dn:Deaf t gs.size=0:=O.above _ (Nat.le_refl _);have W:=zk (sl:=sl) hg (hs w (O.cK.sat 0));have hu:mf (sS gs.size g.frame.fn child.frame.fn g.frame.place g.frame.place):=λop h=>(gN h).2.1
 have K:∀n,Knows t 0 n->Knows (t++sS gs.size g.frame.fn child.frame.fn g.frame.place g.frame.place) gs.size n:=λn hn=>uN (t:=t) (c:=0) hu (m1:=0) (m2:=1) (x:={g:=0,fn:=g.frame.fn,pos:=g.frame.place,act:=.go gs.size}) (y:={g:=gs.size,fn:=child.frame.fn,pos:=g.frame.place,act:=.start}) rfl rfl rfl rfl d0 dn hn
 have al:¬bR P A s gs.size:=by
  rintro(h|⟨l,C,B⟩|⟨C,B⟩)
  . omega
  . omega
  . exact B z
 obtain⟨fk,fO⟩:=r.Ck gs.size (by omega) al
 obtain⟨s',o⟩:∃s':MS P,s'={s with ms:=.recv,c:=.fF}:=⟨_,rfl⟩
 have F:s'.w=s.w:=by rw[o]
 have u:s'.c=.fF:=by rw[o]
 have G:s'.ms=.recv:=by rw[o]
 have L:s'.sp=s.sp:=by rw[o]
 obtain⟨v0,m0,R⟩:=r.I.calm (by rw[z];rfl)
 have hI:bQ A.n s':=by
  rw[o];refine⟨?_,r.I.g2,λh=>(by have h:s.gv=1:=h;omega),r.I.g3,r.I.mE,λi D h=>?_,⟨r.I.g5.1,λh=>(by have h:s.gm=1:=h;omega)⟩,λh=>(by cases h),r.I.g7,λh=>(by cases h),λk h=>(by cases h),r.I.ok,rfl,r.I.sp,r.I.idle,⟨E,by simp⟩,λh=>(by cases h),r.I.mu⟩
  . have:=r.I.g1
    rw[Q]at this;exact this
  . have h:s.w i=.dn .d7:=h
    have:=R i D;rw[h]at this;cases this
 have X:∀l,J l->fY P A s' l:=λl R=>by
  rcases(r.hJ l).1 R with⟨a,C,B,h3⟩|⟨C,B⟩
  . exact .inl ⟨a,C,B,by rw[F];exact h3⟩
  . rw[z]at B;cases B
 have hP:=O.cK.hand (J':=fY P A s') (M':=M) (w':=w) (src:=0) (dst:=gs.size) (by omega) (by omega) K (λop h=>(gN h).1) (λop h=>(gN h).2.2.1 _) rfl ⟨⟨.refl _,rfl⟩,λ_ _=>rfl⟩ (λb=>.inl rfl) (λn a ha b4 h=>h.elim (λ⟨j,C,B⟩=>.inr (.inl ⟨j,X j C,B.app _⟩)) (λ⟨p,C,B⟩=>.inr (.inr (.inl ⟨p,C,B.app _⟩))))
 rw[fk,bot_join]at hP;obtain⟨av,ax,ay⟩:=wY (g':=g') (child:=child) ad;have Y:=r.xP;rw[z]at Y
 have b0:dw P A Z s' (bO kk gs.size (kk 0)) OO (fY P A s') M ((gs.setIfInBounds 0 g').push child).size w (t++sS gs.size g.frame.fn child.frame.fn g.frame.place g.frame.place):=by
  refine r.chan hI (by rw[Array.size_push,Array.size_setIfInBounds,L,u,d,E];rfl) (by rw[u];exact Y) (λ_ _=>rfl) (by rw[o]) (by rw[o]) (by rw[o]) (by rw[o]) (λl _=>by rw[F]) (λi b n v h=>?_) (au _ _ (by omega)) (λi=>Iff.rfl) (.inr ⟨z,u,λm Q=>by rw[<-d];exact K m Q⟩) (λop h=>⟨(gN h).1,(gN h).2.2.2⟩) (λi D=>?_) (λi b1 hn=>?_)
  . by_cases e:i=gs.size
    . subst e;rw[ap]at h;exact⟨0,h⟩
    . rw[au _ _ e]at h;exact⟨i,h⟩
  . rcases D with h0|⟨l,C,B⟩|⟨C,B⟩
    . exact .inl (.inl h0)
    . exact .inl (.inr (.inl ⟨l,by rw[<-L];exact C,B⟩))
    . rw[C,<-d];exact .inr K
  . have b2:¬bR P A s i:=λh=>hn (by
     rcases h with h0|⟨l,C,B⟩|⟨C,B⟩
     . exact .inl h0
     . exact .inr (.inl ⟨l,by rw[L];exact C,B⟩)
     . exact .inr (.inr ⟨C,by rw[u];simp⟩))
    have H:i≠gs.size:=λe=>hn (.inr (.inr ⟨by omega,by rw[u];simp⟩))
    rw[au _ _ H];exact r.Ck i b1 b2
 have hL:MS.ik A.n s' s:=by
  refine .inl ?_;rw[o];show pv.recv.cS+sumTo A.n (λi=>(s.w i).cS)+jT.fF.cS s.gc<s.ms.cS+sumTo A.n (λi=>(s.w i).cS)+s.c.cS s.gc
  rw[z,Q];have e2:pv.recv.cS=100:=rfl;have e3:jT.fF.cS s.gc=14:=rfl;have e4:jT.none.cS s.gc=0:=rfl;have e5:(pv.add 0).cS=200:=rfl;omega
 have a7:MS.rem P A.n s'=List.range A.n:=by unfold MS.rem;rw[F];exact List.filter_eq_self.2 λl R=>by rw[r.I.early z l (List.mem_range.1 R)];rfl
 have hS:ir A s s' (λi=>i=0\/i=gs.size):=⟨λl _ R=>by rw[F],λh=>absurd (.inr (by omega)) h,λh=>absurd (.inl rfl) h,by rw[o],by rw[o]⟩
 refine⟨_,_,W,s',bO (bO f 0 ⟨_,_,_,_,V⟩) gs.size ⟨_,_,_,_,U⟩,q,bO kk gs.size (kk 0),OO,fY P A s',M,_,_,_,rfl,hL,?_⟩;refine O.G8 hu hP b0 (by simp) (λi=>i=0\/i=gs.size) (λi D=>av i (λe=>D (.inl e)) (λe=>D (.inr e))) (lR hZ hS (λi D=>by rw[au _ _ (λe=>D (.inr e)),au _ _ (λe=>D (.inl e))]) (λ_ _=>rfl) (λi D _=>au _ _ (λe=>D (.inr e))) (λ_ _ _=>rfl) (λl _ _ h=>X l h)) (λi D=>?_)
 rcases D with rfl|rfl
 . refine⟨g',ax,λ_=>?_,λh=>absurd h (sP (.inl G)),λh=>absurd h (na (by rw[G];simp)),λh=>absurd (ji G) h⟩
   have H:(0:Nat)≠gs.size:=by omega
   rw[au _ _ H,ap,au _ _ H];refine⟨by show 0<A.b+A.n+1;omega,rfl,?_,rfl,rfl,V.running,by rw[cj hu];exact d0,.inl rfl,CD⟩
   show qW P A Fin _ _=bM P A Fin s' 0;rw[oi G,a7,List.length_range]
 . have b3:dK P A s' gs.size:=by rw[d];exact ub (.inr u)
   refine⟨child,ay,λ_=>?_,λh=>absurd h (by rw[d];exact FL (.inr u)),λh=>absurd h (by rw[d];exact sL),λh=>absurd b3 h⟩
   rw[ap,ap];refine⟨by show gs.size<A.b+A.n+1;omega,rfl,?_,rfl,fO.symm,U.running,by rw[cj hu];exact dn,.inr (.inr ⟨d,by rw[u];rfl⟩),by rw[d];exact Ob⟩
   show wG P A=bM P A Fin s' gs.size;rw[d,FN u]
end
section
variable{P:Program}{A:eD}{Fin:ah->aj->Goroutine->Prop}{Z:Base}{s s':MS P}{f f':Nat->Node P}{q q':Nat->Nat}{kk kk':Nat->ah}{OO OO':Nat->aj}{J J' M M':Nat->Prop}{gs gs':Array Goroutine}{w w':World}{t u:Trace}{j m:Nat}{g g' g₂ child:Goroutine}{z v:Value}
theorem AW(Q:A.b+A.n+1<=Z.lk)(D:bI (cG P A Fin Z Q) Z s f q kk OO J M gs w t):∃(i:Nat) (g:Goroutine),gs[i]?=some g/\g.status=.running:=by
 have r:dw P A Z s kk OO J M gs.size w t:=D.ex;have B:=bm (P:=P) (A:=A) (Fin:=Fin) (Z:=Z) Q;refine Classical.byContradiction λu=>?_
 have a:∀i,¬dK P A s i:=λi d=>by obtain⟨_,E,_,_,_,F,_⟩:=D.live i d;exact u ⟨i,_,E,F⟩
 have yZ:∀i,fX P A s i->OM P A s i:=λi T=>by
  obtain⟨_,_,_,x,x',E,F,U⟩:=D.walk i T
  rcases U with⟨h,_⟩|h
  . exact h
  . exact absurd ⟨i,x,E,h.first (B.mq F).1⟩ u
 have hb:=A.hb
 have R:s.ms=.parked:=by
  cases e:s.ms with
  |parked=>rfl
  |add l=>exact absurd (sT e) (a 0)
  |spawn l=>exact absurd (wZ e) (a 0)
  |recv=>exact absurd (ji e) (a 0)
  |bw l p=>rcases yZ 0 (Eo e)with⟨l,_,_,o,G,_⟩|⟨h,_⟩<;>omega
 have v:=r.I.ms;rw[R]at v;obtain⟨V,H,K,L⟩:=v
 have S:s.c=.wt .w4/\s.gm=0:=by
  cases e:s.c with
  |none=>exact absurd e H
  |gone=>exact absurd e K
  |fF=>exact absurd (ub (.inr e)) (a _)
  |kK=>exact absurd (ub (.inl e)) (a _)
  | wt p=>
    rcases yZ _ (AS e)with⟨l,_,_,o,G,_⟩|⟨_,h,W⟩
    . omega
    . rw[e]at h;exact⟨h,W⟩
 have k:∀l,l<A.n->fX P A s (A.b+l)->∃sv Y,s.w l=.lk (.gY sv) Y/\s.sh.ms=0:=λl d h=>by
  rcases yZ _ h with⟨l',sv,Y,o,G,h3,h4⟩|⟨o,_⟩
  . obtain rfl:l'=l:=by omega
    exact⟨sv,Y,h3,h4⟩
  . omega
 have y:∀l,l<A.n->s.w l=.gone\/∃sv Y,s.w l=.lk (.gY sv) Y/\s.sh.ms=0:=λl d=>by
  have z:=r.I.idle l d;cases e:s.w l with
  |idle=>rw[e]at z;have:=z.1 rfl;omega
  |run h X=>exact absurd (kM d e) (a _)
  |lk p Y=>have:=k l d (.inr (.inl ⟨l,d,rfl,by rw[e];trivial⟩));rw[e]at this;exact .inr this
  |un p Y=>have:=k l d (.inr (.inl ⟨l,d,rfl,by rw[e];trivial⟩));rw[e]at this;obtain⟨_,_,h,_⟩:=this;cases h
  |wait=>exact absurd e (L l d)
  |zg=>exact absurd (wU d e) (a _)
  |dn p=>have:=k l d (m8 d e);rw[e]at this;obtain⟨_,_,h,_⟩:=this;cases h
  |gone=>exact .inl rfl
 have m:∀l,l<A.n->s.w l=.gone:=λl d=>by
  rcases y l d with h|⟨sv,Y,h,h0⟩
  . exact h
  . have o:=r.I.mu.alive (λi C=>by
     rcases y i C with h|⟨sv,Y,h,_⟩
     . exact .inl (by rw[h];rfl)
     . exact .inr ⟨sv,by rw[h];rfl⟩) h0 l d
    rw[h]at o;cases o
 have N:s.gc=0:=by
  have o:=r.I.g1;rw[R]at o
  have G:sumTo A.n (λj=>(s.w j).cnt)=0:=by
   have:∀n,n<=A.n->sumTo n (λj=>(s.w j).cnt)=0:=λn=>by
    induction n with
    |zero=>intro _;rfl
    | succ n ih=>
      intro hn;have e1:=ih (by omega)
      simp only[sumTo,e1,m n (by omega)]
      rfl
   exact this A.n (Nat.le_refl _)
  have e:pv.parked.pend=0:=rfl;omega
 have O:s.c.waits=true:=by rw[S.1];rfl
 by_cases hv:s.gv=1
 . obtain⟨i,C,h⟩:=r.I.g7 hv N
   rw[m i C]at h
   rcases h with h|h<;>cases h
 . have:=r.I.g2
   obtain⟨i,C,h⟩:=r.I.g6 O (by omega) S.2
   rw[m i C]at h;cases h
variable(C:jS P A.ng)(X:lw P A.ng)(CM:jf P A.nm)(XM:jg P A.nm)(F:rH P A.nm)
include C X CM XM F in
theorem He(o:A.b+A.n+1<=Z.lk)(sl:Option (Nat × Nat))(i:Nat){k:ah}{O:aj}{g:Goroutine}{N:ah->aj->Goroutine->Prop}(K:g.status=.running)(h:(bM P A Fin s i).dH k O g N)(c:∀k' O' g',N k' O' g'->TT P (bM P A Fin s i) k' O' g')
 (r:bI (cG P A Fin Z o) Z s f q kk OO J M gs w t) (S:dK P A s i) (L:f i=⟨bM P A Fin s i,k,O,g,.dH N K h c⟩):
 ∃ ops x,runT P (crowd gs w sl) i=(.next x,ops)/\
  ((∃s' f' q' kk' OO' J' M' gs' w' m,x=crowd gs' w' m/\MS.ik A.n s' s/\bI (cG P A Fin Z o) Z s' f' q' kk' OO' J' M' gs' w' (t++ops))\/
   (∃gs' w' m k' O' g',x=crowd gs' w' m/\fA P Z.W0 k' O' g' gs' w' (t++ops)/\Fin k' O' g')):=by
 have hE:dw P A Z s kk OO J M gs.size w t:=r.ex
 have goes:Goes P A Fin Z o s gs w t sl i->∃ops x,runT P (crowd gs w sl) i=(.next x,ops)/\
  ((∃s' f' q' kk' OO' J' M' gs' w' m,x=crowd gs' w' m/\MS.ik A.n s' s/\bI (cG P A Fin Z o) Z s' f' q' kk' OO' J' M' gs' w' (t++ops))\/
   (∃gs' w' m k' O' g',x=crowd gs' w' m/\fA P Z.W0 k' O' g' gs' w' (t++ops)/\Fin k' O' g')):=λ⟨ops,x,Q,R⟩=>⟨ops,x,Q,.inl R⟩
 obtain⟨_,a,_,y,B,_,_,_,_⟩:=r.live i S;rw[L]at a y B;have a:gs[i]?=some g:=a;have y:k=kk i:=y;have B:O=OO i:=B;subst y B
 rcases S with⟨rfl,D⟩|⟨j,u,rfl,E⟩|⟨rfl,H⟩
 . cases e:s.ms with
   | add l=>
     rw[CH e]at h;cases l with
     |zero=>exact goes (Hd o r e a h sl)
     |succ l=>exact goes (J0 C X o r e rfl rfl a h sl)
   |bw l p=>rw[e]at D;exact D.elim
   | spawn l=>
     have d:bM P A Fin s 0=FF P A Fin l:=by unfold bM;rw[if_pos rfl,e]
     rw[d]at h;exact goes (Hc o r e a h sl)
   |parked=>rw[e]at D;exact D.elim
   | recv=>
     rw[oi e]at h;obtain⟨g₂,z,T,r2,r3,r4⟩:=J1 h
     by_cases I:∃j,j<A.n/\s.w j=.wait
     . obtain⟨j,u,E⟩:=I
       exact goes (J3 o r e u E a T h sl)
     . by_cases H:s.c=.gone
       . obtain⟨ops,x,Q,gs',w',m,k',O',g',R,e3⟩:=OW o r e H a h sl
         exact⟨ops,x,Q,.inr ⟨gs',w',m,k',O',g',R,e3⟩⟩
       . exact goes (J4 o r e (λj u E=>I ⟨j,u,E⟩) H a T r2 r3 r4 sl)
 . cases e:s.w j with
   | run b X0=>
     have d:=og (Fin:=Fin) u e;have G:=h;rw[d]at G
     rcases G with G|G|⟨rfl,U,g₂,z,v,V,W,ht⟩
     . exact goes (GZ CM XM F o r u e (Y:=⟨bM P A Fin s (A.b+j),_,_,g,N,K,h,c⟩) L G sl)
     . exact goes (Cu CM XM F o r u e (Y:=⟨bM P A Fin s (A.b+j),_,_,g,N,K,h,c⟩) L G sl)
     . have hb:b=false:=by
        cases b with
        |false=>rfl
        |true=>exact absurd U (hE.wI j u (by rw[e];rfl))
       subst hb
       by_cases D:s.ms=.parked
       . exact goes (J2 o r u e D a V W ht sl)
       . exact goes (Nc o r u e D a V U W ht sl)
   |zg=>have d:=CB (Fin:=Fin) u e;rw[d]at h;exact goes (G6 C X o r u e a h sl)
   |_=>rw[e]at E;exact E.elim
 . cases e:s.c with
   |fF=>rw[FN e]at h;exact goes (G5 C X o r e rfl rfl a h sl)
   | kK=>
     rw[FM (by rw[e];simp)]at h
     exact goes (J5 o r e a h sl)
   |_=>rw[e]at H;exact H.elim
include C X CM XM F in
theorem Hf(a:A.b+A.n+1<=Z.lk)(sl:Option (Nat × Nat))(i:Nat){g:Goroutine}(d:bI (cG P A Fin Z a) Z s f q kk OO J M gs w t)(z:fX P A s i)(k:gs[i]?=some g)(m:QW P A Fin s i (kk i) (OO i) g):
 Goes P A Fin Z a s gs w t sl i\/Ek P A s gs w sl i g:=by
 have hb:=A.hb;rcases z with⟨rfl,B⟩|⟨j,o,rfl,z⟩|⟨rfl,D⟩
 . rcases m with⟨_,h⟩|⟨l,r,E,_⟩|⟨r,_⟩
   . cases e:s.ms with
     |bw l p=>rw[e]at h;exact .inl (Cz C X a d e k h sl)
     |_=>rw[e]at B;exact B.elim
   . omega
   . omega
 . rcases m with⟨r,_⟩|⟨l,r,E,h⟩|⟨r,_⟩
   . omega
   . obtain rfl:l=j:=by omega
     cases e:s.w l with
     | lk p Y=>
       rw[e]at h;by_cases u:p=.la
       . subst u;exact .inl (MY CM XM F a d o e k h sl)
       . exact MU CM XM a d o e k h u sl
     | un p Y=>
       rw[e]at h;by_cases v:p=.ur
       . subst v;exact .inl (MZ CM XM a d o e k h sl)
       . by_cases x:p=.ue
         . subst x;exact .inl (MX CM XM F a d o e k h sl)
         . exact .inl (MV CM XM a d o e k h v x sl)
     |dn p=>rw[e]at h;exact .inl (M6 C X a d o e k h sl)
     |_=>rw[e]at z;exact z.elim
   . omega
 . rcases m with⟨r,_⟩|⟨l,r,E,h⟩|⟨_,h⟩
   . omega
   . omega
   . cases e:s.c with
     | wt p=>
       rw[e]at h;by_cases y:p=.wa
       . subst y;exact .inl (M9 C X a d e k h sl)
       . exact M8 C X a d e y k h sl
     |_=>rw[e]at D;exact D.elim
include C X CM XM F in
theorem J6(d:A.b+A.n+1<=Z.lk)(a:bI (cG P A Fin Z d) Z s f q kk OO J M gs w t)(sl:Option (Nat × Nat)):
 ∃N gs' w' j m k' O' g',runNT P N (crowd gs w sl) t=(.next (crowd gs' w' j),m)/\fA P Z.W0 k' O' g' gs' w' m/\Fin k' O' g':=
 Jo (bm (P:=P) (A:=A) (Fin:=Fin) (Z:=Z) d) Fin (λa=>AW d a) (by intro s f q kk OO J M gs w t sl i k O g N o h c a p r;exact He C X CM XM F d sl i o h c a p r)
  (by
    intro s f q kk OO J M gs w t sl i g a u v l _;rcases Hf C X CM XM F d sl i a u v l with⟨ops,x,y,z⟩|⟨hd,e⟩
    . exact⟨ops,x,y,.inl z⟩
    . exact⟨_,_,e,.inr (.inr ⟨hd,rfl,rfl⟩)⟩) s _ f _ q kk OO J M gs w sl t rfl rfl a
end
end Go.aR
