/- Part 14 of the proof. -/
import Derived.Test.YtalogdafegmilaaGreatDoorC13
set_option linter.all false
namespace Go.aN
open Go.Conc
open Go.ConcN (sumTo upd sumTo_upd upd_ne upd_same)
inductive TT(P:Program)(m:Mo):ag->ah->Goroutine->Type
 |step {k:ag}{O:ah}{g:Goroutine}(N:ag->ah->Goroutine->Prop):g.status=.running->(∀k' O' g',N k' O' g'->TT P m k' O' g')->x7 P m.main k O g N->TT P m k O g
 |ghost {k:ag}{O:ah}{g:Goroutine}(k2:ag) (O2:ah):kK k O k2 O2->TT P m k2 O2 g->TT P m k O g
 |dc {k:ag}{O:ah}{g:Goroutine}(N:ag->ah->Goroutine->Prop):g.status=.running->m.dc k O g N->(∀k' O' g',N k' O' g'->TT P m k' O' g')->TT P m k O g
theorem T.tree{P:Program}{m:Mo}(hm:m.solo=false){k:ag}{O:ah}{g:Goroutine}(h:T P m (λ_ _ _=>False) k O g):Nonempty (TT P m k O g):=by
 induction h with
 |stop h=>exact h.elim
 |step N h1 _ h3 ih=>exact⟨.step N h1 (λk' O' g' hn=>Classical.choice (ih k' O' g' hn)) h3⟩
 |ghost h1 _ ih=>exact⟨.ghost _ _ h1 (Classical.choice ih)⟩
 |phase N h1 _ _ _=>rw[hm]at h1;cases h1
 |dc N h0 h1 _ ih=>exact⟨.dc N h0 h1 (λk' O' g' hn=>Classical.choice (ih k' O' g' hn))⟩
theorem TT.running{P:Program}{m:Mo}{k:ag}{O:ah}{g:Goroutine}(t:TT P m k O g):g.status=.running:=by
 induction t with
 |step _ h _ _=>exact h
 |ghost _ _ _ _ ih=>exact ih
 |dc _ h _ _=>exact h
structure Node(P:Program) where
 m:Mo
 k:ag
 O:ah
 g:Goroutine
 t:TT P m k O g
inductive nF{P:Program}:Node P->Node P->Prop
 |step {m:Mo}{k k':ag}{O O':ah}{g g':Goroutine}(N:ag->ah->Goroutine->Prop) (h1:g.status=.running) (c:∀k' O' g',N k' O' g'->TT P m k' O' g') (h3:x7 P m.main k O g N) (hn:N k' O' g'):nF ⟨m,k',O',g',c k' O' g' hn⟩ ⟨m,k,O,g,.step N h1 c h3⟩
 |ghost {m:Mo}{k:ag}{O:ah}{g:Goroutine}(k2:ag) (O2:ah) (h:kK k O k2 O2) (c:TT P m k2 O2 g):nF ⟨m,k2,O2,g,c⟩ ⟨m,k,O,g,.ghost k2 O2 h c⟩
 |dc {m:Mo}{k k':ag}{O O':ah}{g g':Goroutine}(N:ag->ah->Goroutine->Prop) (h0:g.status=.running) (h1:m.dc k O g N) (c:∀k' O' g',N k' O' g'->TT P m k' O' g') (hn:N k' O' g'):nF ⟨m,k',O',g',c k' O' g' hn⟩ ⟨m,k,O,g,.dc N h0 h1 c⟩
theorem GV{P:Program}{m:Mo}:∀{k:ag}{O:ah}{g:Goroutine}(t:TT P m k O g),Acc nF (⟨m,k,O,g,t⟩:Node P):=by
 intro k O g t;induction t with
 |step N h1 c h3 ih=>exact⟨_,λy hy=>by cases hy with|step _ _ _ _ hn=>exact ih _ _ _ hn⟩
 |ghost k2 O2 h c ih=>exact⟨_,λy hy=>by cases hy;exact ih⟩
 |dc N h0 h1 c ih=>exact⟨_,λy hy=>by cases hy with|dc _ _ _ _ hn=>exact ih _ _ _ hn⟩
theorem As{P:Program}:∀x:Node P,Acc nF x:=λ⟨_,_,_,_,t⟩=>GV t
def GW{P:Program}(n:Nat)(f' f:Nat->Node P):Prop:=∃i,i<n/\(∀j,j≠i->f' j=f j)/\nF (f' i) (f i)
theorem xj{P:Program}:∀(n:Nat) (f:Nat->Node P),Acc (GW n) f
 |0,f=>⟨_,λy ⟨i,hi,_⟩=>by omega⟩
 | n + 1,f=>by
   have key:∀x:Node P,Acc nF x->∀f:Nat->Node P,f n=x->Acc (GW (n+1)) f:=by
    intro x hx;induction hx with
    | intro x _ ihx=>
      intro f hf;have hn:=xj n f;induction hn with
      | intro f _ ihf=>
        refine⟨_,λf' ⟨i,hi,hne,hs⟩=>?_⟩;by_cases hin:i=n
        . subst hin
          rw[hf]at hs;exact ihx (f' i) hs f' rfl
        . exact ihf f' ⟨i,by omega,hne,hs⟩ (by rw[hne n (λe=>hin e.symm)];exact hf)
   exact key (f n) (As (f n)) f rfl
theorem GX{P:Program}(n:Nat):WellFounded (GW (P:=P) n):=⟨xj n⟩
structure pu(P:Program) where
 S:Type
 r:S->S->Prop
 wf:WellFounded r
 mo:S->Nat->Mo
 main:∀s i,(mo s i).main=(i==0)
 top:Nat
 lk:Nat
 JQ:top<=lk
 Live:S->Nat->Prop
 Walk:S->Nat->Prop
 At:S->Nat->ag->ah->Goroutine->Prop
 xk:S->Nat->Prop
 mS:S->Nat->Prop
 Cn:S->Nat->ag->ah->Goroutine->Prop
 deaf:S->Nat->Nat
 Wd:World->Prop
 Ex:S->(Nat->ag)->(Nat->ah)->(Nat->Prop)->(Nat->Prop)->Nat->World->Trace->Prop
 JZ:S->Nat->Node P->Prop
 tie:∀s i x y,nF y x->JZ s i x->JZ s i y
def blk(g:Goroutine):Goroutine:={g with status:=.blocked}
def GY(P:Program)(Wd:World->Prop)(xk:Prop)(q:Nat)(g g':Goroutine):Prop:=(xk/\g=blk g'/\q=0)\/jG P Wd q g g'
structure br{P:Program}(A:pu P)(Z:Base)(s:A.S)(f:Nat->Node P)(q:Nat->Nat)(kk:Nat->ag)(OO:Nat->ah)(J M:Nat->Prop)(gs:Array Goroutine)(w:World)(t:Trace):Prop where
 lk:Z.lk=A.lk
 bY:bV Z kk OO J M w t
 live:∀i,A.Live s i->i<A.top/\gs[i]?=some (f i).g/\(f i).m=A.mo s i/\(f i).k=kk i/\(f i).O=OO i/\(f i).g.status=.running/\Deaf t i=0/\(i=0\/J i)/\A.JZ s i (f i)
 walk:∀i,A.Walk s i -> ¬A.Live s i/\i<A.top/\Deaf t i=A.deaf s i/\∃g g',gs[i]?=some g/\A.At s i (kk i) (OO i) g'/\GY P A.Wd (A.xk s i) (q i) g g'
 held:∀i,A.mS s i -> ¬A.Live s i/\¬A.Walk s i/\i<A.top/\Deaf t i=0/\∃g,gs[i]?=some g/\g.status=.blocked/\A.Cn s i (kk i) (OO i) g
 rest:∀i g,gs[i]?=some g -> ¬A.Live s i -> ¬A.Walk s i -> ¬A.mS s i->i≠0/\QuitsD P (q i) (Deaf t i) g
 above:∀j,gs.size<=j->Deaf t j=0
 ex:A.Ex s kk OO J M gs.size w t
structure xl{P:Program}(A:pu P):Prop where
 own:∀{s:A.S}{kk:Nat->ag}{OO:Nat->ah}{J M:Nat->Prop}{n:Nat}{w:World}{t:Trace}{i:Nat}{k':ag}{O':ah}{w':World}{es:List Event},A.Ex s kk OO J M n w t->A.Live s i->i<n->Eff (kk i) (OO i) w k' O' w' es->∀u:Trace,(∀op∈u,op.g=i)->kP u->(∀op∈u,∃e,iJ (kk i) (OO i) w.heap.size e/\op.act=.ofEvent e)->A.Ex s (bv kk i k') (bv OO i O') J M n w' (t++u)
 slip:∀{s:A.S}{kk:Nat->ag}{OO:Nat->ah}{J M:Nat->Prop}{n:Nat}{w:World}{t:Trace}{i:Nat},A.Ex s kk OO J M n w t->∀u:Trace,(∀op∈u,op.g=i)->(∀op∈u,op.act.touch?=none/\∀a,op.act≠.mark (.release a))->A.Ex s kk OO J M n w (t++u)
 draw:∀{s:A.S}{kk:Nat->ag}{OO:Nat->ah}{J M:Nat->Prop}{n:Nat}{w:World}{t:Trace},A.Ex s kk OO J M n w t->∀d,A.Ex s kk OO J M n (w.at d) t
 r7:∀{s:A.S}{kk:Nat->ag}{OO:Nat->ah}{J M:Nat->Prop}{n:Nat}{w:World}{t:Trace}{j:Nat}{g:Goroutine},A.Ex s kk OO J M n w t->A.mS s j->∀k O,A.Cn s j k O g->g.again w=g
 wd:∀{s:A.S}{kk:Nat->ag}{OO:Nat->ah}{J M:Nat->Prop}{n:Nat}{w:World}{t:Trace},A.Ex s kk OO J M n w t->A.Wd w
 kU:∀{s:A.S}{i:Nat}{k:ag}{O:ah}{g:Goroutine},A.At s i k O g->g.status=.running/\g.offers=none
theorem vd{P:Program}{a a' g:Goroutine}{w:World}(h:g.again w=g):woken P a a' w g=g:=by
 unfold Go.Conc.woken;split
 . exact h
 . rfl
theorem oT{g:Goroutine}(hs:g.status=.running)(ho:g.offers=none)(w:World):(blk g).again w=g:=by obtain⟨fr,cs,stt,dy,off⟩:=g;simp only at hs ho;subst hs ho;simp[blk,Goroutine.again]
theorem jG.first{P:Program}{Wd:World->Prop}{n:Nat}{g g':Goroutine}(h:jG P Wd n g g')(hr:g'.status=.running):g.status=.running:=by
 cases n with
 |zero=>rw[show g=g' from h];exact hr
 |succ n=>obtain⟨g1,h1,_⟩:=h;exact h1.1
theorem Co{e:Event}(h:e.mute=true)(a:Addr):MemAct.ofEvent e≠.mark (.release a):=by
 obtain⟨loc,wr,sy⟩:=e;cases loc with
 |mark m=>cases m<;>simp_all [Event.mute,MemAct.ofEvent]
 |_=>simp_all [Event.mute,MemAct.ofEvent]
def runs(gs:Array Goroutine):Nat:=sumTo gs.size λj=>if(gs[j]?).any (λg=>g.status==.running)then 1 else 0
section
variable{P:Program}{A:pu P}{Z:Base}{s:A.S}{f:Nat->Node P}{q:Nat->Nat}{kk:Nat->ag}{OO:Nat->ah}{J M:Nat->Prop}{gs:Array Goroutine}{w:World}{t:Trace}
theorem bV.at(h:bV Z kk OO J M w t)(d:Nat):bV Z kk OO J M (w.at d) t:=⟨λi=>⟨(h.sat i).apart,(h.sat i).cell,(h.sat i).sh,(h.sat i).obj,(h.sat i).tail,(h.sat i).part⟩,h.iV,h.my,h.yB,h.clean,h.seen,h.acc,h.n0,h.u0,h.jE,h.mz,h.wo.step (.refl _) rfl (Nat.le_refl _) (λ_ _=>rfl),h.mine⟩
theorem br.awake(B:xl A)(h:br A Z s f q kk OO J M gs w t):∀g∈gs,Go.Conc.awake g:=by
 intro g hg;obtain⟨i,hi,rfl⟩:=Array.mem_iff_getElem.1 hg;have hgi:=Array.getElem?_eq_getElem hi
 by_cases hl:A.Live s i
 . obtain⟨_,h1,_,_,_,h2,_⟩:=h.live i hl
   have:gs[i]=(f i).g:=by rw[hgi]at h1;exact Option.some.inj h1
   rw[this];intro x hx;rw[h2]at hx;cases hx
 by_cases hk:A.Walk s i
 . obtain⟨_,_,_,g,g',h1,h2,h3⟩:=h.walk i hk
   have:gs[i]=g:=by rw[hgi]at h1;exact Option.some.inj h1
   rw[this]
   rcases h3 with⟨_,rfl,_⟩|h3
   . intro x hx;cases hx
   . have:=h3.first (B.kU h2).1
     intro x hx;rw[this]at hx;cases hx
 by_cases hh:A.mS s i
 . obtain⟨_,_,_,_,g,h1,h2,_⟩:=h.held i hh
   have:gs[i]=g:=by rw[hgi]at h1;exact Option.some.inj h1
   rw[this];intro x hx;rw[h2]at hx;cases hx
 . have h1:=(h.rest i _ hgi hl hk hh).2
   intro x hx;rcases h1.status with h2|h2<;>rw[h2]at hx<;>cases hx
structure Rest(A:pu P)(s:A.S)(f:Nat->Node P)(q:Nat->Nat)(kk:Nat->ag)(OO:Nat->ah)(t:Trace)(i:Nat)(gs':Array Goroutine):Prop where
 live:∀j,j≠i->A.Live s j->gs'[j]?=some (f j).g
 walk:∀j,j≠i->A.Walk s j->∃g g',gs'[j]?=some g/\A.At s j (kk j) (OO j) g'/\GY P A.Wd (A.xk s j) (q j) g g'
 held:∀j,j≠i->A.mS s j->∃g,gs'[j]?=some g/\g.status=.blocked/\A.Cn s j (kk j) (OO j) g
 rest:∀j g,j≠i->gs'[j]?=some g -> ¬A.Live s j -> ¬A.Walk s j -> ¬A.mS s j->j≠0/\QuitsD P (q j) (Deaf t j) g
theorem br.J0(B:xl A)(h:br A Z s f q kk OO J M gs w t){i:Nat}{a a' x:Goroutine}{w':World}(hw:∀j g,A.mS s j->A.Cn s j (kk j) (OO j) g->g.again w'=g):Rest A s f q kk OO t i ((gs.map (woken P a a' w')).setIfInBounds i x):=by
 have hget:∀j,j≠i->((gs.map (woken P a a' w')).setIfInBounds i x)[j]?=(gs[j]?).map (woken P a a' w'):=λj hj=>by rw[Array.getElem?_setIfInBounds_ne (Ne.symm hj),Array.getElem?_map]
 refine⟨λj hj hl=>?_,λj hj hk=>?_,λj hj hh=>?_,λj g hj hg hl hk hh=>?_⟩
 . obtain⟨_,h1,_,_,_,h2,_⟩:=h.live j hl
   rw[hget j hj,h1,Option.map_some,woken_run h2]
 . obtain⟨_,_,_,g,g',h1,h2,h3⟩:=h.walk j hk
   obtain⟨r1,r2⟩:=B.kU h2;rcases h3 with⟨h3,rfl,h4⟩|h3
   . by_cases hmw:woken P a a' w' (blk g')=blk g'
     . exact⟨blk g',g',by rw[hget j hj,h1,Option.map_some,hmw],h2,.inl ⟨h3,rfl,h4⟩⟩
     . have hwk:woken P a a' w' (blk g')=g':=by
        unfold Go.Conc.woken at hmw ⊢;split at hmw
        . rename_i hc;rw[if_pos hc];exact oT r1 r2 w'
        . exact absurd rfl hmw
       exact⟨g',g',by rw[hget j hj,h1,Option.map_some,hwk],h2,.inr (by rw[h4];rfl)⟩
   . exact⟨g,g',by rw[hget j hj,h1,Option.map_some,woken_run (h3.first r1)],h2,.inr h3⟩
 . obtain⟨_,_,_,_,g,h1,h2,h3⟩:=h.held j hh
   exact⟨g,by rw[hget j hj,h1,Option.map_some,vd (hw j g hh h3)],h2,h3⟩
 . rw[hget j hj]at hg
   obtain⟨z,hz,rfl⟩:=Option.map_eq_some_iff.1 hg;have hq:=h.rest j z hz hl hk hh;rw[woken_quitsD hq.2];exact hq
set_option maxHeartbeats 2000000 in
theorem GZ(B:xl A)(Fin:ag->ah->Goroutine->Prop)
 (someone:∀{s:A.S}{f:Nat->Node P}{q:Nat->Nat}{kk:Nat->ag}{OO:Nat->ah}{J M:Nat->Prop}{gs:Array Goroutine}{w:World}{t:Trace},br A Z s f q kk OO J M gs w t->∃(i:Nat) (g:Goroutine),gs[i]?=some g/\g.status=.running)
 (dc:∀ {s:A.S}{f:Nat->Node P}{q:Nat->Nat}{kk:Nat->ag}{OO:Nat->ah}{J M:Nat->Prop}{gs:Array Goroutine}{w:World}{t:Trace}(sl:Option (Nat × Nat)) (i:Nat){k:ag}{O:ah}{g:Goroutine}{N:ag->ah->Goroutine->Prop}(h0:g.status=.running) (h:(A.mo s i).dc k O g N) (c:∀k' O' g',N k' O' g'->TT P (A.mo s i) k' O' g'),br A Z s f q kk OO J M gs w t->A.Live s i->f i=⟨A.mo s i,k,O,g,.dc N h0 h c⟩ ->
   ∃ ops m',runT P (crowd gs w sl) i=(.next m',ops)/\
     ((∃s' f' q' kk' OO' J' M' gs' w' sl',m'=crowd gs' w' sl'/\A.r s' s/\br A Z s' f' q' kk' OO' J' M' gs' w' (t++ops))\/
      (∃gs' w' sl' k' O' g',m'=crowd gs' w' sl'/\ed P Z.W0 k' O' g' gs' w' (t++ops)/\Fin k' O' g')))
 (stop:∀{s:A.S}{f:Nat->Node P}{q:Nat->Nat}{kk:Nat->ag}{OO:Nat->ah}{J M:Nat->Prop}{gs:Array Goroutine}{w:World}{t:Trace}(sl:Option (Nat × Nat)) (i:Nat){g:Goroutine},br A Z s f q kk OO J M gs w t->A.Walk s i->gs[i]?=some g->A.At s i (kk i) (OO i) g->q i=0 ->
   ∃ ops m',runT P (crowd gs w sl) i=(.next m',ops)/\
     ((∃s' f' q' kk' OO' J' M' gs' w' sl',m'=crowd gs' w' sl'/\A.r s' s/\br A Z s' f' q' kk' OO' J' M' gs' w' (t++ops))\/
      (∃gs' w' sl' k' O' g',m'=crowd gs' w' sl'/\ed P Z.W0 k' O' g' gs' w' (t++ops)/\Fin k' O' g')\/
      (A.xk s i/\m'=crowd (gs.setIfInBounds i (blk g)) w sl/\ops=#[]))):
 ∀ (s:A.S) (n:Nat) (f:Nat->Node P) (rr:Nat) (q:Nat->Nat) (kk:Nat->ag) (OO:Nat->ah) (J M:Nat->Prop) (gs:Array Goroutine) (w:World) (sl:Option (Nat × Nat)) (t:Trace),sumTo gs.size q=n->runs gs=rr->br A Z s f q kk OO J M gs w t ->
   ∃N gs' w' sl' t' k' O' g',runNT P N (crowd gs w sl) t=(.next (crowd gs' w' sl'),t')/\ed P Z.W0 k' O' g' gs' w' t'/\Fin k' O' g':=by
 intro s
 induction s using A.wf.induction with
 |_ s ihs=>
 intro n
 induction n using Nat.strongRecOn with
 |ind n ihn=>
 intro f
 induction f using(GX (P:=P) A.top).induction with
 |_ f ihf=>
 intro rr
 induction rr using Nat.strongRecOn with
 |ind rr ihr=>
 intro q kk OO J M gs w sl t hn hrr hC;obtain⟨i0,x0,e0,r0⟩:=someone hC;obtain⟨i,g,d,sl',hi,hg,hst⟩:=crowd_pick (P:=P) (w:=w) (sl:=sl) (hC.awake B) ⟨i0,_,e0,r0⟩;have hlt:i<gs.size:=(Array.getElem?_eq_some_iff.1 hi).1;have hCd:br A Z s f q kk OO J M gs (w.at d) t:=⟨hC.lk,hC.bY.at d,hC.live,hC.walk,hC.held,hC.rest,hC.above,B.draw hC.ex d⟩;have hlk:∀j,j<A.top->j≠Z.lk:=λj hj=>by rw[hC.lk];have:=A.JQ;omega
 by_cases hl:A.Live s i
 . obtain ⟨ht,h1,hmo,h2,h3,h4,h5,h6,h7⟩:=hCd.live i hl
   rw[hi]at h1;have hgf:=Option.some.inj h1;cases hf:f i with
   | mk mm k O g0 tr=>
     rw[hf]at hmo h2 h3 h4 hgf h7;simp only at hmo h2 h3 h4 hgf;subst hgf;subst hmo;cases tr with
     | step N hr c hs=>
       obtain⟨g',w',es,k',O',hs1,hs2,hs3,hs4⟩:=hs (w.at d) (by rw[h2,h3];exact hCd.bY.sat i)
       rw[A.main]at hs1;have hrunT:=runT_crowd_go (P:=P) (sl:=sl') (i:=i) hi hs1;have hE:Eff (kk i) (OO i) (w.at d) k' O' w' es.toList:=by rw[<-h2,<-h3];exact hs2
       have hloud:kP (MemOp.ofEvents i g.frame.fn g.frame.place es):=u' (λe he=>hE.evs e he) i _ _
       have hops:∀op∈MemOp.ofEvents i g.frame.fn g.frame.place es,op.g=i:=λop hop=>by obtain⟨e,_,rfl⟩:=Go.Conc.mem_ofEvents hop;rfl
       have hP:=hCd.bY.own (i:=i) (hlk i ht) h6 (fn:=g.frame.fn) (pos:=g.frame.place) hE hs3;have hEx:=B.own hCd.ex hl hlt hE _ hops hloud (λop hop=>by obtain⟨e,he,rfl⟩:=Go.Conc.mem_ofEvents hop;exact⟨e,hE.evs e (by simpa using he),rfl⟩)
       have hR:=hCd.J0 B (i:=i) (a:=g) (a':=g') (x:=g') (w':=w') (λj x hh hx=>B.r7 hEx hh _ _ hx)
       have hC':br A Z s (bv f i ⟨A.mo s i,k',O',g',c k' O' g' hs4⟩) q (bv kk i k') (bv OO i O') J M ((gs.map (woken P g g' w')).setIfInBounds i g') w' (t++MemOp.ofEvents i g.frame.fn g.frame.place es):=by
        refine⟨hC.lk,hP,λj hj=>?_,λj hj=>?_,λj hj=>?_,λj x hx n1 n2 n3=>?_,λj hj=>?_,by simpa using hEx⟩
        . obtain⟨p0,p1,pm,p2,p3,p4,p5,p6⟩:=hCd.live j hj
          by_cases hji:j=i
          . subst hji
            rw[an,an,an,Array.getElem?_setIfInBounds_self_of_lt (by simpa using hlt),bK hloud]
            exact⟨p0,rfl,rfl,rfl,rfl,(c k' O' g' hs4).running,p5,p6.1,A.tie _ _ _ _ (.step N hr c hs hs4) h7⟩
          . rw[ar _ _ hji,ar _ _ hji,ar _ _ hji,hR.live j hji hj,bK hloud]
            exact⟨p0,rfl,pm,p2,p3,p4,p5,p6⟩
        . obtain⟨p0,p1,p2,_⟩:=hCd.walk j hj
          have hji:j≠i:=λe=>p0 (e ▸ hl)
          rw[ar _ _ hji,ar _ _ hji,bK hloud];exact⟨p0,p1,p2,hR.walk j hji hj⟩
        . obtain⟨p0,p1,p2,p3,_⟩:=hCd.held j hj
          have hji:j≠i:=λe=>p0 (e ▸ hl)
          rw[ar _ _ hji,ar _ _ hji,bK hloud];exact⟨p0,p1,p2,p3,hR.held j hji hj⟩
        . have hji:j≠i:=λe=>n1 (e ▸ hl)
          rw[bK hloud];exact hR.rest j x hji hx n1 n2 n3
        . rw[bK hloud];exact hC.above j (by simpa using hj)
       obtain⟨N',gs',w'',sl'',t',k'',O'',g'',e1,e2,e3⟩:=ihf _ ⟨i,ht,λj hj=>ar _ _ hj,by rw[an,hf];exact .step N hr c hs hs4⟩ _ q _ _ J M _ w' sl' _ (by simpa using hn) rfl hC'
       exact⟨N'+1,gs',w'',sl'',t',k'',O'',g'',by simp only[runNT,hst,hrunT];exact e1,e2,e3⟩
     | ghost k2 O2 hgh c=>
       obtain⟨hs3,hE⟩:=hgh w (by rw[h2,h3];exact hC.bY.sat i)
       have hE':Eff (kk i) (OO i) w k2 O2 w (#[]:Array Event).toList:=by rw[<-h2,<-h3];exact hE
       have hu0:kP (MemOp.ofEvents i 0  "" #[]):=u' (k:=kk i) (O:=OO i) (B:=0) (λe he=>by simp at he) i _ _
       have hemp:t++MemOp.ofEvents i 0  "" #[]=t:=by rw[ofEvents_eq];simp
       have hP:=hC.bY.own (i:=i) (hlk i ht) h6 (fn:=0) (pos:=  "") hE' hs3
       have hEx:=B.own hC.ex hl hlt hE' _ (λop hop=>by obtain⟨e,_,rfl⟩:=Go.Conc.mem_ofEvents hop;rfl) hu0 (λop hop=>by obtain⟨e,he,rfl⟩:=Go.Conc.mem_ofEvents hop;simp at he)
       rw[hemp]at hP hEx
       have hC':br A Z s (bv f i ⟨A.mo s i,k2,O2,g,c⟩) q (bv kk i k2) (bv OO i O2) J M gs w t:=by
        refine⟨hC.lk,hP,λj hj=>?_,λj hj=>?_,λj hj=>?_,hC.rest,hC.above,hEx⟩
        . obtain⟨p0,p1,pm,p2,p3,p4,p5,p6⟩:=hC.live j hj
          by_cases hji:j=i
          . subst hji
            rw[an,an,an];exact⟨p0,hi,rfl,rfl,rfl,h4,p5,p6.1,A.tie _ _ _ _ (.ghost k2 O2 hgh c) h7⟩
          . rw[ar _ _ hji,ar _ _ hji,ar _ _ hji]
            exact⟨p0,p1,pm,p2,p3,p4,p5,p6⟩
        . have hji:j≠i:=λe=>(hC.walk j hj).1 (e ▸ hl)
          rw[ar _ _ hji,ar _ _ hji];exact hC.walk j hj
        . have hji:j≠i:=λe=>(hC.held j hj).1 (e ▸ hl)
          rw[ar _ _ hji,ar _ _ hji];exact hC.held j hj
       exact ihf _ ⟨i,ht,λj hj=>ar _ _ hj,by rw[an,hf];exact .ghost k2 O2 hgh c⟩ _ q _ _ J M gs w sl t hn rfl hC'
     | dc N h0 h c=>
       obtain⟨ops,m',e1,e2⟩:=dc sl' i h0 h c hCd hl hf
       rcases e2 with⟨s',f',q',kk',OO',J',M',gs',w',sl2,rfl,hr,hC'⟩|⟨gs',w',sl2,k',O',g',rfl,hS,hF⟩
       . obtain⟨N',gs2,w2,sl3,t2,k2,O2,g2,e3,e4,e5⟩:=ihs s' hr _ f' _ q' kk' OO' J' M' gs' w' sl2 _ rfl rfl hC'
         exact⟨N'+1,gs2,w2,sl3,t2,k2,O2,g2,by simp only[runNT,hst,e1];exact e3,e4,e5⟩
       . exact⟨1,gs',w',sl2,_,k',O',g',by simp only[runNT,hst,e1],hS,hF⟩
 by_cases hk:A.Walk s i
 . obtain ⟨_,ht,hdf,g1,g',h1,h2,h3⟩:=hCd.walk i hk
   obtain rfl:g1=g:=by rw[hi]at h1;exact(Option.some.inj h1).symm
   rcases h3 with⟨_,hb,_⟩|h3
   . rw[hb]at hg;cases hg
   cases hqi:q i with
   | zero=>
     rw[hqi]at h3;obtain rfl:g1=g':=h3;obtain⟨ops,m',e1,e2⟩:=stop sl' i hCd hk hi h2 hqi
     rcases e2 with⟨s',f',q',kk',OO',J',M',gs',w',sl2,rfl,hr,hC'⟩|⟨gs',w',sl2,k',O',g',rfl,hS,hF⟩|⟨hdry,rfl,rfl⟩
     . obtain⟨N',gs2,w2,sl3,t2,k2,O2,g2,e3,e4,e5⟩:=ihs s' hr _ f' _ q' kk' OO' J' M' gs' w' sl2 _ rfl rfl hC'
       exact⟨N'+1,gs2,w2,sl3,t2,k2,O2,g2,by simp only[runNT,hst,e1];exact e3,e4,e5⟩
     . exact⟨1,gs',w',sl2,_,k',O',g',by simp only[runNT,hst,e1],hS,hF⟩
     ·
      have hne:∀j,j≠i->(gs.setIfInBounds i (blk g1))[j]?=gs[j]?:=λj hj=>Array.getElem?_setIfInBounds_ne (Ne.symm hj)
      have hC':br A Z s f q kk OO J M (gs.setIfInBounds i (blk g1)) (w.at d) t:=by
       refine⟨hC.lk,hCd.bY,λj hj=>?_,λj hj=>?_,λj hj=>?_,λj x hx n1 n2 n3=>?_,λj hj=>hC.above j (by simpa using hj),by simpa using hCd.ex⟩
       . have hji:j≠i:=λe=>hl (e ▸ hj)
         rw[hne j hji];exact hCd.live j hj
       . obtain⟨p0,p1,p2,p3⟩:=hCd.walk j hj
         refine⟨p0,p1,p2,?_⟩
         by_cases hji:j=i
         . subst hji
           exact⟨blk g1,g1,by rw[Array.getElem?_setIfInBounds_self_of_lt hlt],h2,.inl ⟨hdry,rfl,hqi⟩⟩
         . rw[hne j hji];exact p3
       . have hji:j≠i:=λe=>(hCd.held j hj).2.1 (e ▸ hk)
         rw[hne j hji];exact hCd.held j hj
       . have hji:j≠i:=λe=>n2 (e ▸ hk)
         rw[hne j hji]at hx;exact hCd.rest j x hx n1 n2 n3
      have hless:runs (gs.setIfInBounds i (blk g1))<rr:=by
       rw[<-hrr];unfold runs;rw[Array.size_setIfInBounds];obtain⟨F,hF⟩:∃F:Nat->Nat,F=λj=>if(gs[j]?).any (λg=>g.status==.running)then 1 else 0:=⟨_,rfl⟩
       have hu:(λj=>if((gs.setIfInBounds i (blk g1))[j]?).any (λg=>g.status==.running)then 1 else 0)=upd F i 0:=by
        funext j
        by_cases hji:j=i
        . subst hji
          rw[upd_same,Array.getElem?_setIfInBounds_self_of_lt hlt];rfl
        . rw[upd_ne _ _ hji,hne j hji,hF]
       rw[hu,<-hF];have h1:F i=1:=by rw[hF];simp[hi,hg]
       have h2:sumTo gs.size (upd F i 0)+F i=sumTo gs.size F+0:=sumTo_upd F 0 id hlt;omega
      obtain⟨N',gs',w'',sl'',t',k'',O'',g'',e3,e4,e5⟩:=ihr _ hless q kk OO J M _ _ sl' t (by simpa using hn) rfl hC'
      refine⟨N'+1,gs',w'',sl'',t',k'',O'',g'',?_,e4,e5⟩;simp only[runNT,hst,e1];rw[show t++(#[]:Array MemOp)=t by simp]
      exact e3
   | succ k=>
     rw[hqi]at h3;obtain⟨g2,⟨hr1,hs1⟩,hsil⟩:=h3;have hstp:=hs1 (i==0) (w.at d) (B.wd hCd.ex);have hrunT:=runT_crowd_go (P:=P) (sl:=sl') (i:=i) hi hstp;have hemp:t++MemOp.ofEvents i g1.frame.fn g1.frame.place #[]=t:=by rw[ofEvents_eq];simp
     have hR:=hCd.J0 B (i:=i) (a:=g1) (a':=g2) (x:=g2) (w':=w.at d) (λj x hh hx=>B.r7 hCd.ex hh _ _ hx)
     have hsum:sumTo gs.size (upd q i k)+(k+1)=sumTo gs.size q+k:=by have:=sumTo_upd q k id hlt;simpa[hqi]using this
     have hC':br A Z s f (upd q i k) kk OO J M ((gs.map (woken P g1 g2 (w.at d))).setIfInBounds i g2) (w.at d) t:=by
      refine⟨hC.lk,hCd.bY,λj hj=>?_,λj hj=>?_,λj hj=>?_,λj x hx n1 n2 n3=>?_,λj hj=>hC.above j (by simpa using hj),by simpa using hCd.ex⟩
      . have hji:j≠i:=λe=>hl (e ▸ hj)
        obtain⟨p0,p1,pp⟩:=hCd.live j hj;exact⟨p0,hR.live j hji hj,pp⟩
      . obtain⟨p0,p1,p2,p3⟩:=hCd.walk j hj
        refine⟨p0,p1,p2,?_⟩
        by_cases hji:j=i
        . subst hji
          exact⟨g2,g',by rw[Array.getElem?_setIfInBounds_self_of_lt (by simpa using hlt)],h2,.inr (by rw[upd_same];exact hsil)⟩
        . rw[upd_ne q k hji];exact hR.walk j hji hj
      . have hji:j≠i:=λe=>(hCd.held j hj).2.1 (e ▸ hk)
        obtain⟨p0,p1,p2,p3,_⟩:=hCd.held j hj;exact⟨p0,p1,p2,p3,hR.held j hji hj⟩
      . have hji:j≠i:=λe=>n2 (e ▸ hk)
        rw[upd_ne q k hji];exact hR.rest j x hji hx n1 n2 n3
     obtain⟨N',gs',w'',sl'',t',k'',O'',g'',e1,e2,e3⟩:=ihn (sumTo gs.size (upd q i k)) (by omega) f _ (upd q i k) kk OO J M _ (w.at d) sl' _ (by simp) rfl hC'
     refine⟨N'+1,gs',w'',sl'',t',k'',O'',g'',?_,e2,e3⟩;simp only[runNT,hst,hrunT,hemp];exact e1
 by_cases hh:A.mS s i
 . obtain⟨_,_,_,_,g1,h1,h2,_⟩:=hC.held i hh
   rw[hi]at h1;obtain rfl:=Option.some.inj h1;rw[h2]at hg;cases hg
 ·
  obtain⟨hi0',hq⟩:=hCd.rest i g hi hl hk hh;cases hqi:q i with
  |zero=>rw[hqi]at hq;rw[hq.1]at hg;cases hg
  | succ k=>
    have hq0:=hq;rw[hqi]at hq
    rcases hq with⟨hf,_⟩|⟨_,g',es,hm,hstp,hq'⟩
    . rw[hf]at hg;cases hg
    have hi0:(i==0)=false:=by simpa using hi0'
    have hrunT:=runT_crowd_go (P:=P) (sl:=sl') (i:=i) hi (by rw[hi0];exact hstp (w.at d))
    have hops:∀op∈MemOp.ofEvents i g.frame.fn g.frame.place es,op.g=i:=λop hop=>by obtain⟨e,_,rfl⟩:=Go.Conc.mem_ofEvents hop;rfl
    have hnt:∀op∈MemOp.ofEvents i g.frame.fn g.frame.place es,op.act.touch?=none:=λop hop=>by obtain⟨e,he,rfl⟩:=Go.Conc.mem_ofEvents hop;exact touch_mute (hm e he)
    have hnr:∀op∈MemOp.ofEvents i g.frame.fn g.frame.place es,∀a,op.act≠.mark (.release a):=λop hop a=>by obtain⟨e,he,rfl⟩:=Go.Conc.mem_ofEvents hop;have:=hm e he;exact Co this a
    have hlow:∀op∈MemOp.ofEvents i g.frame.fn g.frame.place es,op.act.low (w.at d).heap.size:=λop hop=>by obtain⟨e,he,rfl⟩:=Go.Conc.mem_ofEvents hop;exact low_mute (hm e he) _
    have hP:=hCd.bY.rY (w':=w.at d) (kk':=kk) (OO':=OO) (J':=J) (M':=M) (u:=MemOp.ofEvents i g.frame.fn g.frame.place es) (λa b=>a=b) rfl ⟨⟨.refl _,rfl⟩,λ_ _=>rfl⟩ (λb=>.inl rfl) hlow (λa b e n x _ _ _ h=>by subst e;exact h.app _) (λj b n v h=>⟨j,rfl,h⟩) (λj b x h=>⟨j,rfl,h⟩) (λj b x h=>⟨j,rfl,h,λ_ h=>h⟩) hCd.bY.iV
     (λsaid=>noRace_append (hCd.bY.clean said) (λop hop=>hops op hop) λn a ha op hop b hb _=>by rw[hnt op hop]at hb;cases hb) (λop hop a ha=>by rw[hnt op hop]at ha;cases ha) (λm op a hop ha=>by rw[hnt op (Array.mem_of_getElem? hop)]at ha;cases ha)
     (λn a ha hm h=>h.elim (λ⟨j,h1,h2⟩=>.inr (.inl ⟨j,h1,h2.app _⟩)) (λ⟨p,h1,h2⟩=>.inr (.inr (.inl ⟨p,h1,h2.app _⟩))))
    have hEx:=B.slip (i:=i) hCd.ex _ hops (λop hop=>⟨hnt op hop,hnr op hop⟩)
    have hR:=hCd.J0 B (i:=i) (a:=g) (a':=g') (x:=g') (w':=w.at d) (λj x hh hx=>B.r7 hCd.ex hh _ _ hx)
    have hsum:sumTo gs.size (upd q i k)+(k+1)=sumTo gs.size q+k:=by have:=sumTo_upd q k id hlt;simpa[hqi]using this
    have hC':br A Z s f (upd q i k) kk OO J M ((gs.map (woken P g g' (w.at d))).setIfInBounds i g') (w.at d) (t++MemOp.ofEvents i g.frame.fn g.frame.place es):=by
     refine⟨hC.lk,hP,λj hj=>?_,λj hj=>?_,λj hj=>?_,λj x hx n1 n2 n3=>?_,λj hj=>?_,by simpa using hEx⟩
     . have hji:j≠i:=λe=>hl (e ▸ hj)
       obtain⟨p0,p1,pm,p2,p3,p4,p5,p6⟩:=hCd.live j hj;rw[Deaf_other t (Ne.symm hji) _ hops];exact⟨p0,hR.live j hji hj,pm,p2,p3,p4,p5,p6⟩
     . have hji:j≠i:=λe=>hk (e ▸ hj)
       obtain⟨p0,p1,p2,p3⟩:=hCd.walk j hj;rw[Deaf_other t (Ne.symm hji) _ hops,upd_ne q k hji];exact⟨p0,p1,p2,hR.walk j hji hj⟩
     . have hji:j≠i:=λe=>hh (e ▸ hj)
       obtain⟨p0,p1,p2,p3,_⟩:=hCd.held j hj;rw[Deaf_other t (Ne.symm hji) _ hops];exact⟨p0,p1,p2,p3,hR.held j hji hj⟩
     . by_cases hji:j=i
       . subst hji
         rw[Array.getElem?_setIfInBounds_self_of_lt (by simpa using hlt)]at hx
         obtain rfl:=Option.some.inj hx;rw[upd_same,Deaf_own];exact⟨hi0',hq'⟩
       . rw[upd_ne q k hji,Deaf_other t (Ne.symm hji) _ hops]
         exact hR.rest j x hji hx n1 n2 n3
     . rw[Deaf_other t (g':=i) (by simp at hj;omega) _ hops]
       exact hC.above j (by simpa using hj)
    obtain⟨N',gs',w'',sl'',t',k'',O'',g'',e1,e2,e3⟩:=ihn (sumTo gs.size (upd q i k)) (by omega) f _ (upd q i k) kk OO J M _ (w.at d) sl' _ (by simp) rfl hC'
    exact⟨N'+1,gs',w'',sl'',t',k'',O'',g'',by simp only[runNT,hst,hrunT];exact e1,e2,e3⟩
end
end Go.aN
