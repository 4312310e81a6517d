/- Part 14 of the proof. -/
import Derived.Test.YtigilmjkokbblaaGreatDoorC13
set_option linter.all false
namespace Go.bd
open Go.Conc
open Go.ConcN (sumTo upd sumTo_upd upd_ne upd_same)
inductive TT(P:Program)(m:Mo):ah->ai->Goroutine->Type
 |step {k:ah}{O:ai}{g:Goroutine}(N:ah->ai->Goroutine->Prop):g.status=.running->(∀k' O' g',N k' O' g'->TT P m k' O' g')->AI P m.main k O g N->TT P m k O g
 |ghost {k:ah}{O:ai}{g:Goroutine}(k2:ah) (O2:ai):lP k O k2 O2->TT P m k2 O2 g->TT P m k O g
 |dC {k:ah}{O:ai}{g:Goroutine}(N:ah->ai->Goroutine->Prop):g.status=.running->m.dC k O g N->(∀k' O' g',N k' O' g'->TT P m k' O' g')->TT P m k O g
theorem T.tree{P:Program}{m:Mo}(i:m.solo=false){k:ah}{O:ai}{g:Goroutine}(h:T P m (λ_ _ _=>False) k O g):Nonempty (TT P m k O g):=by
 induction h with
 |stop h=>exact h.elim
 |step N a _ j b=>exact⟨.step N a (λc d e f=>Classical.choice (b c d e f)) j⟩
 |ghost a _ b=>exact⟨.ghost _ _ a (Classical.choice b)⟩
 |phase N a _ _ _=>rw[i]at a;cases a
 |dC N l a _ b=>exact⟨.dC N l a (λc d e f=>Classical.choice (b c d e f))⟩
theorem TT.running{P:Program}{m:Mo}{k:ah}{O:ai}{g:Goroutine}(t:TT P m k O g):g.status=.running:=by
 induction t with
 |step _ h _ _=>exact h
 |ghost _ _ _ _ a=>exact a
 |dC _ h _ _=>exact h
structure Node(P:Program) where
 m:Mo
 k:ah
 O:ai
 g:Goroutine
 t:TT P m k O g
inductive po{P:Program}:Node P->Node P->Prop
 |step {m:Mo}{k k':ah}{O O':ai}{g g':Goroutine}(N:ah->ai->Goroutine->Prop) (h1:g.status=.running) (c:∀k' O' g',N k' O' g'->TT P m k' O' g') (h3:AI P m.main k O g N) (hn:N k' O' g'):po ⟨m,k',O',g',c k' O' g' hn⟩ ⟨m,k,O,g,.step N h1 c h3⟩
 |ghost {m:Mo}{k:ah}{O:ai}{g:Goroutine}(k2:ah) (O2:ai) (h:lP k O k2 O2) (c:TT P m k2 O2 g):po ⟨m,k2,O2,g,c⟩ ⟨m,k,O,g,.ghost k2 O2 h c⟩
 |dC {m:Mo}{k k':ah}{O O':ai}{g g':Goroutine}(N:ah->ai->Goroutine->Prop) (h0:g.status=.running) (h1:m.dC k O g N) (c:∀k' O' g',N k' O' g'->TT P m k' O' g') (hn:N k' O' g'):po ⟨m,k',O',g',c k' O' g' hn⟩ ⟨m,k,O,g,.dC N h0 h1 c⟩
theorem KL{P:Program}{m:Mo}:∀{k:ah}{O:ai}{g:Goroutine}(t:TT P m k O g),Acc po (⟨m,k,O,g,t⟩:Node P):=by
 intro k O g t;induction t with
 |step N e c f a=>exact⟨_,λy b=>by cases b with|step _ _ _ _ d=>exact a _ _ _ d⟩
 |ghost i j h c a=>exact⟨_,λy b=>by cases b;exact a⟩
 |dC N l e c a=>exact⟨_,λy b=>by cases b with|dC _ _ _ _ d=>exact a _ _ _ d⟩
theorem Db{P:Program}:∀x:Node P,Acc po x:=λ⟨_,_,_,_,t⟩=>KL t
def KM{P:Program}(n:Nat)(f' f:Nat->Node P):Prop:=∃i,i<n/\(∀j,j≠i->f' j=f j)/\po (f' i) (f i)
theorem z7{P:Program}:∀(n:Nat) (f:Nat->Node P),Acc (KM n) f
 |0,f=>⟨_,λy ⟨i,k,_⟩=>by omega⟩
 | n + 1,f=>by
   have key:∀x:Node P,Acc po x->∀f:Nat->Node P,f n=x->Acc (KM (n+1)) f:=by
    intro x l;induction l with
    | intro x _ c=>
      intro f j;have m:=z7 n f;induction m with
      | intro f _ d=>
        refine⟨_,λg ⟨i,k,a,h⟩=>?_⟩;by_cases b:i=n
        . subst b
          rw[j]at h;exact c (g i) h g rfl
        . exact d g ⟨i,by omega,a,h⟩ (by rw[a n (λe=>b e.symm)];exact j)
   exact key (f n) (Db (f n)) f rfl
theorem KO{P:Program}(n:Nat):WellFounded (KM (P:=P) n):=⟨z7 n⟩
structure qQ(P:Program) where
 S:Type
 r:S->S->Prop
 wf:WellFounded r
 mo:S->Nat->Mo
 main:∀s i,(mo s i).main=(i==0)
 top:Nat
 lk:Nat
 SX:top<=lk
 Live:S->Nat->Prop
 Walk:S->Nat->Prop
 At:S->Nat->ah->ai->Goroutine->Prop
 Aa:S->Nat->Prop
 oD:S->Nat->Prop
 Fi:S->Nat->ah->ai->Goroutine->Prop
 deaf:S->Nat->Nat
 Wd:World->Prop
 Ex:S->(Nat->ah)->(Nat->ai)->(Nat->Prop)->(Nat->Prop)->Nat->World->Trace->Prop
 Oj:S->Nat->Node P->Prop
 tie:∀s i x y,po y x->Oj s i x->Oj s i y
def blk(g:Goroutine):Goroutine:={g with status:=.blocked}
def KP(P:Program)(Wd:World->Prop)(Aa:Prop)(q:Nat)(g g':Goroutine):Prop:=(Aa/\g=blk g'/\q=0)\/kD P Wd q g g'
structure bJ{P:Program}(A:qQ P)(Z:Base)(s:A.S)(f:Nat->Node P)(q:Nat->Nat)(kk:Nat->ah)(OO:Nat->ai)(J M:Nat->Prop)(gs:Array Goroutine)(w:World)(t:Trace):Prop where
 lk:Z.lk=A.lk
 cE:cA Z kk OO J M w t
 live:∀i,A.Live s i->i<A.top/\gs[i]?=some (f i).g/\(f i).m=A.mo s i/\(f i).k=kk i/\(f i).O=OO i/\(f i).g.status=.running/\Deaf t i=0/\(i=0\/J i)/\A.Oj s i (f i)
 walk:∀i,A.Walk s i -> ¬A.Live s i/\i<A.top/\Deaf t i=A.deaf s i/\∃g g',gs[i]?=some g/\A.At s i (kk i) (OO i) g'/\KP P A.Wd (A.Aa s i) (q i) g g'
 held:∀i,A.oD s i -> ¬A.Live s i/\¬A.Walk s i/\i<A.top/\Deaf t i=0/\∃g,gs[i]?=some g/\g.status=.blocked/\A.Fi s i (kk i) (OO i) g
 rest:∀i g,gs[i]?=some g -> ¬A.Live s i -> ¬A.Walk s i -> ¬A.oD s i->i≠0/\QuitsD P (q i) (Deaf t i) g
 above:∀j,gs.size<=j->Deaf t j=0
 ex:A.Ex s kk OO J M gs.size w t
structure Ab{P:Program}(A:qQ P):Prop where
 own:∀{s:A.S}{kk:Nat->ah}{OO:Nat->ai}{J M:Nat->Prop}{n:Nat}{w:World}{t:Trace}{i:Nat}{k':ah}{O':ai}{w':World}{es:List Event},A.Ex s kk OO J M n w t->A.Live s i->i<n->Eff (kk i) (OO i) w k' O' w' es->∀u:Trace,(∀op∈u,op.g=i)->lZ u->(∀op∈u,∃e,jc (kk i) (OO i) w.heap.size e/\op.act=.ofEvent e)->A.Ex s (bR kk i k') (bR OO i O') J M n w' (t++u)
 slip:∀{s:A.S}{kk:Nat->ah}{OO:Nat->ai}{J M:Nat->Prop}{n:Nat}{w:World}{t:Trace}{i:Nat},A.Ex s kk OO J M n w t->∀u:Trace,(∀op∈u,op.g=i)->(∀op∈u,op.act.touch?=none/\∀a,op.act≠.mark (.release a))->A.Ex s kk OO J M n w (t++u)
 draw:∀{s:A.S}{kk:Nat->ah}{OO:Nat->ai}{J M:Nat->Prop}{n:Nat}{w:World}{t:Trace},A.Ex s kk OO J M n w t->∀d,A.Ex s kk OO J M n (w.at d) t
 ub:∀{s:A.S}{kk:Nat->ah}{OO:Nat->ai}{J M:Nat->Prop}{n:Nat}{w:World}{t:Trace}{j:Nat}{g:Goroutine},A.Ex s kk OO J M n w t->A.oD s j->∀k O,A.Fi s j k O g->g.again w=g
 wd:∀{s:A.S}{kk:Nat->ah}{OO:Nat->ai}{J M:Nat->Prop}{n:Nat}{w:World}{t:Trace},A.Ex s kk OO J M n w t->A.Wd w
 me:∀{s:A.S}{i:Nat}{k:ah}{O:ai}{g:Goroutine},A.At s i k O g->g.status=.running/\g.offers=none
theorem xz{P:Program}{a a' g:Goroutine}{w:World}(h:g.again w=g):woken P a a' w g=g:=by
 unfold Go.Conc.woken;split
 . exact h
 . rfl
theorem qx{g:Goroutine}(a:g.status=.running)(b:g.offers=none)(w:World):(blk g).again w=g:=by obtain⟨fr,cs,c,d,off⟩:=g;simp only at a b;subst a b;simp[blk,Goroutine.again]
theorem kD.first{P:Program}{Wd:World->Prop}{n:Nat}{g g':Goroutine}(h:kD P Wd n g g')(a:g'.status=.running):g.status=.running:=by
 cases n with
 |zero=>rw[show g=g' from h];exact a
 |succ n=>obtain⟨c,b,_⟩:=h;exact b.1
theorem Fj{e:Event}(h:e.mute=true)(a:Addr):MemAct.ofEvent e≠.mark (.release a):=by
 obtain⟨loc,wr,b⟩:=e;cases loc with
 |mark m=>cases m<;>simp_all [Event.mute,MemAct.ofEvent]
 |_=>simp_all [Event.mute]
def runs(gs:Array Goroutine):Nat:=sumTo gs.size λj=>if(gs[j]?).any (λg=>g.status==.running)then 1 else 0
section
variable{P:Program}{A:qQ P}{Z:Base}{s:A.S}{f:Nat->Node P}{q:Nat->Nat}{kk:Nat->ah}{OO:Nat->ai}{J M:Nat->Prop}{gs:Array Goroutine}{w:World}{t:Trace}
theorem cA.at(h:cA Z kk OO J M w t)(d:Nat):cA Z kk OO J M (w.at d) t:=⟨λi=>⟨(h.sat i).apart,(h.sat i).cell,(h.sat i).sh,(h.sat i).obj,(h.sat i).tail,(h.sat i).part⟩,h.ju,h.nM,h.Bs,h.clean,h.seen,h.acc,h.n0,h.xu,h.kB,h.nN,h.yT.step (.refl _) rfl (Nat.le_refl _) (λ_ _=>rfl),h.mine⟩
theorem bJ.awake(B:Ab A)(h:bJ A Z s f q kk OO J M gs w t):∀g∈gs,Go.Conc.awake g:=by
 intro g m;obtain⟨i,n,rfl⟩:=Array.mem_iff_getElem.1 m;have c:=Array.getElem?_eq_getElem n
 by_cases j:A.Live s i
 . obtain⟨_,b,_,_,_,d,_⟩:=h.live i j
   have:gs[i]=(f i).g:=by rw[c]at b;exact Option.some.inj b
   rw[this];intro x a;rw[d]at a;cases a
 by_cases k:A.Walk s i
 . obtain⟨_,_,_,g,o,b,d,e⟩:=h.walk i k
   have:gs[i]=g:=by rw[c]at b;exact Option.some.inj b
   rw[this]
   rcases e with⟨_,rfl,_⟩|e
   . intro x a;cases a
   . have:=e.first (B.me d).1
     intro x a;rw[this]at a;cases a
 by_cases l:A.oD s i
 . obtain⟨_,_,_,_,g,b,d,_⟩:=h.held i l
   have:gs[i]=g:=by rw[c]at b;exact Option.some.inj b
   rw[this];intro x a;rw[d]at a;cases a
 . have b:=(h.rest i _ c j k l).2
   intro x a;rcases b.status with d|d<;>rw[d]at a<;>cases a
structure Rest(A:qQ P)(s:A.S)(f:Nat->Node P)(q:Nat->Nat)(kk:Nat->ah)(OO:Nat->ai)(t:Trace)(i:Nat)(gs':Array Goroutine):Prop where
 live:∀j,j≠i->A.Live s j->gs'[j]?=some (f j).g
 walk:∀j,j≠i->A.Walk s j->∃g g',gs'[j]?=some g/\A.At s j (kk j) (OO j) g'/\KP P A.Wd (A.Aa s j) (q j) g g'
 held:∀j,j≠i->A.oD s j->∃g,gs'[j]?=some g/\g.status=.blocked/\A.Fi s j (kk j) (OO j) g
 rest:∀j g,j≠i->gs'[j]?=some g -> ¬A.Live s j -> ¬A.Walk s j -> ¬A.oD s j->j≠0/\QuitsD P (q j) (Deaf t j) g
theorem bJ.Ok(B:Ab A)(h:bJ A Z s f q kk OO J M gs w t){i:Nat}{a a' x:Goroutine}{w':World}(D:∀j g,A.oD s j->A.Fi s j (kk j) (OO j) g->g.again w'=g):Rest A s f q kk OO t i ((gs.map (woken P a a' w')).setIfInBounds i x):=by
 have b:∀j,j≠i->((gs.map (woken P a a' w')).setIfInBounds i x)[j]?=(gs[j]?).map (woken P a a' w'):=λj c=>by rw[Array.getElem?_setIfInBounds_ne (Ne.symm c),Array.getElem?_map]
 refine⟨λj c o=>?_,λj c p=>?_,λj c n=>?_,λj g c u o p n=>?_⟩
 . obtain⟨_,m,_,_,_,l,_⟩:=h.live j o
   rw[b j c,m,Option.map_some,woken_run l]
 . obtain⟨_,_,_,g,d,m,l,e⟩:=h.walk j p
   obtain⟨v,E⟩:=B.me l;rcases e with⟨e,rfl,y⟩|e
   . by_cases k:woken P a a' w' (blk d)=blk d
     . exact⟨blk d,d,by rw[b j c,m,Option.map_some,k],l,.inl ⟨e,rfl,y⟩⟩
     . have r:woken P a a' w' (blk d)=d:=by
        unfold Go.Conc.woken at k ⊢;split at k
        . rename_i F;rw[if_pos F];exact qx v E w'
        . exact absurd rfl k
       exact⟨d,d,by rw[b j c,m,Option.map_some,r],l,.inr (by rw[y];rfl)⟩
   . exact⟨g,d,by rw[b j c,m,Option.map_some,woken_run (e.first v)],l,.inr e⟩
 . obtain⟨_,_,_,_,g,m,l,e⟩:=h.held j n
   exact⟨g,by rw[b j c,m,Option.map_some,xz (D j g n e)],l,e⟩
 . rw[b j c]at u
   obtain⟨z,G,rfl⟩:=Option.map_eq_some_iff.1 u;have C:=h.rest j z G o p n;rw[woken_quitsD C.2];exact C
set_option maxHeartbeats 2000000 in
theorem KQ(B:Ab A)(Fin:ah->ai->Goroutine->Prop)
 (av:∀{s:A.S}{f:Nat->Node P}{q:Nat->Nat}{kk:Nat->ah}{OO:Nat->ai}{J M:Nat->Prop}{gs:Array Goroutine}{w:World}{t:Trace},bJ A Z s f q kk OO J M gs w t->∃(i:Nat) (g:Goroutine),gs[i]?=some g/\g.status=.running)
 (dC:∀ {s:A.S}{f:Nat->Node P}{q:Nat->Nat}{kk:Nat->ah}{OO:Nat->ai}{J M:Nat->Prop}{gs:Array Goroutine}{w:World}{t:Trace}(sl:Option (Nat × Nat)) (i:Nat){k:ah}{O:ai}{g:Goroutine}{N:ah->ai->Goroutine->Prop}(h0:g.status=.running) (h:(A.mo s i).dC k O g N) (c:∀k' O' g',N k' O' g'->TT P (A.mo s i) k' O' g'),bJ A Z s f q kk OO J M gs w t->A.Live s i->f i=⟨A.mo s i,k,O,g,.dC N h0 h c⟩ ->
   ∃ ops m',runT P (crowd gs w sl) i=(.next m',ops)/\
     ((∃s' f' q' kk' OO' J' M' gs' w' C,m'=crowd gs' w' C/\A.r s' s/\bJ A Z s' f' q' kk' OO' J' M' gs' w' (t++ops))\/
      (∃gs' w' C k' O' g',m'=crowd gs' w' C/\eQ P Z.W0 k' O' g' gs' w' (t++ops)/\Fin k' O' g')))
 (stop:∀{s:A.S}{f:Nat->Node P}{q:Nat->Nat}{kk:Nat->ah}{OO:Nat->ai}{J M:Nat->Prop}{gs:Array Goroutine}{w:World}{t:Trace}(sl:Option (Nat × Nat)) (i:Nat){g:Goroutine},bJ A Z s f q kk OO J M gs w t->A.Walk s i->gs[i]?=some g->A.At s i (kk i) (OO i) g->q i=0 ->
   ∃ ops m',runT P (crowd gs w sl) i=(.next m',ops)/\
     ((∃s' f' q' kk' OO' J' M' gs' w' C,m'=crowd gs' w' C/\A.r s' s/\bJ A Z s' f' q' kk' OO' J' M' gs' w' (t++ops))\/
      (∃gs' w' C k' O' g',m'=crowd gs' w' C/\eQ P Z.W0 k' O' g' gs' w' (t++ops)/\Fin k' O' g')\/
      (A.Aa s i/\m'=crowd (gs.setIfInBounds i (blk g)) w sl/\ops=#[]))):
 ∀ (s:A.S) (n:Nat) (f:Nat->Node P) (rr:Nat) (q:Nat->Nat) (kk:Nat->ah) (OO:Nat->ai) (J M:Nat->Prop) (gs:Array Goroutine) (w:World) (sl:Option (Nat × Nat)) (t:Trace),sumTo gs.size q=n->runs gs=rr->bJ A Z s f q kk OO J M gs w t ->
   ∃N gs' w' C t' k' O' g',runNT P N (crowd gs w sl) t=(.next (crowd gs' w' C),t')/\eQ P Z.W0 k' O' g' gs' w' t'/\Fin k' O' g':=by
 intro s
 induction s using A.wf.induction with
 |_ s bA=>
 intro n
 induction n using Nat.strongRecOn with
 |ind n bB=>
 intro f
 induction f using(KO (P:=P) A.top).induction with
 |_ f c5=>
 intro rr
 induction rr using Nat.strongRecOn with
 |ind rr cl=>
 intro q kk OO J M gs w sl t hn cm D;obtain⟨i0,x0,e0,r0⟩:=av D;obtain⟨i,g,d,C,hi,hg,V⟩:=crowd_pick (P:=P) (w:=w) (sl:=sl) (D.awake B) ⟨i0,_,e0,r0⟩;have Q:i<gs.size:=(Array.getElem?_eq_some_iff.1 hi).1;have o:bJ A Z s f q kk OO J M gs (w.at d) t:=⟨D.lk,D.cE.at d,D.live,D.walk,D.held,D.rest,D.above,B.draw D.ex d⟩;have c6:∀j,j<A.top->j≠Z.lk:=λj y=>by rw[D.lk];have:=A.SX;omega
 by_cases hl:A.Live s i
 . obtain ⟨ht,h1,b5,W,h3,h4,h5,h6,h7⟩:=o.live i hl
   rw[hi]at h1;have b6:=Option.some.inj h1;cases hf:f i with
   | mk mm k O g0 tr=>
     rw[hf]at b5 W h3 h4 b6 h7;simp only at b5 W h3 h4 b6;subst b6;subst b5;cases tr with
     | step N hr c hs=>
       obtain⟨g',w',es,k',O',b1,cv,b7,b2⟩:=hs (w.at d) (by rw[W,h3];exact o.cE.sat i)
       rw[A.main]at b1;have K:=runT_crowd_go (P:=P) (sl:=C) (i:=i) hi b1;have hE:Eff (kk i) (OO i) (w.at d) k' O' w' es.toList:=by rw[<-W,<-h3];exact cv
       have E:lZ (MemOp.ofEvents i g.frame.fn g.frame.place es):=xw (λe he=>hE.evs e he) i _ _
       have G:∀op∈MemOp.ofEvents i g.frame.fn g.frame.place es,op.g=i:=λop z=>by obtain⟨e,_,rfl⟩:=Go.Conc.mem_ofEvents z;rfl
       have hP:=o.cE.own (i:=i) (c6 i ht) h6 (fn:=g.frame.fn) (pos:=g.frame.place) hE b7;have Y:=B.own o.ex hl Q hE _ G E (λop z=>by obtain⟨e,he,rfl⟩:=Go.Conc.mem_ofEvents z;exact⟨e,hE.evs e (by simpa using he),rfl⟩)
       have hR:=o.Ok B (i:=i) (a:=g) (a':=g') (x:=g') (w':=w') (λj x hh X=>B.ub Y hh _ _ X)
       have H:bJ A Z s (bR f i ⟨A.mo s i,k',O',g',c k' O' g' b2⟩) q (bR kk i k') (bR OO i O') J M ((gs.map (woken P g g' w')).setIfInBounds i g') w' (t++MemOp.ofEvents i g.frame.fn g.frame.place es):=by
        refine⟨D.lk,hP,λj y=>?_,λj y=>?_,λj y=>?_,λj x X n1 n2 n3=>?_,λj y=>?_,by simpa using Y⟩
        . obtain⟨I,U,pm,R,p3,p4,p5,p6⟩:=o.live j y
          by_cases l:j=i
          . subst l
            rw[au,au,au,Array.getElem?_setIfInBounds_self_of_lt (by simpa using Q),cy E]
            exact⟨I,rfl,rfl,rfl,rfl,(c k' O' g' b2).running,p5,p6.1,A.tie _ _ _ _ (.step N hr c hs b2) h7⟩
          . rw[az _ _ l,az _ _ l,az _ _ l,hR.live j l y,cy E]
            exact⟨I,rfl,pm,R,p3,p4,p5,p6⟩
        . obtain⟨I,U,R,_⟩:=o.walk j y
          have l:j≠i:=λe=>I (e ▸ hl)
          rw[az _ _ l,az _ _ l,cy E];exact⟨I,U,R,hR.walk j l y⟩
        . obtain⟨I,U,R,p3,_⟩:=o.held j y
          have l:j≠i:=λe=>I (e ▸ hl)
          rw[az _ _ l,az _ _ l,cy E];exact⟨I,U,R,p3,hR.held j l y⟩
        . have l:j≠i:=λe=>n1 (e ▸ hl)
          rw[cy E];exact hR.rest j x l X n1 n2 n3
        . rw[cy E];exact D.above j (by simpa using y)
       obtain⟨N',gs',a7,L,t',a8,a9,ad,e1,e2,e3⟩:=c5 _ ⟨i,ht,λj y=>az _ _ y,by rw[au,hf];exact .step N hr c hs b2⟩ _ q _ _ J M _ w' C _ (by simpa using hn) rfl H
       exact⟨N'+1,gs',a7,L,t',a8,a9,ad,by simp only[runNT,V,K];exact e1,e2,e3⟩
     | ghost k2 O2 b8 c=>
       obtain⟨b7,hE⟩:=b8 w (by rw[W,h3];exact D.cE.sat i)
       have c7:Eff (kk i) (OO i) w k2 O2 w (#[]:Array Event).toList:=by rw[<-W,<-h3];exact hE
       have dd:lZ (MemOp.ofEvents i 0  "" #[]):=xw (k:=kk i) (O:=OO i) (B:=0) (λe he=>by simp at he) i _ _
       have ax:t++MemOp.ofEvents i 0  "" #[]=t:=by rw[ofEvents_eq];simp
       have hP:=D.cE.own (i:=i) (c6 i ht) h6 (fn:=0) (pos:=  "") c7 b7
       have Y:=B.own D.ex hl Q c7 _ (λop z=>by obtain⟨e,_,rfl⟩:=Go.Conc.mem_ofEvents z;rfl) dd (λop z=>by obtain⟨e,he,rfl⟩:=Go.Conc.mem_ofEvents z;simp at he)
       rw[ax]at hP Y
       have H:bJ A Z s (bR f i ⟨A.mo s i,k2,O2,g,c⟩) q (bR kk i k2) (bR OO i O2) J M gs w t:=by
        refine⟨D.lk,hP,λj y=>?_,λj y=>?_,λj y=>?_,D.rest,D.above,Y⟩
        . obtain⟨I,U,pm,R,p3,p4,p5,p6⟩:=D.live j y
          by_cases l:j=i
          . subst l
            rw[au,au,au];exact⟨I,hi,rfl,rfl,rfl,h4,p5,p6.1,A.tie _ _ _ _ (.ghost k2 O2 b8 c) h7⟩
          . rw[az _ _ l,az _ _ l,az _ _ l]
            exact⟨I,U,pm,R,p3,p4,p5,p6⟩
        . have l:j≠i:=λe=>(D.walk j y).1 (e ▸ hl)
          rw[az _ _ l,az _ _ l];exact D.walk j y
        . have l:j≠i:=λe=>(D.held j y).1 (e ▸ hl)
          rw[az _ _ l,az _ _ l];exact D.held j y
       exact c5 _ ⟨i,ht,λj y=>az _ _ y,by rw[au,hf];exact .ghost k2 O2 b8 c⟩ _ q _ _ J M gs w sl t hn rfl H
     | dC N h0 h c=>
       obtain⟨ops,m',e1,e2⟩:=dC C i h0 h c o hl hf
       rcases e2 with⟨s',f',q',kk',OO',J',M',gs',w',al,rfl,hr,H⟩|⟨gs',w',al,k',O',g',rfl,hS,hF⟩
       . obtain⟨N',b9,w2,bq,t2,k2,O2,g2,e3,e4,e5⟩:=bA s' hr _ f' _ q' kk' OO' J' M' gs' w' al _ rfl rfl H
         exact⟨N'+1,b9,w2,bq,t2,k2,O2,g2,by simp only[runNT,V,e1];exact e3,e4,e5⟩
       . exact⟨1,gs',w',al,_,k',O',g',by simp only[runNT,V,e1],hS,hF⟩
 by_cases hk:A.Walk s i
 . obtain ⟨_,ht,dy,g1,g',h1,W,h3⟩:=o.walk i hk
   obtain rfl:g1=g:=by rw[hi]at h1;exact(Option.some.inj h1).symm
   rcases h3 with⟨_,hb,_⟩|h3
   . rw[hb]at hg;cases hg
   cases T:q i with
   | zero=>
     rw[T]at h3;obtain rfl:g1=g':=h3;obtain⟨ops,m',e1,e2⟩:=stop C i o hk hi W T
     rcases e2 with⟨s',f',q',kk',OO',J',M',gs',w',al,rfl,hr,H⟩|⟨gs',w',al,k',O',g',rfl,hS,hF⟩|⟨c8,rfl,rfl⟩
     . obtain⟨N',b9,w2,bq,t2,k2,O2,g2,e3,e4,e5⟩:=bA s' hr _ f' _ q' kk' OO' J' M' gs' w' al _ rfl rfl H
       exact⟨N'+1,b9,w2,bq,t2,k2,O2,g2,by simp only[runNT,V,e1];exact e3,e4,e5⟩
     . exact⟨1,gs',w',al,_,k',O',g',by simp only[runNT,V,e1],hS,hF⟩
     ·
      have ay:∀j,j≠i->(gs.setIfInBounds i (blk g1))[j]?=gs[j]?:=λj y=>Array.getElem?_setIfInBounds_ne (Ne.symm y)
      have H:bJ A Z s f q kk OO J M (gs.setIfInBounds i (blk g1)) (w.at d) t:=by
       refine⟨D.lk,o.cE,λj y=>?_,λj y=>?_,λj y=>?_,λj x X n1 n2 n3=>?_,λj y=>D.above j (by simpa using y),by simpa using o.ex⟩
       . have l:j≠i:=λe=>hl (e ▸ y)
         rw[ay j l];exact o.live j y
       . obtain⟨I,U,R,p3⟩:=o.walk j y
         refine⟨I,U,R,?_⟩
         by_cases l:j=i
         . subst l
           exact⟨blk g1,g1,by rw[Array.getElem?_setIfInBounds_self_of_lt Q],W,.inl ⟨c8,rfl,T⟩⟩
         . rw[ay j l];exact p3
       . have l:j≠i:=λe=>(o.held j y).2.1 (e ▸ hk)
         rw[ay j l];exact o.held j y
       . have l:j≠i:=λe=>n2 (e ▸ hk)
         rw[ay j l]at X;exact o.rest j x X n1 n2 n3
      have bz:runs (gs.setIfInBounds i (blk g1))<rr:=by
       rw[<-cm];unfold runs;rw[Array.size_setIfInBounds];obtain⟨F,hF⟩:∃F:Nat->Nat,F=λj=>if(gs[j]?).any (λg=>g.status==.running)then 1 else 0:=⟨_,rfl⟩
       have hu:(λj=>if((gs.setIfInBounds i (blk g1))[j]?).any (λg=>g.status==.running)then 1 else 0)=upd F i 0:=by
        funext j
        by_cases l:j=i
        . subst l
          rw[upd_same,Array.getElem?_setIfInBounds_self_of_lt Q];rfl
        . rw[upd_ne _ _ l,ay j l,hF]
       rw[hu,<-hF];have h1:F i=1:=by rw[hF];simp[hi,hg]
       have W:sumTo gs.size (upd F i 0)+F i=sumTo gs.size F+0:=sumTo_upd F 0 id Q;omega
      obtain⟨N',gs',a7,L,t',a8,a9,ad,e3,e4,e5⟩:=cl _ bz q kk OO J M _ _ C t (by simpa using hn) rfl H
      refine⟨N'+1,gs',a7,L,t',a8,a9,ad,?_,e4,e5⟩;simp only[runNT,V,e1];rw[show t++(#[]:Array MemOp)=t by simp]
      exact e3
   | succ k=>
     rw[T]at h3;obtain⟨g2,⟨e7,b1⟩,ca⟩:=h3;have b0:=b1 (i==0) (w.at d) (B.wd o.ex);have K:=runT_crowd_go (P:=P) (sl:=C) (i:=i) hi b0;have ax:t++MemOp.ofEvents i g1.frame.fn g1.frame.place #[]=t:=by rw[ofEvents_eq];simp
     have hR:=o.Ok B (i:=i) (a:=g1) (a':=g2) (x:=g2) (w':=w.at d) (λj x hh X=>B.ub o.ex hh _ _ X)
     have cb:sumTo gs.size (upd q i k)+(k+1)=sumTo gs.size q+k:=by have:=sumTo_upd q k id Q;simpa[T]using this
     have H:bJ A Z s f (upd q i k) kk OO J M ((gs.map (woken P g1 g2 (w.at d))).setIfInBounds i g2) (w.at d) t:=by
      refine⟨D.lk,o.cE,λj y=>?_,λj y=>?_,λj y=>?_,λj x X n1 n2 n3=>?_,λj y=>D.above j (by simpa using y),by simpa using o.ex⟩
      . have l:j≠i:=λe=>hl (e ▸ y)
        obtain⟨I,U,pp⟩:=o.live j y;exact⟨I,hR.live j l y,pp⟩
      . obtain⟨I,U,R,p3⟩:=o.walk j y
        refine⟨I,U,R,?_⟩
        by_cases l:j=i
        . subst l
          exact⟨g2,g',by rw[Array.getElem?_setIfInBounds_self_of_lt (by simpa using Q)],W,.inr (by rw[upd_same];exact ca)⟩
        . rw[upd_ne q k l];exact hR.walk j l y
      . have l:j≠i:=λe=>(o.held j y).2.1 (e ▸ hk)
        obtain⟨I,U,R,p3,_⟩:=o.held j y;exact⟨I,U,R,p3,hR.held j l y⟩
      . have l:j≠i:=λe=>n2 (e ▸ hk)
        rw[upd_ne q k l];exact hR.rest j x l X n1 n2 n3
     obtain⟨N',gs',a7,L,t',a8,a9,ad,e1,e2,e3⟩:=bB (sumTo gs.size (upd q i k)) (by omega) f _ (upd q i k) kk OO J M _ (w.at d) C _ (by simp) rfl H
     refine⟨N'+1,gs',a7,L,t',a8,a9,ad,?_,e2,e3⟩;simp only[runNT,V,K,ax];exact e1
 by_cases hh:A.oD s i
 . obtain⟨_,_,_,_,g1,h1,W,_⟩:=D.held i hh
   rw[hi]at h1;obtain rfl:=Option.some.inj h1;rw[W]at hg;cases hg
 ·
  obtain⟨b4,hq⟩:=o.rest i g hi hl hk hh;cases T:q i with
  |zero=>rw[T]at hq;rw[hq.1]at hg;cases hg
  | succ k=>
    have ea:=hq;rw[T]at hq
    rcases hq with⟨hf,_⟩|⟨_,g',es,hm,b0,dj⟩
    . rw[hf]at hg;cases hg
    have dr:(i==0)=false:=by simpa using b4
    have K:=runT_crowd_go (P:=P) (sl:=C) (i:=i) hi (by rw[dr];exact b0 (w.at d))
    have G:∀op∈MemOp.ofEvents i g.frame.fn g.frame.place es,op.g=i:=λop z=>by obtain⟨e,_,rfl⟩:=Go.Conc.mem_ofEvents z;rfl
    have b3:∀op∈MemOp.ofEvents i g.frame.fn g.frame.place es,op.act.touch?=none:=λop z=>by obtain⟨e,he,rfl⟩:=Go.Conc.mem_ofEvents z;exact touch_mute (hm e he)
    have dx:∀op∈MemOp.ofEvents i g.frame.fn g.frame.place es,∀a,op.act≠.mark (.release a):=λop z a=>by obtain⟨e,he,rfl⟩:=Go.Conc.mem_ofEvents z;have:=hm e he;exact Fj this a
    have cg:∀op∈MemOp.ofEvents i g.frame.fn g.frame.place es,op.act.low (w.at d).heap.size:=λop z=>by obtain⟨e,he,rfl⟩:=Go.Conc.mem_ofEvents z;exact low_mute (hm e he) _
    have hP:=o.cE.tY (w':=w.at d) (kk':=kk) (OO':=OO) (J':=J) (M':=M) (u:=MemOp.ofEvents i g.frame.fn g.frame.place es) (λa b=>a=b) rfl ⟨⟨.refl _,rfl⟩,λ_ _=>rfl⟩ (λb=>.inl rfl) cg (λa b e n x _ _ _ h=>by subst e;exact h.app _) (λj b n v h=>⟨j,rfl,h⟩) (λj b x h=>⟨j,rfl,h⟩) (λj b x h=>⟨j,rfl,h,λ_ h=>h⟩) o.cE.ju
     (λsaid=>noRace_append (o.cE.clean said) (λop z=>G op z) λn a ha op z b hb _=>by rw[b3 op z]at hb;cases hb) (λop z a ha=>by rw[b3 op z]at ha;cases ha) (λm op a z ha=>by rw[b3 op (Array.mem_of_getElem? z)]at ha;cases ha)
     (λn a ha hm h=>h.elim (λ⟨j,h1,W⟩=>.inr (.inl ⟨j,h1,W.app _⟩)) (λ⟨p,h1,W⟩=>.inr (.inr (.inl ⟨p,h1,W.app _⟩))))
    have Y:=B.slip (i:=i) o.ex _ G (λop z=>⟨b3 op z,dx op z⟩)
    have hR:=o.Ok B (i:=i) (a:=g) (a':=g') (x:=g') (w':=w.at d) (λj x hh X=>B.ub o.ex hh _ _ X)
    have cb:sumTo gs.size (upd q i k)+(k+1)=sumTo gs.size q+k:=by have:=sumTo_upd q k id Q;simpa[T]using this
    have H:bJ A Z s f (upd q i k) kk OO J M ((gs.map (woken P g g' (w.at d))).setIfInBounds i g') (w.at d) (t++MemOp.ofEvents i g.frame.fn g.frame.place es):=by
     refine⟨D.lk,hP,λj y=>?_,λj y=>?_,λj y=>?_,λj x X n1 n2 n3=>?_,λj y=>?_,by simpa using Y⟩
     . have l:j≠i:=λe=>hl (e ▸ y)
       obtain⟨I,U,pm,R,p3,p4,p5,p6⟩:=o.live j y;rw[Deaf_other t (Ne.symm l) _ G];exact⟨I,hR.live j l y,pm,R,p3,p4,p5,p6⟩
     . have l:j≠i:=λe=>hk (e ▸ y)
       obtain⟨I,U,R,p3⟩:=o.walk j y;rw[Deaf_other t (Ne.symm l) _ G,upd_ne q k l];exact⟨I,U,R,hR.walk j l y⟩
     . have l:j≠i:=λe=>hh (e ▸ y)
       obtain⟨I,U,R,p3,_⟩:=o.held j y;rw[Deaf_other t (Ne.symm l) _ G];exact⟨I,U,R,p3,hR.held j l y⟩
     . by_cases l:j=i
       . subst l
         rw[Array.getElem?_setIfInBounds_self_of_lt (by simpa using Q)]at X
         obtain rfl:=Option.some.inj X;rw[upd_same,Deaf_own];exact⟨b4,dj⟩
       . rw[upd_ne q k l,Deaf_other t (Ne.symm l) _ G]
         exact hR.rest j x l X n1 n2 n3
     . rw[Deaf_other t (g':=i) (by simp at y;omega) _ G]
       exact D.above j (by simpa using y)
    obtain⟨N',gs',a7,L,t',a8,a9,ad,e1,e2,e3⟩:=bB (sumTo gs.size (upd q i k)) (by omega) f _ (upd q i k) kk OO J M _ (w.at d) C _ (by simp) rfl H
    exact⟨N'+1,gs',a7,L,t',a8,a9,ad,by simp only[runNT,V,K];exact e1,e2,e3⟩
end
end Go.bd
