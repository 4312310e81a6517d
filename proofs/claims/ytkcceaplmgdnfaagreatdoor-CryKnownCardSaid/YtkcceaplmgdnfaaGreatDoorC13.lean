import Derived.Test.YtkcceaplmgdnfaaGreatDoorC12
set_option linter.all false
namespace Go.bu
open Go.Conc
open Go.ConcN (sumTo upd sumTo_upd upd_ne upd_same)
inductive TT(P:Program)(m:Mo):ai->aj->Goroutine->Type
 |step {k:ai}{O:aj}{g:Goroutine}(N:ai->aj->Goroutine->Prop):g.status=.running->(∀k' O' g',N k' O' g'->TT P m k' O' g')->yZ P m.main k O g N->TT P m k O g
 |ghost {k:ai}{O:aj}{g:Goroutine}(k2:ai) (O2:aj):jR k O k2 O2->TT P m k2 O2 g->TT P m k O g
 |cN {k:ai}{O:aj}{g:Goroutine}(N:ai->aj->Goroutine->Prop):g.status=.running->m.cN k O g N->(∀k' O' g',N k' O' g'->TT P m k' O' g')->TT P m k O g
theorem T.tree{P:Program}{m:Mo}(l:m.solo=false){k:ai}{O:aj}{g:Goroutine}(h:T P m (λ_ _ _=>False) k O g):Nonempty (TT P m k O g):=by
 induction h with
 |stop h=>exact h.elim
 |step N a _ i b=>exact⟨.step N a (λc d e f=>Classical.choice (b c d e f)) i⟩
 |ghost a _ b=>exact⟨.ghost _ _ a (Classical.choice b)⟩
 |phase N a _ _ _=>simp_all
 |cN N j a _ b=>exact⟨.cN N j a (λc d e f=>Classical.choice (b c d e f))⟩
theorem TT.running{P:Program}{m:Mo}{k:ai}{O:aj}{g:Goroutine}(t:TT P m k O g):g.status=.running:=by
 induction t with
 |step _ h _ _=>exact h
 |ghost _ _ _ _ a=>exact a
 |cN _ h _ _=>exact h
structure Node(P:Program) where
 m:Mo
 k:ai
 O:aj
 g:Goroutine
 t:TT P m k O g
inductive nM{P:Program}:Node P->Node P->Prop
 |step {m:Mo}{k k':ai}{O O':aj}{g g':Goroutine}(N:ai->aj->Goroutine->Prop) (h1:g.status=.running) (c:∀k' O' g',N k' O' g'->TT P m k' O' g') (h3:yZ P m.main k O g N) (hn:N k' O' g'):nM ⟨m,k',O',g',c k' O' g' hn⟩ ⟨m,k,O,g,.step N h1 c h3⟩
 |ghost {m:Mo}{k:ai}{O:aj}{g:Goroutine}(k2:ai) (O2:aj) (h:jR k O k2 O2) (c:TT P m k2 O2 g):nM ⟨m,k2,O2,g,c⟩ ⟨m,k,O,g,.ghost k2 O2 h c⟩
 |cN {m:Mo}{k k':ai}{O O':aj}{g g':Goroutine}(N:ai->aj->Goroutine->Prop) (h0:g.status=.running) (h1:m.cN k O g N) (c:∀k' O' g',N k' O' g'->TT P m k' O' g') (hn:N k' O' g'):nM ⟨m,k',O',g',c k' O' g' hn⟩ ⟨m,k,O,g,.cN N h0 h1 c⟩
theorem IK{P:Program}{m:Mo}:∀{k:ai}{O:aj}{g:Goroutine}(t:TT P m k O g),Acc nM (⟨m,k,O,g,t⟩:Node P):=by
 intro k O g t;induction t with
 |step N d c f b=>exact⟨_,λy a=>by cases a with|step _ _ _ _ e=>simp_all⟩
 |ghost i j h c b=>exact⟨_,λy a=>by cases a;exact b⟩
 |cN N l d c b=>exact⟨_,λy a=>by cases a with|cN _ _ _ _ e=>simp_all⟩
theorem Bd{P:Program}:∀x:Node P,Acc nM x:=λ⟨_,_,_,_,t⟩=>IK t
def IL{P:Program}(n:Nat)(f' f:Nat->Node P):Prop:=∃i,i<n/\(∀j,j≠i->f' j=f j)/\nM (f' i) (f i)
theorem yg{P:Program}:∀(n:Nat) (f:Nat->Node P),Acc (IL n) f
 |0,f=>⟨_,λy ⟨i,c,_⟩=>by omega⟩
 | n + 1,f=>by
   have key:∀x:Node P,Acc nM x->∀f:Nat->Node P,f n=x->Acc (IL (n+1)) f:=by
    intro x d;induction d with
    | intro x _ e=>
      intro f l;have g:=yg n f;induction g with
      | intro f _ a=>
        refine⟨_,λh ⟨i,c,b,j⟩=>?_⟩;by_cases k:i=n
        . grind
        . exact a h ⟨i,by omega,b,j⟩ (by grind)
   exact key (f n) (Bd (f n)) f rfl
theorem IM{P:Program}(n:Nat):WellFounded (IL (P:=P) n):=⟨yg n⟩
structure pH(P:Program) where
 S:Type
 r:S->S->Prop
 wf:WellFounded r
 mo:S->Nat->Mo
 main:∀s i,(mo s i).main=(i==0)
 top:Nat
 lk:Nat
 Re:top<=lk
 Live:S->Nat->Prop
 Walk:S->Nat->Prop
 At:S->Nat->ai->aj->Goroutine->Prop
 yh:S->Nat->Prop
 mZ:S->Nat->Prop
 Db:S->Nat->ai->aj->Goroutine->Prop
 deaf:S->Nat->Nat
 Wd:World->Prop
 Ex:S->(Nat->ai)->(Nat->aj)->(Nat->Prop)->(Nat->Prop)->Nat->World->Trace->Prop
 ME:S->Nat->Node P->Prop
 tie:∀s i x y,nM y x->ME s i x->ME s i y
def blk(g:Goroutine):Goroutine:={g with status:=.blocked}
def IN(P:Program)(Wd:World->Prop)(yh:Prop)(q:Nat)(g g':Goroutine):Prop:=(yh/\g=blk g'/\q=0)\/iu P Wd q g g'
structure bn{P:Program}(A:pH P)(Z:Base)(s:A.S)(f:Nat->Node P)(q:Nat->Nat)(kk:Nat->ai)(OO:Nat->aj)(J M:Nat->Prop)(gs:Array Goroutine)(w:World)(t:Trace):Prop where
 lk:Z.lk=A.lk
 cA:bX Z kk OO J M w t
 live:∀i,A.Live s i->i<A.top/\gs[i]?=some (f i).g/\(f i).m=A.mo s i/\(f i).k=kk i/\(f i).O=OO i/\(f i).g.status=.running/\Deaf t i=0/\(i=0\/J i)/\A.ME s i (f i)
 walk:∀i,A.Walk s i -> ¬A.Live s i/\i<A.top/\Deaf t i=A.deaf s i/\∃g g',gs[i]?=some g/\A.At s i (kk i) (OO i) g'/\IN P A.Wd (A.yh s i) (q i) g g'
 held:∀i,A.mZ s i -> ¬A.Live s i/\¬A.Walk s i/\i<A.top/\Deaf t i=0/\∃g,gs[i]?=some g/\g.status=.blocked/\A.Db s i (kk i) (OO i) g
 rest:∀i g,gs[i]?=some g -> ¬A.Live s i -> ¬A.Walk s i -> ¬A.mZ s i->i≠0/\QuitsD P (q i) (Deaf t i) g
 above:∀j,gs.size<=j->Deaf t j=0
 ex:A.Ex s kk OO J M gs.size w t
structure yi{P:Program}(A:pH P):Prop where
 own:∀{s:A.S}{kk:Nat->ai}{OO:Nat->aj}{J M:Nat->Prop}{n:Nat}{w:World}{t:Trace}{i:Nat}{k':ai}{O':aj}{w':World}{es:List Event},A.Ex s kk OO J M n w t->A.Live s i->i<n->Eff (kk i) (OO i) w k' O' w' es->∀u:Trace,(∀op∈u,op.g=i)->jK u->(∀op∈u,∃e,iq (kk i) (OO i) w.heap.size e/\op.act=.ofEvent e)->A.Ex s (bF kk i k') (bF OO i O') J M n w' (t++u)
 slip:∀{s:A.S}{kk:Nat->ai}{OO:Nat->aj}{J M:Nat->Prop}{n:Nat}{w:World}{t:Trace}{i:Nat},A.Ex s kk OO J M n w t->∀u:Trace,(∀op∈u,op.g=i)->(∀op∈u,op.act.touch?=none/\∀a,op.act≠.mark (.release a))->A.Ex s kk OO J M n w (t++u)
 draw:∀{s:A.S}{kk:Nat->ai}{OO:Nat->aj}{J M:Nat->Prop}{n:Nat}{w:World}{t:Trace},A.Ex s kk OO J M n w t->∀d,A.Ex s kk OO J M n (w.at d) t
 qP:∀{s:A.S}{kk:Nat->ai}{OO:Nat->aj}{J M:Nat->Prop}{n:Nat}{w:World}{t:Trace}{j:Nat}{g:Goroutine},A.Ex s kk OO J M n w t->A.mZ s j->∀k O,A.Db s j k O g->g.again w=g
 wd:∀{s:A.S}{kk:Nat->ai}{OO:Nat->aj}{J M:Nat->Prop}{n:Nat}{w:World}{t:Trace},A.Ex s kk OO J M n w t->A.Wd w
 jS:∀{s:A.S}{i:Nat}{k:ai}{O:aj}{g:Goroutine},A.At s i k O g->g.status=.running/\g.offers=none
theorem vA{P:Program}{a a' g:Goroutine}{w:World}(h:g.again w=g):woken P a a' w g=g:=by
 unfold Go.Conc.woken
 simp_all
theorem yj{g:Goroutine}(a:g.status=.running)(b:g.offers=none)(w:World):(blk g).again w=g:=by obtain⟨fr,cs,c,d,off⟩:=g;simp only at a b;subst a b;simp[blk,Goroutine.again]
theorem iu.first{P:Program}{Wd:World->Prop}{n:Nat}{g g':Goroutine}(h:iu P Wd n g g')(a:g'.status=.running):g.status=.running:=by
 cases n with
 |zero=>rw[show g=g' from h];exact a
 |succ n=>obtain⟨c,b,_⟩:=h;exact b.1
theorem Dc{e:Event}(h:e.mute=true)(a:Addr):MemAct.ofEvent e≠.mark (.release a):=by
 obtain⟨loc,wr,b⟩:=e;cases loc with
 |mark m=>cases m<;>simp_all [Event.mute,MemAct.ofEvent]
 |_=>simp_all [Event.mute]
def runs(gs:Array Goroutine):Nat:=sumTo gs.size λj=>if(gs[j]?).any (λg=>g.status==.running)then 1 else 0
section
variable{P:Program}{A:pH P}{Z:Base}{s:A.S}{f:Nat->Node P}{q:Nat->Nat}{kk:Nat->ai}{OO:Nat->aj}{J M:Nat->Prop}{gs:Array Goroutine}{w:World}{t:Trace}
theorem bX.at(h:bX Z kk OO J M w t)(d:Nat):bX Z kk OO J M (w.at d) t:=⟨λi=>⟨(h.sat i).apart,(h.sat i).cell,(h.sat i).sh,(h.sat i).obj,(h.sat i).tail,(h.sat i).part⟩,h.iF,h.mz,h.zo,h.clean,h.seen,h.acc,h.n0,h.vt,h.kK,h.nH,h.xw.step (.refl _) rfl (Nat.le_refl _) (λ_ _=>rfl),h.mine⟩
theorem bn.awake(B:yi A)(h:bn A Z s f q kk OO J M gs w t):∀g∈gs,Go.Conc.awake g:=by
 intro g m;obtain⟨i,n,rfl⟩:=Array.mem_iff_getElem.1 m;have d:=Array.getElem?_eq_getElem n;by_cases j:A.Live s i
 . obtain⟨_,c,_,_,_,b,_⟩:=h.live i j
   have:gs[i]=(f i).g:=by simp_all
   rw[this];intro x a;simp_all
 by_cases k:A.Walk s i
 . obtain⟨_,_,_,g,o,c,b,e⟩:=h.walk i k
   have:gs[i]=g:=by simp_all
   rw[this];rcases e with⟨_,rfl,_⟩|e
   . intro x a;cases a
   . have:=e.first (B.jS b).1
     intro x a;simp_all
 by_cases l:A.mZ s i
 . obtain⟨_,_,_,_,g,c,b,_⟩:=h.held i l
   have:gs[i]=g:=by simp_all
   rw[this];intro x a;simp_all
 . have c:=(h.rest i _ d j k l).2
   intro x a;rcases c.status with b|b<;>rw[b]at a<;>cases a
structure Rest(A:pH P)(s:A.S)(f:Nat->Node P)(q:Nat->Nat)(kk:Nat->ai)(OO:Nat->aj)(t:Trace)(i:Nat)(gs':Array Goroutine):Prop where
 live:∀j,j≠i->A.Live s j->gs'[j]?=some (f j).g
 walk:∀j,j≠i->A.Walk s j->∃g g',gs'[j]?=some g/\A.At s j (kk j) (OO j) g'/\IN P A.Wd (A.yh s j) (q j) g g'
 held:∀j,j≠i->A.mZ s j->∃g,gs'[j]?=some g/\g.status=.blocked/\A.Db s j (kk j) (OO j) g
 rest:∀j g,j≠i->gs'[j]?=some g -> ¬A.Live s j -> ¬A.Walk s j -> ¬A.mZ s j->j≠0/\QuitsD P (q j) (Deaf t j) g
theorem bn.MF(B:yi A)(h:bn A Z s f q kk OO J M gs w t){i:Nat}{a a' x:Goroutine}{w':World}(C:∀j g,A.mZ s j->A.Db s j (kk j) (OO j) g->g.again w'=g):Rest A s f q kk OO t i ((gs.map (woken P a a' w')).setIfInBounds i x):=by
 have b:∀j,j≠i->((gs.map (woken P a a' w')).setIfInBounds i x)[j]?=(gs[j]?).map (woken P a a' w'):=λj e=>by grind
 refine⟨λj e o=>?_,λj e p=>?_,λj e n=>?_,λj g e r o p n=>?_⟩
 . obtain⟨_,l,_,_,_,k,_⟩:=h.live j o
   rw[b j e,l,Option.map_some,woken_run k]
 . obtain⟨_,_,_,g,c,l,k,d⟩:=h.walk j p
   obtain⟨u,D⟩:=B.jS k;rcases d with⟨d,rfl,v⟩|d
   . by_cases m:woken P a a' w' (blk c)=blk c
     . exact⟨blk c,c,by simp_all,k,.inl ⟨d,rfl,v⟩⟩
     . have E:woken P a a' w' (blk c)=c:=by
        unfold Go.Conc.woken at m ⊢;split at m
        . rename_i F;rw[if_pos F];exact yj u D w'
        simp_all
       exact⟨c,c,by simp_all,k,.inr (by rw[v];rfl)⟩
   . exact⟨g,c,by rw[b j e,l,Option.map_some,woken_run (d.first u)],k,.inr d⟩
 . obtain⟨_,_,_,_,g,l,k,d⟩:=h.held j n
   exact⟨g,by rw[b j e,l,Option.map_some,vA (C j g n d)],k,d⟩
 . rw[b j e]at r
   obtain⟨z,G,rfl⟩:=Option.map_eq_some_iff.1 r;have y:=h.rest j z G o p n;rw[woken_quitsD y.2];exact y
set_option maxHeartbeats 2000000 in
theorem IP(B:yi A)(Fin:ai->aj->Goroutine->Prop)
 (al:∀{s:A.S}{f:Nat->Node P}{q:Nat->Nat}{kk:Nat->ai}{OO:Nat->aj}{J M:Nat->Prop}{gs:Array Goroutine}{w:World}{t:Trace},bn A Z s f q kk OO J M gs w t->∃(i:Nat) (g:Goroutine),gs[i]?=some g/\g.status=.running)
 (cN:∀ {s:A.S}{f:Nat->Node P}{q:Nat->Nat}{kk:Nat->ai}{OO:Nat->aj}{J M:Nat->Prop}{gs:Array Goroutine}{w:World}{t:Trace}(sl:Option (Nat × Nat)) (i:Nat){k:ai}{O:aj}{g:Goroutine}{N:ai->aj->Goroutine->Prop}(h0:g.status=.running) (h:(A.mo s i).cN k O g N) (c:∀k' O' g',N k' O' g'->TT P (A.mo s i) k' O' g'),bn A Z s f q kk OO J M gs w t->A.Live s i->f i=⟨A.mo s i,k,O,g,.cN N h0 h c⟩ ->
   ∃ ops m',runT P (crowd gs w sl) i=(.next m',ops)/\
     ((∃s' f' q' kk' OO' J' M' gs' w' C,m'=crowd gs' w' C/\A.r s' s/\bn A Z s' f' q' kk' OO' J' M' gs' w' (t++ops))\/
      (∃gs' w' C k' O' g',m'=crowd gs' w' C/\du P Z.W0 k' O' g' gs' w' (t++ops)/\Fin k' O' g')))
 (stop:∀{s:A.S}{f:Nat->Node P}{q:Nat->Nat}{kk:Nat->ai}{OO:Nat->aj}{J M:Nat->Prop}{gs:Array Goroutine}{w:World}{t:Trace}(sl:Option (Nat × Nat)) (i:Nat){g:Goroutine},bn A Z s f q kk OO J M gs w t->A.Walk s i->gs[i]?=some g->A.At s i (kk i) (OO i) g->q i=0 ->
   ∃ ops m',runT P (crowd gs w sl) i=(.next m',ops)/\
     ((∃s' f' q' kk' OO' J' M' gs' w' C,m'=crowd gs' w' C/\A.r s' s/\bn A Z s' f' q' kk' OO' J' M' gs' w' (t++ops))\/
      (∃gs' w' C k' O' g',m'=crowd gs' w' C/\du P Z.W0 k' O' g' gs' w' (t++ops)/\Fin k' O' g')\/
      (A.yh s i/\m'=crowd (gs.setIfInBounds i (blk g)) w sl/\ops=#[]))):
 ∀ (s:A.S) (n:Nat) (f:Nat->Node P) (rr:Nat) (q:Nat->Nat) (kk:Nat->ai) (OO:Nat->aj) (J M:Nat->Prop) (gs:Array Goroutine) (w:World) (sl:Option (Nat × Nat)) (t:Trace),sumTo gs.size q=n->runs gs=rr->bn A Z s f q kk OO J M gs w t ->
   ∃N gs' w' C t' k' O' g',runNT P N (crowd gs w sl) t=(.next (crowd gs' w' C),t')/\du P Z.W0 k' O' g' gs' w' t'/\Fin k' O' g':=by
 intro s
 induction s using A.wf.induction with
 |_ s br=>
 intro n
 induction n using Nat.strongRecOn with
 |ind n bw=>
 intro f
 induction f using(IM (P:=P) A.top).induction with
 |_ f bx=>
 intro rr
 induction rr using Nat.strongRecOn with
 |ind rr cg=>
 intro q kk OO J M gs w sl t hn cm D;obtain⟨i0,x0,e0,r0⟩:=al D;obtain⟨i,g,d,C,hi,hg,V⟩:=crowd_pick (P:=P) (w:=w) (sl:=sl) (D.awake B) ⟨i0,_,e0,r0⟩;have Q:i<gs.size:=(Array.getElem?_eq_some_iff.1 hi).1;have o:bn A Z s f q kk OO J M gs (w.at d) t:=⟨D.lk,D.cA.at d,D.live,D.walk,D.held,D.rest,D.above,B.draw D.ex d⟩;have bA:∀j,j<A.top->j≠Z.lk:=λj y=>by rw[D.lk];have:=A.Re;omega
 by_cases hl:A.Live s i
 . obtain ⟨ht,h1,b4,W,h3,h4,h5,h6,h7⟩:=o.live i hl
   rw[hi]at h1;have b5:=Option.some.inj h1;cases hf:f i with
   | mk mm k O g0 tr=>
     rw[hf]at b4 W h3 h4 b5 h7;simp only at b4 W h3 h4 b5;subst b5;subst b4;cases tr with
     | step N hr c hs=>
       obtain⟨g',w',es,k',O',ay,cr,b6,b1⟩:=hs (w.at d) (by rw[W,h3];exact o.cA.sat i)
       rw[A.main]at ay;have K:=runT_crowd_go (P:=P) (sl:=C) (i:=i) hi ay;have hE:Eff (kk i) (OO i) (w.at d) k' O' w' es.toList:=by rw[<-W,<-h3];exact cr
       have E:jK (MemOp.ofEvents i g.frame.fn g.frame.place es):=vv (λe he=>hE.evs e he) i _ _
       have G:∀op∈MemOp.ofEvents i g.frame.fn g.frame.place es,op.g=i:=λop z=>by obtain⟨e,_,rfl⟩:=Go.Conc.mem_ofEvents z;rfl
       have hP:=o.cA.own (i:=i) (bA i ht) h6 (fn:=g.frame.fn) (pos:=g.frame.place) hE b6;have Y:=B.own o.ex hl Q hE _ G E (λop z=>by obtain⟨e,he,rfl⟩:=Go.Conc.mem_ofEvents z;exact⟨e,hE.evs e (by simpa using he),rfl⟩)
       have hR:=o.MF B (i:=i) (a:=g) (a':=g') (x:=g') (w':=w') (λj x hh X=>B.qP Y hh _ _ X)
       have H:bn A Z s (bF f i ⟨A.mo s i,k',O',g',c k' O' g' b1⟩) q (bF kk i k') (bF OO i O') J M ((gs.map (woken P g g' w')).setIfInBounds i g') w' (t++MemOp.ofEvents i g.frame.fn g.frame.place es):=by
        refine⟨D.lk,hP,λj y=>?_,λj y=>?_,λj y=>?_,λj x X n1 n2 n3=>?_,λj y=>?_,by simpa using Y⟩
        . obtain⟨I,U,pm,R,p3,p4,p5,p6⟩:=o.live j y
          by_cases l:j=i
          . subst l
            rw[az,az,az,Array.getElem?_setIfInBounds_self_of_lt (by simpa using Q),bP E]
            exact⟨I,rfl,rfl,rfl,rfl,(c k' O' g' b1).running,p5,p6.1,A.tie _ _ _ _ (.step N hr c hs b1) h7⟩
          . rw[aA _ _ l,aA _ _ l,aA _ _ l,hR.live j l y,bP E]
            exact⟨I,rfl,pm,R,p3,p4,p5,p6⟩
        . obtain⟨I,U,R,_⟩:=o.walk j y
          have l:j≠i:=λe=>I (e ▸ hl)
          rw[aA _ _ l,aA _ _ l,bP E];exact⟨I,U,R,hR.walk j l y⟩
        . obtain⟨I,U,R,p3,_⟩:=o.held j y
          have l:j≠i:=λe=>I (e ▸ hl)
          rw[aA _ _ l,aA _ _ l,bP E];exact⟨I,U,R,p3,hR.held j l y⟩
        . have l:j≠i:=λe=>n1 (e ▸ hl)
          rw[bP E];exact hR.rest j x l X n1 n2 n3
        . rw[bP E];exact D.above j (by simpa using y)
       obtain⟨N',gs',a7,L,t',a8,a9,ab,e1,e2,e3⟩:=bx _ ⟨i,ht,λj y=>aA _ _ y,by rw[az,hf];exact .step N hr c hs b1⟩ _ q _ _ J M _ w' C _ (by simpa using hn) rfl H
       exact⟨N'+1,gs',a7,L,t',a8,a9,ab,by simp only[runNT,V,K];exact e1,e2,e3⟩
     | ghost k2 O2 b7 c=>
       obtain⟨b6,hE⟩:=b7 w (by rw[W,h3];exact D.cA.sat i)
       have bB:Eff (kk i) (OO i) w k2 O2 w (#[]:Array Event).toList:=by rw[<-W,<-h3];exact hE
       have cv:jK (MemOp.ofEvents i 0  "" #[]):=vv (k:=kk i) (O:=OO i) (B:=0) (λe he=>by simp at he) i _ _
       have ar:t++MemOp.ofEvents i 0  "" #[]=t:=by rw[ofEvents_eq];simp
       have hP:=D.cA.own (i:=i) (bA i ht) h6 (fn:=0) (pos:=  "") bB b6
       have Y:=B.own D.ex hl Q bB _ (λop z=>by obtain⟨e,_,rfl⟩:=Go.Conc.mem_ofEvents z;rfl) cv (λop z=>by obtain⟨e,he,rfl⟩:=Go.Conc.mem_ofEvents z;simp at he)
       rw[ar]at hP Y
       have H:bn A Z s (bF f i ⟨A.mo s i,k2,O2,g,c⟩) q (bF kk i k2) (bF OO i O2) J M gs w t:=by
        refine⟨D.lk,hP,λj y=>?_,λj y=>?_,λj y=>?_,D.rest,D.above,Y⟩
        . obtain⟨I,U,pm,R,p3,p4,p5,p6⟩:=D.live j y
          by_cases l:j=i
          . subst l
            rw[az,az,az];exact⟨I,hi,rfl,rfl,rfl,h4,p5,p6.1,A.tie _ _ _ _ (.ghost k2 O2 b7 c) h7⟩
          . rw[aA _ _ l,aA _ _ l,aA _ _ l]
            exact⟨I,U,pm,R,p3,p4,p5,p6⟩
        . have l:j≠i:=λe=>(D.walk j y).1 (e ▸ hl)
          rw[aA _ _ l,aA _ _ l];exact D.walk j y
        . have l:j≠i:=λe=>(D.held j y).1 (e ▸ hl)
          rw[aA _ _ l,aA _ _ l];exact D.held j y
       exact bx _ ⟨i,ht,λj y=>aA _ _ y,by rw[az,hf];exact .ghost k2 O2 b7 c⟩ _ q _ _ J M gs w sl t hn rfl H
     | cN N h0 h c=>
       obtain⟨ops,m',e1,e2⟩:=cN C i h0 h c o hl hf
       rcases e2 with⟨s',f',q',kk',OO',J',M',gs',w',ad,rfl,hr,H⟩|⟨gs',w',ad,k',O',g',rfl,hS,hF⟩
       . obtain⟨N',b8,w2,b9,t2,k2,O2,g2,e3,e4,e5⟩:=br s' hr _ f' _ q' kk' OO' J' M' gs' w' ad _ rfl rfl H
         exact⟨N'+1,b8,w2,b9,t2,k2,O2,g2,by simp only[runNT,V,e1];exact e3,e4,e5⟩
       . exact⟨1,gs',w',ad,_,k',O',g',by simp only[runNT,V,e1],hS,hF⟩
 by_cases hk:A.Walk s i
 . obtain ⟨_,ht,dx,g1,g',h1,W,h3⟩:=o.walk i hk
   obtain rfl:g1=g:=by rw[hi]at h1;exact(Option.some.inj h1).symm
   rcases h3 with⟨_,hb,_⟩|h3
   . rw[hb]at hg;cases hg
   cases T:q i with
   | zero=>
     rw[T]at h3;obtain rfl:g1=g':=h3;obtain⟨ops,m',e1,e2⟩:=stop C i o hk hi W T
     rcases e2 with⟨s',f',q',kk',OO',J',M',gs',w',ad,rfl,hr,H⟩|⟨gs',w',ad,k',O',g',rfl,hS,hF⟩|⟨c6,rfl,rfl⟩
     . obtain⟨N',b8,w2,b9,t2,k2,O2,g2,e3,e4,e5⟩:=br s' hr _ f' _ q' kk' OO' J' M' gs' w' ad _ rfl rfl H
       exact⟨N'+1,b8,w2,b9,t2,k2,O2,g2,by simp only[runNT,V,e1];exact e3,e4,e5⟩
     . exact⟨1,gs',w',ad,_,k',O',g',by simp only[runNT,V,e1],hS,hF⟩
     ·
      have av:∀j,j≠i->(gs.setIfInBounds i (blk g1))[j]?=gs[j]?:=λj y=>Array.getElem?_setIfInBounds_ne (Ne.symm y)
      have H:bn A Z s f q kk OO J M (gs.setIfInBounds i (blk g1)) (w.at d) t:=by
       refine⟨D.lk,o.cA,λj y=>?_,λj y=>?_,λj y=>?_,λj x X n1 n2 n3=>?_,λj y=>D.above j (by simpa using y),by simpa using o.ex⟩
       . have l:j≠i:=λe=>hl (e ▸ y)
         rw[av j l];exact o.live j y
       . obtain⟨I,U,R,p3⟩:=o.walk j y
         refine⟨I,U,R,?_⟩
         by_cases l:j=i
         . subst l
           exact⟨blk g1,g1,by rw[Array.getElem?_setIfInBounds_self_of_lt Q],W,.inl ⟨c6,rfl,T⟩⟩
         . rw[av j l];exact p3
       . have l:j≠i:=λe=>(o.held j y).2.1 (e ▸ hk)
         rw[av j l];exact o.held j y
       . have l:j≠i:=λe=>n2 (e ▸ hk)
         rw[av j l]at X;exact o.rest j x X n1 n2 n3
      have bm:runs (gs.setIfInBounds i (blk g1))<rr:=by
       rw[<-cm];unfold runs;rw[Array.size_setIfInBounds];obtain⟨F,hF⟩:∃F:Nat->Nat,F=λj=>if(gs[j]?).any (λg=>g.status==.running)then 1 else 0:=⟨_,rfl⟩
       have hu:(λj=>if((gs.setIfInBounds i (blk g1))[j]?).any (λg=>g.status==.running)then 1 else 0)=upd F i 0:=by
        funext j
        by_cases l:j=i
        . subst l
          rw[upd_same,Array.getElem?_setIfInBounds_self_of_lt Q];rfl
        . rw[upd_ne _ _ l,av j l,hF]
       rw[hu,<-hF];have h1:F i=1:=by rw[hF];simp[hi,hg]
       have W:sumTo gs.size (upd F i 0)+F i=sumTo gs.size F+0:=sumTo_upd F 0 id Q;omega
      obtain⟨N',gs',a7,L,t',a8,a9,ab,e3,e4,e5⟩:=cg _ bm q kk OO J M _ _ C t (by simpa using hn) rfl H
      refine⟨N'+1,gs',a7,L,t',a8,a9,ab,?_,e4,e5⟩;simp only[runNT,V,e1];rw[show t++(#[]:Array MemOp)=t by simp]
      exact e3
   | succ k=>
     rw[T]at h3;obtain⟨g2,⟨dy,ay⟩,c7⟩:=h3;have ax:=ay (i==0) (w.at d) (B.wd o.ex);have K:=runT_crowd_go (P:=P) (sl:=C) (i:=i) hi ax;have ar:t++MemOp.ofEvents i g1.frame.fn g1.frame.place #[]=t:=by rw[ofEvents_eq];simp
     have hR:=o.MF B (i:=i) (a:=g1) (a':=g2) (x:=g2) (w':=w.at d) (λj x hh X=>B.qP o.ex hh _ _ X)
     have ca:sumTo gs.size (upd q i k)+(k+1)=sumTo gs.size q+k:=by have:=sumTo_upd q k id Q;simpa[T]using this
     have H:bn A Z s f (upd q i k) kk OO J M ((gs.map (woken P g1 g2 (w.at d))).setIfInBounds i g2) (w.at d) t:=by
      refine⟨D.lk,o.cA,λj y=>?_,λj y=>?_,λj y=>?_,λj x X n1 n2 n3=>?_,λj y=>D.above j (by simpa using y),by simpa using o.ex⟩
      . have l:j≠i:=λe=>hl (e ▸ y)
        obtain⟨I,U,pp⟩:=o.live j y;exact⟨I,hR.live j l y,pp⟩
      . obtain⟨I,U,R,p3⟩:=o.walk j y
        refine⟨I,U,R,?_⟩
        by_cases l:j=i
        . subst l
          exact⟨g2,g',by rw[Array.getElem?_setIfInBounds_self_of_lt (by simpa using Q)],W,.inr (by rw[upd_same];exact c7)⟩
        . rw[upd_ne q k l];exact hR.walk j l y
      . have l:j≠i:=λe=>(o.held j y).2.1 (e ▸ hk)
        obtain⟨I,U,R,p3,_⟩:=o.held j y;exact⟨I,U,R,p3,hR.held j l y⟩
      . have l:j≠i:=λe=>n2 (e ▸ hk)
        rw[upd_ne q k l];exact hR.rest j x l X n1 n2 n3
     obtain⟨N',gs',a7,L,t',a8,a9,ab,e1,e2,e3⟩:=bw (sumTo gs.size (upd q i k)) (by omega) f _ (upd q i k) kk OO J M _ (w.at d) C _ (by simp) rfl H
     refine⟨N'+1,gs',a7,L,t',a8,a9,ab,?_,e2,e3⟩;simp only[runNT,V,K,ar];exact e1
 by_cases hh:A.mZ s i
 . obtain⟨_,_,_,_,g1,h1,W,_⟩:=D.held i hh
   rw[hi]at h1;obtain rfl:=Option.some.inj h1;rw[W]at hg;cases hg
 ·
  obtain⟨b3,hq⟩:=o.rest i g hi hl hk hh;cases T:q i with
  |zero=>rw[T]at hq;rw[hq.1]at hg;cases hg
  | succ k=>
    have e7:=hq;rw[T]at hq
    rcases hq with⟨hf,_⟩|⟨_,g',es,hm,ax,dj⟩
    . rw[hf]at hg;cases hg
    have dm:(i==0)=false:=by simpa using b3
    have K:=runT_crowd_go (P:=P) (sl:=C) (i:=i) hi (by rw[dm];exact ax (w.at d))
    have G:∀op∈MemOp.ofEvents i g.frame.fn g.frame.place es,op.g=i:=λop z=>by obtain⟨e,_,rfl⟩:=Go.Conc.mem_ofEvents z;rfl
    have b2:∀op∈MemOp.ofEvents i g.frame.fn g.frame.place es,op.act.touch?=none:=λop z=>by obtain⟨e,he,rfl⟩:=Go.Conc.mem_ofEvents z;exact touch_mute (hm e he)
    have dr:∀op∈MemOp.ofEvents i g.frame.fn g.frame.place es,∀a,op.act≠.mark (.release a):=λop z a=>by obtain⟨e,he,rfl⟩:=Go.Conc.mem_ofEvents z;have:=hm e he;exact Dc this a
    have cb:∀op∈MemOp.ofEvents i g.frame.fn g.frame.place es,op.act.low (w.at d).heap.size:=λop z=>by obtain⟨e,he,rfl⟩:=Go.Conc.mem_ofEvents z;exact low_mute (hm e he) _
    have hP:=o.cA.r9 (w':=w.at d) (kk':=kk) (OO':=OO) (J':=J) (M':=M) (u:=MemOp.ofEvents i g.frame.fn g.frame.place es) (λa b=>a=b) rfl ⟨⟨.refl _,rfl⟩,λ_ _=>rfl⟩ (λb=>.inl rfl) cb (λa b e n x _ _ _ h=>by subst e;exact h.app _) (λj b n v h=>⟨j,rfl,h⟩) (λj b x h=>⟨j,rfl,h⟩) (λj b x h=>⟨j,rfl,h,λ_ h=>h⟩) o.cA.iF
     (λsaid=>noRace_append (o.cA.clean said) (λop z=>G op z) λn a ha op z b hb _=>by rw[b2 op z]at hb;cases hb) (λop z a ha=>by rw[b2 op z]at ha;cases ha) (λm op a z ha=>by rw[b2 op (Array.mem_of_getElem? z)]at ha;cases ha)
     (λn a ha hm h=>h.elim (λ⟨j,h1,W⟩=>.inr (.inl ⟨j,h1,W.app _⟩)) (λ⟨p,h1,W⟩=>.inr (.inr (.inl ⟨p,h1,W.app _⟩))))
    have Y:=B.slip (i:=i) o.ex _ G (λop z=>⟨b2 op z,dr op z⟩)
    have hR:=o.MF B (i:=i) (a:=g) (a':=g') (x:=g') (w':=w.at d) (λj x hh X=>B.qP o.ex hh _ _ X)
    have ca:sumTo gs.size (upd q i k)+(k+1)=sumTo gs.size q+k:=by have:=sumTo_upd q k id Q;simpa[T]using this
    have H:bn A Z s f (upd q i k) kk OO J M ((gs.map (woken P g g' (w.at d))).setIfInBounds i g') (w.at d) (t++MemOp.ofEvents i g.frame.fn g.frame.place es):=by
     refine⟨D.lk,hP,λj y=>?_,λj y=>?_,λj y=>?_,λj x X n1 n2 n3=>?_,λj y=>?_,by simpa using Y⟩
     . have l:j≠i:=λe=>hl (e ▸ y)
       obtain⟨I,U,pm,R,p3,p4,p5,p6⟩:=o.live j y;rw[Deaf_other t (Ne.symm l) _ G];exact⟨I,hR.live j l y,pm,R,p3,p4,p5,p6⟩
     . have l:j≠i:=λe=>hk (e ▸ y)
       obtain⟨I,U,R,p3⟩:=o.walk j y;rw[Deaf_other t (Ne.symm l) _ G,upd_ne q k l];exact⟨I,U,R,hR.walk j l y⟩
     . have l:j≠i:=λe=>hh (e ▸ y)
       obtain⟨I,U,R,p3,_⟩:=o.held j y;rw[Deaf_other t (Ne.symm l) _ G];exact⟨I,U,R,p3,hR.held j l y⟩
     . by_cases l:j=i
       . subst l
         rw[Array.getElem?_setIfInBounds_self_of_lt (by simpa using Q)]at X
         obtain rfl:=Option.some.inj X;rw[upd_same,Deaf_own];exact⟨b3,dj⟩
       . rw[upd_ne q k l,Deaf_other t (Ne.symm l) _ G]
         exact hR.rest j x l X n1 n2 n3
     . rw[Deaf_other t (g':=i) (by simp at y;omega) _ G]
       exact D.above j (by simpa using y)
    obtain⟨N',gs',a7,L,t',a8,a9,ab,e1,e2,e3⟩:=bw (sumTo gs.size (upd q i k)) (by omega) f _ (upd q i k) kk OO J M _ (w.at d) C _ (by simp) rfl H
    exact⟨N'+1,gs',a7,L,t',a8,a9,ab,by simp only[runNT,V,K];exact e1,e2,e3⟩
end
end Go.bu
