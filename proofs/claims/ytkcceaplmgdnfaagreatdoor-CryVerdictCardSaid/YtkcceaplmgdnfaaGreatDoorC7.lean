import Derived.Test.YtkcceaplmgdnfaaGreatDoorC6
set_option linter.all false
namespace Go.cG
open Go.Conc
open Go.ConcN (sumTo upd sumTo_upd upd_ne upd_same)
abbrev acZ:=List (Nat × SV)
abbrev adP:=List SV
abbrev adQ:=List jT
inductive TT(P:adS)(m:Mo):aj->ak->adF->Type
 |step {k:aj}{O:ak}{g:adF}(N:acP):g.status=.running->(∀k' O' g',N k' O' g'->TT P m k' O' g')->Bo P m.main k O g N->TT P m k O g
 |ghost {k:aj}{O:ak}{g:adF}(k2:aj) (O2:ak):kS k O k2 O2->TT P m k2 O2 g->TT P m k O g
 |dh {k:aj}{O:ak}{g:adF}(N:acP):g.status=.running->m.dh k O g N->(∀k' O' g',N k' O' g'->TT P m k' O' g')->TT P m k O g
theorem T.tree{P:adS}{m:Mo}(l:m.solo=false){k:aj}{O:ak}{g:adF}(h:T P m (λ_ _ _=>False) k O g):Nonempty (TT P m k O g):=by
 induction h with
 |stop h=>exact h.elim
 |step N a _ i b=>exact⟨.step N a (λc d e f=>Classical.choice (b c d e f)) i⟩
 |ghost a _ b=>exact⟨.ghost _ _ a (Classical.choice b)⟩
 |phase N a _ _ _=>simp_all
 |dh N j a _ b=>exact⟨.dh N j a (λc d e f=>Classical.choice (b c d e f))⟩
def TT.running{P:adS}{m:Mo}{k:aj}{O:ak}{g:adF}(t:TT P m k O g):g.status=.running:=by
 induction t with
 |step _ h _ _=>exact h
 |ghost _ _ _ _ a=>exact a
 |dh _ h _ _=>exact h
structure Node(P:adS) where
 m:Mo
 k:aj
 O:ak
 g:adF
 t:TT P m k O g
inductive pN{P:adS}:Node P->Node P->Prop
 |step {m:Mo}{k k':aj}{O O':ak}{g g':adF}(N:acP) (h1:g.status=.running) (c:∀k' O' g',N k' O' g'->TT P m k' O' g') (h3:Bo P m.main k O g N) (hn:N k' O' g'):pN ⟨m,k',O',g',c k' O' g' hn⟩ ⟨m,k,O,g,.step N h1 c h3⟩
 |ghost {m:Mo}{k:aj}{O:ak}{g:adF}(k2:aj) (O2:ak) (h:kS k O k2 O2) (c:TT P m k2 O2 g):pN ⟨m,k2,O2,g,c⟩ ⟨m,k,O,g,.ghost k2 O2 h c⟩
 |dh {m:Mo}{k k':aj}{O O':ak}{g g':adF}(N:acP) (h0:g.status=.running) (h1:m.dh k O g N) (c:∀k' O' g',N k' O' g'->TT P m k' O' g') (hn:N k' O' g'):pN ⟨m,k',O',g',c k' O' g' hn⟩ ⟨m,k,O,g,.dh N h0 h1 c⟩
def Lj{P:adS}{m:Mo}:∀{k:aj}{O:ak}{g:adF}(t:TT P m k O g),Acc pN (⟨m,k,O,g,t⟩:Node P):=by
 intro k O g t;induction t with
 |step N d c f b=>exact⟨_,λy a=>by cases a with|step _ _ _ _ e=>simp_all⟩
 |ghost i j h c b=>exact⟨_,λy a=>by cases a;exact b⟩
 |dh N l d c b=>exact⟨_,λy a=>by cases a with|dh _ _ _ _ e=>simp_all⟩
def Dd{P:adS}:∀x:Node P,Acc pN x:=λ⟨_,_,_,_,t⟩=>Lj t
def Ll{P:adS}(n:Nat)(f' f:Nat->Node P):Prop:=∃i,i<n/\(∀j,j≠i->f' j=f j)/\pN (f' i) (f i)
def Ag{P:adS}:∀(n:Nat) (f:Nat->Node P),Acc (Ll n) f
 |0,f=>⟨_,λy ⟨i,c,_⟩=>by omega⟩
 | n + 1,f=>by
   have key:∀x:Node P,Acc pN x->∀f:Nat->Node P,f n=x->Acc (Ll (n+1)) f:=by
    intro x d;induction d with
    | intro x _ e=>
      intro f l;have g:=Ag n f;induction g with
      | intro f _ a=>
        refine⟨_,λh ⟨i,c,b,j⟩=>?_⟩;by_cases k:i=n
        . grind
        . exact a h ⟨i,by omega,b,j⟩ (by grind)
   exact key (f n) (Dd (f n)) f rfl
def Lm{P:adS}(n:Nat):WellFounded (Ll (P:=P) n):=⟨Ag n⟩
structure rN(P:adS) where
 S:Type
 r:S->S->Prop
 wf:WellFounded r
 mo:S->Nat->Mo
 main:∀s i,(mo s i).main=(i==0)
 top:Nat
 lk:Nat
 Ul:top<=lk
 Live:S->adC
 Walk:S->adC
 At:S->Nat->acP
 Ah:S->adC
 oI:S->adC
 FC:S->Nat->acP
 deaf:S->adI
 Wd:adr
 Ex:S->adN->adM->adC->adC->Nat->World->Trace->Prop
 Pl:S->Nat->Node P->Prop
 tie:∀s i x y,pN y x->Pl s i x->Pl s i y
def blk(g:adF):adF:={g with status:=.blocked}
def Ln(P:adS)(Wd:adr)(Ah:Prop)(q:Nat)(g g':adF):Prop:=(Ah/\g=blk g'/\q=0)\/jr P Wd q g g'
structure bD{P:adS}(A:rN P)(Z:Base)(s:A.S)(f:Nat->Node P)(q:adI)(kk:adN)(OO:adM)(J M:adC)(gs:acX)(w:World)(t:Trace):Prop where
 lk:Z.lk=A.lk
 cN:cB Z kk OO J M w t
 live:∀i,A.Live s i->i<A.top/\gs[i]?=some (f i).g/\(f i).m=A.mo s i/\(f i).k=kk i/\(f i).O=OO i/\(f i).g.status=.running/\Deaf t i=0/\(i=0\/J i)/\A.Pl s i (f i)
 walk:∀i,A.Walk s i -> ¬A.Live s i/\i<A.top/\Deaf t i=A.deaf s i/\∃g g',gs[i]?=some g/\A.At s i (kk i) (OO i) g'/\Ln P A.Wd (A.Ah s i) (q i) g g'
 held:∀i,A.oI s i -> ¬A.Live s i/\¬A.Walk s i/\i<A.top/\Deaf t i=0/\∃g,gs[i]?=some g/\g.status=.blocked/\A.FC s i (kk i) (OO i) g
 rest:∀i g,gs[i]?=some g -> ¬A.Live s i -> ¬A.Walk s i -> ¬A.oI s i->i≠0/\QuitsD P (q i) (Deaf t i) g
 above:∀j,gs.size<=j->Deaf t j=0
 ex:A.Ex s kk OO J M gs.size w t
structure Ai{P:adS}(A:rN P):Prop where
 own:∀{s:A.S}{kk:adN}{OO:adM}{J M:adC}{n:Nat}{w:World}{t:Trace}{i:Nat}{k':aj}{O':ak}{w':World}{es:adz},A.Ex s kk OO J M n w t->A.Live s i->i<n->Eff (kk i) (OO i) w k' O' w' es->∀u:Trace,(∀op∈u,op.g=i)->kL u->(∀op∈u,∃e,jm (kk i) (OO i) w.heap.size e/\op.act=.ofEvent e)->A.Ex s (bR kk i k') (bR OO i O') J M n w' (t++u)
 slip:∀{s:A.S}{kk:adN}{OO:adM}{J M:adC}{n:Nat}{w:World}{t:Trace}{i:Nat},A.Ex s kk OO J M n w t->∀u:Trace,(∀op∈u,op.g=i)->(∀op∈u,op.act.touch?=none/\∀a,op.act≠.mark (.release a))->A.Ex s kk OO J M n w (t++u)
 draw:∀{s:A.S}{kk:adN}{OO:adM}{J M:adC}{n:Nat}{w:World}{t:Trace},A.Ex s kk OO J M n w t->∀d,A.Ex s kk OO J M n (w.at d) t
 th:∀{s:A.S}{kk:adN}{OO:adM}{J M:adC}{n:Nat}{w:World}{t:Trace}{j:Nat}{g:adF},A.Ex s kk OO J M n w t->A.oI s j->∀k O,A.FC s j k O g->g.again w=g
 wd:∀{s:A.S}{kk:adN}{OO:adM}{J M:adC}{n:Nat}{w:World}{t:Trace},A.Ex s kk OO J M n w t->A.Wd w
 kU:∀{s:A.S}{i:Nat}{k:aj}{O:ak}{g:adF},A.At s i k O g->g.status=.running/\g.offers=none
def xO{P:adS}{a a' g:adF}{w:World}(h:g.again w=g):woken P a a' w g=g:=by
 unfold Go.Conc.woken
 simp_all
def Aj{g:adF}(a:g.status=.running)(b:g.offers=none)(w:World):(blk g).again w=g:=by obtain⟨fr,cs,c,d,off⟩:=g;simp only at a b;subst a b;simp[blk,Goroutine.again]
def jr.first{P:adS}{Wd:adr}{n:Nat}{g g':adF}(h:jr P Wd n g g')(a:g'.status=.running):g.status=.running:=by
 cases n with
 |zero=>rw[show g=g' from h];exact a
 |succ n=>obtain⟨c,b,_⟩:=h;exact b.1
def FD{e:Event}(h:e.mute=true)(a:Addr):MemAct.ofEvent e≠.mark (.release a):=by
 obtain⟨loc,wr,b⟩:=e;cases loc with
 |mark m=>cases m<;>simp_all [Event.mute,MemAct.ofEvent]
 |_=>simp_all [Event.mute]
def runs(gs:acX):Nat:=sumTo gs.size λj=>if(gs[j]?).any (λg=>g.status==.running)then 1 else 0
section
variable{P:adS}{A:rN P}{Z:Base}{s:A.S}{f:Nat->Node P}{q:adI}{kk:adN}{OO:adM}{J M:adC}{gs:acX}{w:World}{t:Trace}
def cB.at(h:cB Z kk OO J M w t)(d:Nat):cB Z kk OO J M (w.at d) t:=⟨λi=>⟨(h.sat i).apart,(h.sat i).cell,(h.sat i).sh,(h.sat i).obj,(h.sat i).tail,(h.sat i).part⟩,h.jA,h.nQ,h.BG,h.clean,h.seen,h.acc,h.n0,h.xI,h.lT,h.pD,h.zt.step (.refl _) rfl (aaE _) (λ_ _=>rfl),h.mine⟩
def bD.awake(B:Ai A)(h:bD A Z s f q kk OO J M gs w t):∀g∈gs,Go.Conc.awake g:=by
 intro g m;obtain⟨i,n,rfl⟩:=Array.mem_iff_getElem.1 m;have d:=aaM n;by_cases j:A.Live s i
 . obtain⟨_,c,_,_,_,b,_⟩:=h.live i j
   have:gs[i]=(f i).g:=by simp_all
   rw[this];intro x a;simp_all
 by_cases k:A.Walk s i
 . obtain⟨_,_,_,g,o,c,b,e⟩:=h.walk i k
   have:gs[i]=g:=by simp_all
   rw[this];rcases e with⟨_,rfl,_⟩|e
   . intro x a;cases a
   . have:=e.first (B.kU b).1
     intro x a;simp_all
 by_cases l:A.oI s i
 . obtain⟨_,_,_,_,g,c,b,_⟩:=h.held i l
   have:gs[i]=g:=by simp_all
   rw[this];intro x a;simp_all
 . have c:=(h.rest i _ d j k l).2
   intro x a;rcases c.status with b|b<;>rw[b]at a<;>cases a
structure Rest(A:rN P)(s:A.S)(f:Nat->Node P)(q:adI)(kk:adN)(OO:adM)(t:Trace)(i:Nat)(gs':acX):Prop where
 live:∀j,j≠i->A.Live s j->gs'[j]?=some (f j).g
 walk:∀j,j≠i->A.Walk s j->∃g g',gs'[j]?=some g/\A.At s j (kk j) (OO j) g'/\Ln P A.Wd (A.Ah s j) (q j) g g'
 held:∀j,j≠i->A.oI s j->∃g,gs'[j]?=some g/\g.status=.blocked/\A.FC s j (kk j) (OO j) g
 rest:∀j g,j≠i->gs'[j]?=some g -> ¬A.Live s j -> ¬A.Walk s j -> ¬A.oI s j->j≠0/\QuitsD P (q j) (Deaf t j) g
def bD.Pm(B:Ai A)(h:bD A Z s f q kk OO J M gs w t){i:Nat}{a a' x:adF}{w':World}(C:∀j g,A.oI s j->A.FC s j (kk j) (OO j) g->g.again w'=g):Rest A s f q kk OO t i ((gs.map (woken P a a' w')).setIfInBounds i x):=by
 have b:∀j,j≠i->((gs.map (woken P a a' w')).setIfInBounds i x)[j]?=(gs[j]?).map (woken P a a' w'):=λj e=>by grind
 refine⟨λj e o=>?_,λj e p=>?_,λj e n=>?_,λj g e r o p n=>?_⟩
 . obtain⟨_,l,_,_,_,k,_⟩:=h.live j o
   rw[b j e,l,aaX,woken_run k]
 . obtain⟨_,_,_,g,c,l,k,d⟩:=h.walk j p
   obtain⟨u,D⟩:=B.kU k;rcases d with⟨d,rfl,v⟩|d
   . by_cases m:woken P a a' w' (blk c)=blk c
     . exact⟨blk c,c,by simp_all,k,.inl ⟨d,rfl,v⟩⟩
     . have E:woken P a a' w' (blk c)=c:=by
        unfold Go.Conc.woken at m ⊢;split at m
        . rename_i F;rw[aaB F];exact Aj u D w'
        simp_all
       exact⟨c,c,by simp_all,k,.inr (by rw[v];rfl)⟩
   . exact⟨g,c,by rw[b j e,l,aaX,woken_run (d.first u)],k,.inr d⟩
 . obtain⟨_,_,_,_,g,l,k,d⟩:=h.held j n
   exact⟨g,by rw[b j e,l,aaX,xO (C j g n d)],k,d⟩
 . rw[b j e]at r
   obtain⟨z,G,rfl⟩:=aaH.1 r;have y:=h.rest j z G o p n;rw[woken_quitsD y.2];exact y
set_option maxHeartbeats 2000000 in
def Lp(B:Ai A)(Fin:acP)
 (al:∀{s:A.S}{f:Nat->Node P}{q:adI}{kk:adN}{OO:adM}{J M:adC}{gs:acX}{w:World}{t:Trace},bD A Z s f q kk OO J M gs w t->∃(i:Nat) (g:adF),gs[i]?=some g/\g.status=.running)
 (dh:∀ {s:A.S}{f:Nat->Node P}{q:adI}{kk:adN}{OO:adM}{J M:adC}{gs:acX}{w:World}{t:Trace}(sl:acS) (i:Nat){k:aj}{O:ak}{g:adF}{N:acP}(h0:g.status=.running) (h:(A.mo s i).dh k O g N) (c:∀k' O' g',N k' O' g'->TT P (A.mo s i) k' O' g'),bD A Z s f q kk OO J M gs w t->A.Live s i->f i=⟨A.mo s i,k,O,g,.dh N h0 h c⟩ ->
   ∃ ops m',runT P (crowd gs w sl) i=(.next m',ops)/\
     ((∃s' f' q' kk' OO' J' M' gs' w' C,m'=crowd gs' w' C/\A.r s' s/\bD A Z s' f' q' kk' OO' J' M' gs' w' (t++ops))\/
      (∃gs' w' C k' O' g',m'=crowd gs' w' C/\dO P Z.W0 k' O' g' gs' w' (t++ops)/\Fin k' O' g')))
 (stop:∀{s:A.S}{f:Nat->Node P}{q:adI}{kk:adN}{OO:adM}{J M:adC}{gs:acX}{w:World}{t:Trace}(sl:acS) (i:Nat){g:adF},bD A Z s f q kk OO J M gs w t->A.Walk s i->gs[i]?=some g->A.At s i (kk i) (OO i) g->q i=0 ->
   ∃ ops m',runT P (crowd gs w sl) i=(.next m',ops)/\
     ((∃s' f' q' kk' OO' J' M' gs' w' C,m'=crowd gs' w' C/\A.r s' s/\bD A Z s' f' q' kk' OO' J' M' gs' w' (t++ops))\/
      (∃gs' w' C k' O' g',m'=crowd gs' w' C/\dO P Z.W0 k' O' g' gs' w' (t++ops)/\Fin k' O' g')\/
      (A.Ah s i/\m'=crowd (gs.setIfInBounds i (blk g)) w sl/\ops=#[]))):
 ∀ (s:A.S) (n:Nat) (f:Nat->Node P) (rr:Nat) (q:adI) (kk:adN) (OO:adM) (J M:adC) (gs:acX) (w:World) (sl:acS) (t:Trace),sumTo gs.size q=n->runs gs=rr->bD A Z s f q kk OO J M gs w t ->
   ∃N gs' w' C t' k' O' g',runNT P N (crowd gs w sl) t=(.next (crowd gs' w' C),t')/\dO P Z.W0 k' O' g' gs' w' t'/\Fin k' O' g':=by
 intro s
 induction s using A.wf.induction with
 |_ s b7=>
 intro n
 induction n using Nat.strongRecOn with
 |ind n b8=>
 intro f
 induction f using(Lm (P:=P) A.top).induction with
 |_ f b9=>
 intro rr
 induction rr using Nat.strongRecOn with
 |ind rr c7=>
 intro q kk OO J M gs w sl t hn c9 D;obtain⟨i0,x0,e0,r0⟩:=al D;obtain⟨i,g,d,C,hi,hg,V⟩:=crowd_pick (P:=P) (w:=w) (sl:=sl) (D.awake B) ⟨i0,_,e0,r0⟩;have Q:i<gs.size:=(zs.1 hi).1;have o:bD A Z s f q kk OO J M gs (w.at d) t:=⟨D.lk,D.cN.at d,D.live,D.walk,D.held,D.rest,D.above,B.draw D.ex d⟩;have bm:∀j,j<A.top->j≠Z.lk:=λj y=>by rw[D.lk];have:=A.Ul;omega
 by_cases hl:A.Live s i
 . obtain ⟨ht,h1,b0,W,h3,h4,h5,h6,h7⟩:=o.live i hl
   rw[hi]at h1;have b1:=aaS h1;cases hf:f i with
   | mk mm k O g0 tr=>
     rw[hf]at b0 W h3 h4 b1 h7;simp only at b0 W h3 h4 b1;subst b1;subst b0;cases tr with
     | step N hr c hs=>
       obtain⟨g',w',es,k',O',aC,ca,b2,aE⟩:=hs (w.at d) (by rw[W,h3];exact o.cN.sat i)
       rw[A.main]at aC;have K:=runT_crowd_go (P:=P) (sl:=C) (i:=i) hi aC;have hE:Eff (kk i) (OO i) (w.at d) k' O' w' es.toList:=by rw[<-W,<-h3];exact ca
       have E:kL (MemOp.ofEvents i g.frame.fn g.frame.place es):=xK (λe he=>hE.evs e he) i _ _
       have G:∀op∈MemOp.ofEvents i g.frame.fn g.frame.place es,op.g=i:=λop z=>by obtain⟨e,_,rfl⟩:=zR z;rfl
       have hP:=o.cN.own (i:=i) (bm i ht) h6 (fn:=g.frame.fn) (pos:=g.frame.place) hE b2;have Y:=B.own o.ex hl Q hE _ G E (λop z=>by obtain⟨e,he,rfl⟩:=zR z;exact⟨e,hE.evs e (by simpa using he),rfl⟩)
       have hR:=o.Pm B (i:=i) (a:=g) (a':=g') (x:=g') (w':=w') (λj x hh X=>B.th Y hh _ _ X)
       have H:bD A Z s (bR f i ⟨A.mo s i,k',O',g',c k' O' g' aE⟩) q (bR kk i k') (bR OO i O') J M ((gs.map (woken P g g' w')).setIfInBounds i g') w' (t++MemOp.ofEvents i g.frame.fn g.frame.place es):=by
        refine⟨D.lk,hP,λj y=>?_,λj y=>?_,λj y=>?_,λj x X n1 n2 n3=>?_,λj y=>?_,by simpa using Y⟩
        . obtain⟨I,U,pm,R,p3,p4,p5,p6⟩:=o.live j y
          by_cases l:j=i
          . subst l
            rw[au,au,au,LF (by simpa using Q),cj E]
            exact⟨I,rfl,rfl,rfl,rfl,(c k' O' g' aE).running,p5,p6.1,A.tie _ _ _ _ (.step N hr c hs aE) h7⟩
          . rw[az _ _ l,az _ _ l,az _ _ l,hR.live j l y,cj E]
            exact⟨I,rfl,pm,R,p3,p4,p5,p6⟩
        . obtain⟨I,U,R,_⟩:=o.walk j y
          have l:j≠i:=λe=>I (e ▸ hl)
          rw[az _ _ l,az _ _ l,cj E];exact⟨I,U,R,hR.walk j l y⟩
        . obtain⟨I,U,R,p3,_⟩:=o.held j y
          have l:j≠i:=λe=>I (e ▸ hl)
          rw[az _ _ l,az _ _ l,cj E];exact⟨I,U,R,p3,hR.held j l y⟩
        . have l:j≠i:=λe=>n1 (e ▸ hl)
          rw[cj E];exact hR.rest j x l X n1 n2 n3
        . rw[cj E];exact D.above j (by simpa using y)
       obtain⟨N',gs',a7,L,t',a8,a9,ab,e1,e2,e3⟩:=b9 _ ⟨i,ht,λj y=>az _ _ y,by rw[au,hf];exact .step N hr c hs aE⟩ _ q _ _ J M _ w' C _ (by simpa using hn) rfl H
       exact⟨N'+1,gs',a7,L,t',a8,a9,ab,by simp only[runNT,V,K];exact e1,e2,e3⟩
     | ghost k2 O2 b3 c=>
       obtain⟨b2,hE⟩:=b3 w (by rw[W,h3];exact D.cN.sat i)
       have bw:Eff (kk i) (OO i) w k2 O2 w (#[]:ads).toList:=by rw[<-W,<-h3];exact hE
       have cb:kL (MemOp.ofEvents i 0  "" #[]):=xK (k:=kk i) (O:=OO i) (B:=0) (λe he=>by simp at he) i _ _
       have av:t++MemOp.ofEvents i 0  "" #[]=t:=by rw[ofEvents_eq];simp
       have hP:=D.cN.own (i:=i) (bm i ht) h6 (fn:=0) (pos:=  "") bw b2
       have Y:=B.own D.ex hl Q bw _ (λop z=>by obtain⟨e,_,rfl⟩:=zR z;rfl) cb (λop z=>by obtain⟨e,he,rfl⟩:=zR z;simp at he)
       rw[av]at hP Y
       have H:bD A Z s (bR f i ⟨A.mo s i,k2,O2,g,c⟩) q (bR kk i k2) (bR OO i O2) J M gs w t:=by
        refine⟨D.lk,hP,λj y=>?_,λj y=>?_,λj y=>?_,D.rest,D.above,Y⟩
        . obtain⟨I,U,pm,R,p3,p4,p5,p6⟩:=D.live j y
          by_cases l:j=i
          . subst l
            rw[au,au,au];exact⟨I,hi,rfl,rfl,rfl,h4,p5,p6.1,A.tie _ _ _ _ (.ghost k2 O2 b3 c) h7⟩
          . rw[az _ _ l,az _ _ l,az _ _ l]
            exact⟨I,U,pm,R,p3,p4,p5,p6⟩
        . have l:j≠i:=λe=>(D.walk j y).1 (e ▸ hl)
          rw[az _ _ l,az _ _ l];exact D.walk j y
        . have l:j≠i:=λe=>(D.held j y).1 (e ▸ hl)
          rw[az _ _ l,az _ _ l];exact D.held j y
       exact b9 _ ⟨i,ht,λj y=>az _ _ y,by rw[au,hf];exact .ghost k2 O2 b3 c⟩ _ q _ _ J M gs w sl t hn rfl H
     | dh N h0 h c=>
       obtain⟨ops,m',e1,e2⟩:=dh C i h0 h c o hl hf
       rcases e2 with⟨s',f',q',kk',OO',J',M',gs',w',ad,rfl,hr,H⟩|⟨gs',w',ad,k',O',g',rfl,hS,hF⟩
       . obtain⟨N',b4,w2,b5,t2,k2,O2,g2,e3,e4,e5⟩:=b7 s' hr _ f' _ q' kk' OO' J' M' gs' w' ad _ rfl rfl H
         exact⟨N'+1,b4,w2,b5,t2,k2,O2,g2,by simp only[runNT,V,e1];exact e3,e4,e5⟩
       . exact⟨1,gs',w',ad,_,k',O',g',by simp only[runNT,V,e1],hS,hF⟩
 by_cases hk:A.Walk s i
 . obtain ⟨_,ht,cv,g1,g',h1,W,h3⟩:=o.walk i hk
   obtain rfl:g1=g:=by rw[hi]at h1;exact(aaS h1).symm
   rcases h3 with⟨_,hb,_⟩|h3
   . rw[hb]at hg;cases hg
   cases T:q i with
   | zero=>
     rw[T]at h3;obtain rfl:g1=g':=h3;obtain⟨ops,m',e1,e2⟩:=stop C i o hk hi W T
     rcases e2 with⟨s',f',q',kk',OO',J',M',gs',w',ad,rfl,hr,H⟩|⟨gs',w',ad,k',O',g',rfl,hS,hF⟩|⟨bA,rfl,rfl⟩
     . obtain⟨N',b4,w2,b5,t2,k2,O2,g2,e3,e4,e5⟩:=b7 s' hr _ f' _ q' kk' OO' J' M' gs' w' ad _ rfl rfl H
       exact⟨N'+1,b4,w2,b5,t2,k2,O2,g2,by simp only[runNT,V,e1];exact e3,e4,e5⟩
     . exact⟨1,gs',w',ad,_,k',O',g',by simp only[runNT,V,e1],hS,hF⟩
     ·
      have ax:∀j,j≠i->(gs.setIfInBounds i (blk g1))[j]?=gs[j]?:=λj y=>aaz (za y)
      have H:bD A Z s f q kk OO J M (gs.setIfInBounds i (blk g1)) (w.at d) t:=by
       refine⟨D.lk,o.cN,λj y=>?_,λj y=>?_,λj y=>?_,λj x X n1 n2 n3=>?_,λj y=>D.above j (by simpa using y),by simpa using o.ex⟩
       . have l:j≠i:=λe=>hl (e ▸ y)
         rw[ax j l];exact o.live j y
       . obtain⟨I,U,R,p3⟩:=o.walk j y
         refine⟨I,U,R,?_⟩
         by_cases l:j=i
         . subst l
           exact⟨blk g1,g1,by rw[LF Q],W,.inl ⟨bA,rfl,T⟩⟩
         . rw[ax j l];exact p3
       . have l:j≠i:=λe=>(o.held j y).2.1 (e ▸ hk)
         rw[ax j l];exact o.held j y
       . have l:j≠i:=λe=>n2 (e ▸ hk)
         rw[ax j l]at X;exact o.rest j x X n1 n2 n3
      have b6:runs (gs.setIfInBounds i (blk g1))<rr:=by
       rw[<-c9];unfold runs;rw[abm];obtain⟨F,hF⟩:∃F:adI,F=λj=>if(gs[j]?).any (λg=>g.status==.running)then 1 else 0:=⟨_,rfl⟩
       have hu:(λj=>if((gs.setIfInBounds i (blk g1))[j]?).any (λg=>g.status==.running)then 1 else 0)=upd F i 0:=by
        funext j
        by_cases l:j=i
        . subst l
          rw[upd_same,LF Q];rfl
        . rw[upd_ne _ _ l,ax j l,hF]
       rw[hu,<-hF];have h1:F i=1:=by rw[hF];simp[hi,hg]
       have W:sumTo gs.size (upd F i 0)+F i=sumTo gs.size F+0:=sumTo_upd F 0 id Q;omega
      obtain⟨N',gs',a7,L,t',a8,a9,ab,e3,e4,e5⟩:=c7 _ b6 q kk OO J M _ _ C t (by simpa using hn) rfl H
      refine⟨N'+1,gs',a7,L,t',a8,a9,ab,?_,e4,e5⟩;simp only[runNT,V,e1];rw[show t++(#[]:Array MemOp)=t by simp]
      exact e3
   | succ k=>
     rw[T]at h3;obtain⟨g2,⟨dj,aC⟩,bB⟩:=h3;have ay:=aC (i==0) (w.at d) (B.wd o.ex);have K:=runT_crowd_go (P:=P) (sl:=C) (i:=i) hi ay;have av:t++MemOp.ofEvents i g1.frame.fn g1.frame.place #[]=t:=by rw[ofEvents_eq];simp
     have hR:=o.Pm B (i:=i) (a:=g1) (a':=g2) (x:=g2) (w':=w.at d) (λj x hh X=>B.th o.ex hh _ _ X)
     have c5:sumTo gs.size (upd q i k)+(k+1)=sumTo gs.size q+k:=by have:=sumTo_upd q k id Q;simpa[T]using this
     have H:bD A Z s f (upd q i k) kk OO J M ((gs.map (woken P g1 g2 (w.at d))).setIfInBounds i g2) (w.at d) t:=by
      refine⟨D.lk,o.cN,λj y=>?_,λj y=>?_,λj y=>?_,λj x X n1 n2 n3=>?_,λj y=>D.above j (by simpa using y),by simpa using o.ex⟩
      . have l:j≠i:=λe=>hl (e ▸ y)
        obtain⟨I,U,pp⟩:=o.live j y;exact⟨I,hR.live j l y,pp⟩
      . obtain⟨I,U,R,p3⟩:=o.walk j y
        refine⟨I,U,R,?_⟩
        by_cases l:j=i
        . subst l
          exact⟨g2,g',by rw[LF (by simpa using Q)],W,.inr (by rw[upd_same];exact bB)⟩
        . rw[upd_ne q k l];exact hR.walk j l y
      . have l:j≠i:=λe=>(o.held j y).2.1 (e ▸ hk)
        obtain⟨I,U,R,p3,_⟩:=o.held j y;exact⟨I,U,R,p3,hR.held j l y⟩
      . have l:j≠i:=λe=>n2 (e ▸ hk)
        rw[upd_ne q k l];exact hR.rest j x l X n1 n2 n3
     obtain⟨N',gs',a7,L,t',a8,a9,ab,e1,e2,e3⟩:=b8 (sumTo gs.size (upd q i k)) (by omega) f _ (upd q i k) kk OO J M _ (w.at d) C _ (by simp) rfl H
     refine⟨N'+1,gs',a7,L,t',a8,a9,ab,?_,e2,e3⟩;simp only[runNT,V,K,av];exact e1
 by_cases hh:A.oI s i
 . obtain⟨_,_,_,_,g1,h1,W,_⟩:=D.held i hh
   rw[hi]at h1;obtain rfl:=aaS h1;rw[W]at hg;cases hg
 ·
  obtain⟨aO,hq⟩:=o.rest i g hi hl hk hh;cases T:q i with
  |zero=>rw[T]at hq;rw[hq.1]at hg;cases hg
  | succ k=>
    have dm:=hq;rw[T]at hq
    rcases hq with⟨hf,_⟩|⟨_,g',es,hm,ay,cg⟩
    . rw[hf]at hg;cases hg
    have cm:(i==0)=false:=by simpa using aO
    have K:=runT_crowd_go (P:=P) (sl:=C) (i:=i) hi (by rw[cm];exact ay (w.at d))
    have G:∀op∈MemOp.ofEvents i g.frame.fn g.frame.place es,op.g=i:=λop z=>by obtain⟨e,_,rfl⟩:=zR z;rfl
    have aL:∀op∈MemOp.ofEvents i g.frame.fn g.frame.place es,op.act.touch?=none:=λop z=>by obtain⟨e,he,rfl⟩:=zR z;exact touch_mute (hm e he)
    have cr:∀op∈MemOp.ofEvents i g.frame.fn g.frame.place es,∀a,op.act≠.mark (.release a):=λop z a=>by obtain⟨e,he,rfl⟩:=zR z;have:=hm e he;exact FD this a
    have c6:∀op∈MemOp.ofEvents i g.frame.fn g.frame.place es,op.act.low (w.at d).heap.size:=λop z=>by obtain⟨e,he,rfl⟩:=zR z;exact low_mute (hm e he) _
    have hP:=o.cN.uH (w':=w.at d) (kk':=kk) (OO':=OO) (J':=J) (M':=M) (u:=MemOp.ofEvents i g.frame.fn g.frame.place es) (λa b=>a=b) rfl ⟨⟨.refl _,rfl⟩,λ_ _=>rfl⟩ (λb=>.inl rfl) c6 (λa b e n x _ _ _ h=>by subst e;exact h.app _) (λj b n v h=>⟨j,rfl,h⟩) (λj b x h=>⟨j,rfl,h⟩) (λj b x h=>⟨j,rfl,h,λ_ h=>h⟩) o.cN.jA
     (λsaid=>noRace_append (o.cN.clean said) (λop z=>G op z) λn a ha op z b hb _=>by rw[aL op z]at hb;cases hb) (λop z a ha=>by rw[aL op z]at ha;cases ha) (λm op a z ha=>by rw[aL op (abd z)]at ha;cases ha)
     (λn a ha hm h=>h.elim (λ⟨j,h1,W⟩=>.inr (.inl ⟨j,h1,W.app _⟩)) (λ⟨p,h1,W⟩=>.inr (.inr (.inl ⟨p,h1,W.app _⟩))))
    have Y:=B.slip (i:=i) o.ex _ G (λop z=>⟨aL op z,cr op z⟩)
    have hR:=o.Pm B (i:=i) (a:=g) (a':=g') (x:=g') (w':=w.at d) (λj x hh X=>B.th o.ex hh _ _ X)
    have c5:sumTo gs.size (upd q i k)+(k+1)=sumTo gs.size q+k:=by have:=sumTo_upd q k id Q;simpa[T]using this
    have H:bD A Z s f (upd q i k) kk OO J M ((gs.map (woken P g g' (w.at d))).setIfInBounds i g') (w.at d) (t++MemOp.ofEvents i g.frame.fn g.frame.place es):=by
     refine⟨D.lk,hP,λj y=>?_,λj y=>?_,λj y=>?_,λj x X n1 n2 n3=>?_,λj y=>?_,by simpa using Y⟩
     . have l:j≠i:=λe=>hl (e ▸ y)
       obtain⟨I,U,pm,R,p3,p4,p5,p6⟩:=o.live j y;rw[Deaf_other t (za l) _ G];exact⟨I,hR.live j l y,pm,R,p3,p4,p5,p6⟩
     . have l:j≠i:=λe=>hk (e ▸ y)
       obtain⟨I,U,R,p3⟩:=o.walk j y;rw[Deaf_other t (za l) _ G,upd_ne q k l];exact⟨I,U,R,hR.walk j l y⟩
     . have l:j≠i:=λe=>hh (e ▸ y)
       obtain⟨I,U,R,p3,_⟩:=o.held j y;rw[Deaf_other t (za l) _ G];exact⟨I,U,R,p3,hR.held j l y⟩
     . by_cases l:j=i
       . subst l
         rw[LF (by simpa using Q)]at X
         obtain rfl:=aaS X;rw[upd_same,Deaf_own];exact⟨aO,cg⟩
       . rw[upd_ne q k l,Deaf_other t (za l) _ G]
         exact hR.rest j x l X n1 n2 n3
     . rw[Deaf_other t (g':=i) (by simp at y;omega) _ G]
       exact D.above j (by simpa using y)
    obtain⟨N',gs',a7,L,t',a8,a9,ab,e1,e2,e3⟩:=b8 (sumTo gs.size (upd q i k)) (by omega) f _ (upd q i k) kk OO J M _ (w.at d) C _ (by simp) rfl H
    exact⟨N'+1,gs',a7,L,t',a8,a9,ab,by simp only[runNT,V,K];exact e1,e2,e3⟩
end
