import Derived.Conc.Beside
import Derived.Test.YtldmpfccgajobaaGreatDoorV1
set_option linter.all false
namespace Go.bG
open Go.Conc
def dE(P:Program)(W0:World)(k:ag)(O:ah)(g:Goroutine)(gs:Array Goroutine)(w:World)(t:Trace):Prop:=
 ∃ (Shun:Loc->Prop) (q:Nat->Nat),gs[0]?=some g/\Leavers P t gs q/\Past Shun w.heap.size t/\
   (∀a,Shun (.cell a)->a.block<w.heap.size/\¬aK O a.block a.off/\k.cell a.block a.off=none)/\(∀r,Shun (.obj r)->r<w.heap.size/\∀o,O r≠some (.obj o))/\Sat k O w/\vt W0 w/\∀b x,O b=some x->W0.heap.size<=b
def xk(P:Program)(k:ag)(O:ah)(g:Goroutine)(N:ag->ah->Goroutine->Prop):Prop:=∀W0 gs w sl t,dE P W0 k O g gs w t->∃n a c b d e f g',runNT P n (crowd gs w sl) t=(.next (crowd a c b),d)/\dE P W0 e f g' a c d/\N e f g'
def xl(P:Program)(main:Bool)(k:ag)(O:ah)(g:Goroutine)(N:ag->ah->Goroutine->Prop):Prop:=∀w,Sat k O w->∃g' a es b c,stepG P main g w=.go g' a es/\Eff k O w b c a es.toList/\Sat b c a/\N b c g'
def jM(k:ag)(O:ah)(a:ag)(b:ah):Prop:=∀w,Sat k O w->Sat a b w/\Eff k O w a b w []
structure Mo where
 main:Bool
 solo:Bool
 cJ:ag->ah->Goroutine->(ag->ah->Goroutine->Prop)->Prop
inductive T(P:Program)(m:Mo)(Q:ag->ah->Goroutine->Prop):ag->ah->Goroutine->Prop
 |stop {k:ag}{O:ah}{g:Goroutine}:Q k O g->T P m Q k O g
 |step {k:ag}{O:ah}{g:Goroutine}(N:ag->ah->Goroutine->Prop):g.status=.running->(∀k' O' g',N k' O' g'->T P m Q k' O' g')->xl P m.main k O g N->T P m Q k O g
 |ghost {k k2:ag}{O O2:ah}{g:Goroutine}:jM k O k2 O2->T P m Q k2 O2 g->T P m Q k O g
 |phase {k:ag}{O:ah}{g:Goroutine}(N:ag->ah->Goroutine->Prop):m.solo=true->(∀k' O' g',N k' O' g'->T P m Q k' O' g')->xk P k O g N->T P m Q k O g
 |cJ {k:ag}{O:ah}{g:Goroutine}(N:ag->ah->Goroutine->Prop):g.status=.running->m.cJ k O g N->(∀k' O' g',N k' O' g'->T P m Q k' O' g')->T P m Q k O g
inductive bV where
 |any
 |exact
 |tok (b e:Nat)
inductive AV where
 |lit (v:Value)
 |bz
 |agg (l:List AV)
 |cq (l:List AV)
 |sl (k:Nat) (es:List AV) (sp:bV)
 |cp (v:AV) (off:Nat)
 |kp (b:Nat) (l:List AV) (hole:List Nat) (off:Nat)
 |ref (b off:Nat)
 |eu (b off len cap:Nat)
 |fn (f:Fn) (first captured:List AV)
 |mS (t:TypeId) (v:AV)
 |map (b:Nat)
 |chan (b:Nat)
instance:Inhabited AV:=⟨.bz⟩
def AV.cells:AV->List AV
 |.agg l=>l
 |v=>[v]
def flatten(es:List AV):List AV:=es.flatMap AV.cells
def bV.fits(b off len kk cap:Nat):bV->Prop
 |.any=>True
 |.exact=>cap=len
 |.tok a e=>a=b/\e=off+len*kk
inductive V(k:ag):Value->AV->Prop
 |lit (v:Value):V k v (.lit v)
 |bz (v:Value):V k v .bz
 |agg (c:Array Value) (l:List AV):c.size=l.length->(∀(i:Nat) v a,c[i]?=some v->l[i]?=some a->V k v a)->V k (.agg c) (.agg l)
 |cq (c:Array Value) (l:List AV):c.size=l.length->(∀(i:Nat) v a,c[i]?=some v->l[i]?=some a->V k v a)->V k (.tuple c) (.cq l)
 | sl (b off cap kk N:Nat) (E:TypeId) (es:List AV) (sp:bV) (c:Nat->Value):es.length<=cap->k.sh b=some (E,N)->off+cap*kk<=N->(∀e∈es,e.cells.length=kk) ->
    (∀j,j<(flatten es).length->k.cell b (off+j)=some (c j)/\flat (c j)=true)->(∀(j:Nat) a,(flatten es)[j]?=some a->V k (c j) a)->sp.fits b off es.length kk cap ->
    V k (.slice (some ⟨b,off,none⟩) es.length cap) (.sl kk es sp)
 |slnil (a:Option Addr) (kk:Nat) (sp:bV):(sp=.any\/(sp=.exact/\a.isSome=true))->V k (.slice a 0 0) (.sl kk [] sp)
 | cp (b base off N:Nat) (E:TypeId) (v:AV) (c:Nat->Value):k.sh b=some (E,N)->base+v.cells.length<=N->(∀j,j<v.cells.length->k.cell b (base+j)=some (c j)/\flat (c j)=true)->(∀(j:Nat) a,v.cells[j]?=some a->V k (c j) a) ->
    V k (.pointer (some ⟨b,base+off,none⟩)) (.cp v off)
 | kp (b off N:Nat) (E:TypeId) (l:List AV) (hole:List Nat) (c:Nat->Value):k.sh b=some (E,N)->l.length<=N->(∀j,j<l.length->j∉hole->k.cell b j=some (c j)/\flat (c j)=true)->(∀(j:Nat) a,j∉hole->l[j]?=some a->V k (c j) a) ->
    V k (.pointer (some ⟨b,off,none⟩)) (.kp b l hole off)
 |ref (b off:Nat):V k (.pointer (some ⟨b,off,none⟩)) (.ref b off)
 |eu (b off len cap:Nat):V k (.slice (some ⟨b,off,none⟩) len cap) (.eu b off len cap)
 | fn (f:Fn) (c1 c2:Array Value) (l1 l2:List AV):c1.size=l1.length->(∀(i:Nat) v a,c1[i]?=some v->l1[i]?=some a->V k v a)->c2.size=l2.length->(∀(i:Nat) v a,c2[i]?=some v->l2[i]?=some a->V k v a) ->
    V k (.func f c1 c2) (.fn f l1 l2)
 |mS (t:TypeId) (v:Value) (a:AV):V k v a->V k (.iface t v) (.mS t a)
 |map (b:Nat):V k (.map (some b)) (.map b)
 |chan (b:Nat):V k (.chan (some b)) (.chan b)
theorem V.mono{k k':ag}(i:k.Le k'){v:Value}{a:AV}(h:V k v a):V k' v a:=by
 induction h with
 |lit v=>exact .lit v
 |bz v=>exact .bz v
 |agg c l d _ e=>exact .agg c l d e
 |cq c l d _ e=>exact .cq c l d e
 |sl b off cap m N E es sp c d u n w r _ x e=>exact .sl b off cap m N E es sp c d (i.sh _ _ u) n w (λj g=>⟨i.cell _ _ _ (r j g).1,(r j g).2⟩) e x
 |slnil a m sp h=>exact .slnil a m sp h
 |cp b base off N E v c o hb d _ e=>exact .cp b base off N E v c (i.sh _ _ o) hb (λj g=>⟨i.cell _ _ _ (d j g).1,(d j g).2⟩) e
 |kp b off N E l hole c o hb d _ e=>exact .kp b off N E l hole c (i.sh _ _ o) hb (λj g s=>⟨i.cell _ _ _ (d j g s).1,(d j g s).2⟩) e
 |ref b off=>exact .ref b off
 |eu b off len cap=>exact .eu b off len cap
 |fn f y z A B d _ n _ p q=>exact .fn f y z A B d p n q
 |mS t v a _ e=>exact .mS t v a e
 |map b=>exact .map b
 |chan b=>exact .chan b
def Vs(k:ag)(c:List Value)(l:List AV):Prop:=c.length=l.length/\∀(i:Nat) v a,c[i]?=some v->l[i]?=some a->V k v a
theorem Vs.nil{k:ag}:Vs k [] []:=⟨rfl,λi v a h=>by simp at h⟩
theorem Vs.cons{k:ag}{v:Value}{a:AV}{c:List Value}{l:List AV}(h:V k v a)(e:Vs k c l):Vs k (v::c) (a::l):=
 ⟨by simp[e.1],λi f g b d=>by
   cases i with
   |zero=>simp at b d;subst b;subst d;exact h
   |succ i=>simp at b d;exact e.2 i f g b d⟩
theorem Vs.mono{k k':ag}(b:k.Le k'){c:List Value}{l:List AV}(h:Vs k c l):Vs k' c l:=⟨h.1,λi v a d e=>(h.2 i v a d e).mono b⟩
theorem Vs.append{k:ag}{c c':List Value}{l e:List AV}(h:Vs k c l)(f:Vs k c' e):Vs k (c++c') (l++e):=
 ⟨by simp[h.1,f.1],λi v a b d=>by
   by_cases g:i<c.length
   . rw[List.getElem?_append_left g]at b
     rw[List.getElem?_append_left (by rw[<-h.1];exact g)]at d;exact h.2 i v a b d
   . rw[List.getElem?_append_right (by omega)]at b
     rw[List.getElem?_append_right (by rw[<-h.1];omega),<-h.1]at d;exact f.2 _ v a b d⟩
abbrev Env:=Nat->AV
def Env.upd(env:Env)(t:Nat)(v:AV):Env:=λu=>if u=t then v else env u
def dY(k:ag)(tmps:Array Value)(env:Env):Prop:=∀t,t<tmps.size->V k (tmps.getD t undef) (env t)
theorem dY.mono{k k':ag}{tmps:Array Value}{env:Env}(h:dY k tmps env)(a:k.Le k'):dY k' tmps env:=λt b=>(h t b).mono a
structure mT where
 state:LoopState
 pending:Option Code
 fn:FuncId
 n:Nat
 env:Env
 params:Array Tmp
 assign:Code
 body:Code
 defers:Nat
inductive ji where
 |cells (l:List AV)
 |tail (n:Nat)
 |part (f:Nat->Option Value)
 |map (m:List (AV × AV))
 |loop (l:mT)
 |raw (o:Obj)
 |fK
abbrev aa:=Nat->Option ji
def aa.set(σ:aa)(b:Nat)(x:ji):aa:=λc=>if c=b then some x else σ c
def aa.del(σ:aa)(b:Nat):aa:=λc=>if c=b then none else σ c
def aa.Le(σ σ':aa):Prop:=∀b x,σ b=some x->σ' b=some x
inductive kf(k:ag):Own->ji->Prop
 |cells (c:Array Value) (e:TypeId) (l:List AV):c.size=l.length->(∀(i:Nat) v a,c[i]?=some v->l[i]?=some a->V k v a)->(∀(i:Nat) v,c[i]?=some v->flat v=true)->kf k (.obj (.cells c e (0,0))) (.cells l)
 |tail (n:Nat):kf k (.tail n) (.tail n)
 |part (f:Nat->Option Value):kf k (.part f) (.part f)
 |map (es:Array MapEntry) (clock:Nat) (m:List (AV × AV)):es.size=m.length->(∀(i:Nat) e p,es[i]?=some e->m[i]?=some p->V k e.key p.1/\V k e.val p.2)->kf k (.obj (.map es clock)) (.map m)
 |loop (a:mT) (tmps:Array Value):tmps.size=a.n->dY k tmps a.env->kf k (.obj (.loop ⟨a.state,a.pending,a.fn,tmps,a.params,a.assign,a.body,a.defers⟩)) (.loop a)
 |raw (o:Obj):fU o=false->kf k (.obj o) (.raw o)
theorem kf.mono{k k':ag}(g:k.Le k'){x:Own}{a:ji}(h:kf k x a):kf k' x a:=by
 cases h with
 |cells c e l d b r=>exact .cells c e l d (λi v a s t=>(b i v a s t).mono g) r
 |tail n=>exact .tail n
 |part f=>exact .part f
 |map es clock m d b=>exact .map es clock m d λi e p j q=>⟨(b i e p j q).1.mono g,(b i e p j q).2.mono g⟩
 |loop a tmps d b=>exact .loop a tmps d (b.mono g)
 |raw o h=>exact .raw o h
def Rel(k:ag)(O:ah)(σ:aa):Prop:=(∀b a,σ b=some a->a≠.fK->∃x,O b=some x/\kf k x a)/\∀b,σ b=some .fK->O b=none/\∃s,k.sh b=some s
theorem Rel.mono{k k':ag}{O:ah}{σ:aa}(h:Rel k O σ)(f:k.Le k'):Rel k' O σ:=⟨λb a e n=>let ⟨x,c,d⟩:=h.1 b a e n;⟨x,c,d.mono f⟩,λb e=>let ⟨c,s,d⟩:=h.2 b e;⟨c,s,f.sh _ _ d⟩⟩
theorem Rel.le{k:ag}{O:ah}{σ σ':aa}(h:Rel k O σ)(c:σ'.Le σ):Rel k O σ':=⟨λb a e=>h.1 b a (c b a e),λb e=>h.2 b (c b _ e)⟩
theorem kf.FP{k:ag}{x:Own}{a:ji}(h:kf k x a):a≠.fK:=by cases h<;>simp
theorem Rel.set{k:ag}{O:ah}{σ:aa}(h:Rel k O σ){b:Nat}{x:Own}{a:ji}(i:kf k x a):Rel k (O.set b x) (σ.set b a):=⟨λc y e j=>by
 by_cases d:c=b
 . subst d
   simp only[aa.set,if_true,Option.some.injEq]at e;subst e;exact⟨x,by simp[ah.set],i⟩
 . simp only[aa.set,d,if_false]at e
   obtain⟨z,f,g⟩:=h.1 c y e j;exact⟨z,by simp[ah.set,d,f],g⟩,λc e=>by
 by_cases d:c=b
 . subst d
   simp only[aa.set,if_true,Option.some.injEq]at e;exact absurd e i.FP
 . simp only[aa.set,d,if_false]at e
   obtain⟨f,g⟩:=h.2 c e;exact⟨by simp[ah.set,d,f],g⟩⟩
theorem Rel.drop{k:ag}{O:ah}{σ:aa}(h:Rel k O σ)(b:Nat)(x:Own):Rel k (O.set b x) (σ.del b):=⟨λc y e g=>by
 unfold aa.del at e;split at e
 . cases e
 . next a=>obtain⟨z,d,f⟩:=h.1 c y e g;exact⟨z,by simp[ah.set,a,d],f⟩,λc e=>by
 unfold aa.del at e;split at e
 . cases e
 . next a=>obtain⟨d,f⟩:=h.2 c e;exact⟨by simp[ah.set,a,d],f⟩⟩
theorem Rel.isNone{k:ag}{O:ah}{σ:aa}(h:Rel k O σ){b:Nat}(hb:O b=none)(g:k.sh b=none):σ b=none:=by
 cases e:σ b with
 |none=>rfl
 | some a=>
   by_cases c:a=.fK
   . subst c
     obtain⟨_,s,d⟩:=h.2 b e;rw[g]at d;cases d
   . obtain⟨x,f,_⟩:=h.1 b a e c;rw[hb]at f;cases f
theorem dY.upd{k:ag}{tmps:Array Value}{env:Env}(h:dY k tmps env){t:Nat}{v:Value}{a:AV}(c:V k v a):dY k (tmps.setIfInBounds t v) (env.upd t a):=λu d=>by
 have b:u<tmps.size:=by simpa using d
 by_cases e:u=t
 . subst e
   have:(tmps.setIfInBounds u v).getD u undef=v:=by simp[Array.getD,b]
   rw[this];simpa[Env.upd]using c
 . have:(tmps.setIfInBounds t v).getD u undef=tmps.getD u undef:=by
    simp only[Array.getD_eq_getD_getElem?];rw[Array.getElem?_setIfInBounds_ne (Ne.symm e)]
   rw[this];simpa[Env.upd,e]using h u b
def am(env:Env):Operand->AV
 |.tmp t=>env t
 |.const v=>.lit v
 |.global g=>.ref g 0
 |.func f=>.fn (.func f) [] []
def Operand.ok(n:Nat):Operand->Bool
 |.tmp t=>t<n
 |_=>true
theorem V.eval{k:ag}{fr:Frame}{env:Env}(h:dY k fr.tmps env){n:Nat}(b:fr.tmps.size=n)(o:Operand)(c:Operand.ok n o=true):V k (fr.eval o) (am env o):=by
 cases o with
 |tmp t=>exact h t (by simpa[Operand.ok,b]using c)
 |const v=>exact .lit v
 |global g=>exact .ref g 0
 |func f=>exact .fn _ _ _ _ _ rfl (λi v a h=>by simp at h) rfl (λi v a h=>by simp at h)
inductive kL where
 |mark (r:Nat)
 |call (f:Fn) (captured args:List AV)
def te(k:ag)(d:Deferred):kL->Prop
 |.mark r=>d={target:=.collected r,args:=#[]}
 |.call f cap args=>∃a b,d={target:=.fn f a,args:=b}/\Vs k a.toList cap/\Vs k b.toList args
def vW(k:ag):List Deferred->List kL->Prop
 |[],[]=>True
 |d::ds,a::D=>te k d a/\vW k ds D
 |_,_=>False
theorem te.mono{k k':ag}(b:k.Le k'){d:Deferred}{a:kL}(h:te k d a):te k' d a:=by
 cases a with
 |mark r=>exact h
 |call f cap args=>obtain⟨c,e,g,i,j⟩:=h;exact⟨c,e,g,i.mono b,j.mono b⟩
theorem vW.mono{k k':ag}(a:k.Le k'):∀{ds:List Deferred}{D:List kL},vW k ds D->vW k' ds D
 |[],[],h=>h
 |_::_,_::_,h=>⟨h.1.mono a,h.2.mono a⟩
 |[],_::_,h=>h.elim
 |_::_,[],h=>h.elim
inductive Rec where
 |no
 |can (v:AV)
 |did
 |told (kind:CallKind) (cs:List Frame) (k0:ag)
structure St where
 env:Env
 σ:aa
 D:List kL
 rc:Rec
def eX:Rec->List Frame->List Frame
 |.did,c::rest=>(match c.mode with|.panicking (e::a)=>{c with mode:=.panicking ({e with recovered:=true}::a)}|_=>c)::rest
 |_,cs=>cs
def xm(k:ag)(kind:CallKind)(cs:List Frame):Rec->Prop
 |.can v=>kind=.deferred/\∃c rest b,cs=c::rest/\c.mode=.panicking [⟨b,false,false⟩]/\V k b v
 |.told kd a d=>kind=kd/\cs=a/\d.Le k
 |_=>True
theorem xm.mono{k k':ag}(a:k.Le k'){kind:CallKind}{cs:List Frame}{r:Rec}(h:xm k kind cs r):xm k' kind cs r:=by
 cases r with
 |can v=>obtain⟨b,c,rest,d,e,f,g⟩:=h;exact⟨b,c,rest,d,e,f,g.mono a⟩
 |told kd i j=>exact⟨h.1,h.2.1,h.2.2.trans a⟩
 |_=>exact h
inductive Exit where
 |leave (jump:Option Code)
 |panic (v:AV)
def Leaves(todo:List Item)(a:Option Code):Prop:=(todo=[]/\a=none)\/(∃k,todo=.code .ret::k/\a=some .ret)\/(∃id k,todo=.code (.exit id)::k/\exitTo id k=none/\a=some (.exit id))
structure yG(n:Nat)(k:ag)(O:ah)(tmps:Array Value)(defs:List Deferred)(kind:CallKind)(cs:List Frame)(s:St):Prop where
 size:tmps.size=n
 env:dY k tmps s.env
 rel:Rel k O s.σ
 ds:vW k defs s.D
 rc:xm k kind cs s.rc
structure xn(P:Program)(m:Mo)(Q:ag->ah->Goroutine->Prop)(fid n:Nat)(ro:Option Nat)(kind:CallKind)(cs:List Frame)(K:Exit->St->Prop)(k:ag):Prop where
 leave:∀k' O' tmps defs s todo jump,k.Le k'->yG n k' O' tmps defs kind cs s->Leaves todo jump->K (.leave jump) s->T P m Q k' O' (G ⟨fid,tmps,todo,defs,.run,kind,ro⟩ (eX s.rc cs))
 panic:∀k' O' tmps defs s todo cv av,k.Le k'->yG n k' O' tmps defs kind cs s->V k' cv av->K (.panic av) s->T P m Q k' O' (G ⟨fid,tmps,todo,defs,.panicking [⟨cv,false,false⟩],kind,ro⟩ (eX s.rc cs))
theorem xn.mono{P:Program}{m:Mo}{Q:ag->ah->Goroutine->Prop}{fid n:Nat}{ro:Option Nat}{kind:CallKind}{cs:List Frame}{K:Exit->St->Prop}{k k':ag}(b:k.Le k')
 (h:xn P m Q fid n ro kind cs K k):xn P m Q fid n ro kind cs K k':=
 ⟨λ_ _ _ _ _ _ _ a=>h.leave _ _ _ _ _ _ _ (b.trans a),λ_ _ _ _ _ _ _ _ a=>h.panic _ _ _ _ _ _ _ _ (b.trans a)⟩
def Go(P:Program)(m:Mo)(fid n:Nat)(ro:Option Nat)(todo:List Item)(s:St)(K:Exit->St->Prop):Prop:=∀Q k O tmps defs kind cs,kind≠.early->yG n k O tmps defs kind cs s->xn P m Q fid n ro kind cs K k->T P m Q k O (G ⟨fid,tmps,todo,defs,.run,kind,ro⟩ (eX s.rc cs))
inductive eI where
 |val (v:AV)
 |panic (v:AV)
def jD(c:Frame):Frame:=
 match c.mode with
 | .panicking ({recovered:=true,..}::a)=>
   match a.dropWhile (!·.goexit)with
   |[]=>{c with mode:=.returning}
   |rest=>{c with mode:=.panicking rest}
 |_=>c
def jj(kind:CallKind)(c:Frame)(rest:List Frame)(v:Value):Goroutine:=
 match kind with
 |.normal|.wrapped=>G (c.finish v) rest
 |_=>G (jD c) rest
def ar(P:Program)(m:Mo)(f:FuncId)(args:List AV)(σ:aa)(i:eI->aa->Prop):Prop:=
 ∀ Q k O a c rest kind,kind≠.early->Vs k a args->Rel k O σ ->
   (∀d e g h b,k.Le d->V d g h->Rel d e b->i (.val h) b->T P m Q d e (jj kind c rest g)) ->
   (∀d e g h b,k.Le d->V d g h->Rel d e b->i (.panic h) b->T P m Q d e (G (c.raise [⟨g,false,false⟩]) rest)) ->
   T P m Q k O (G (Frame.enter P f a.toArray kind) (c::rest))
def xp(P:Program)(m:Mo)(Q:ag->ah->Goroutine->Prop)(k:ag)(O:ah)(fr:Frame)(cs:List Frame)(s:Sem Next):Prop:=∀w,Sat k O w->∃g' a es b c,stepG.apply P true fr cs none s w=.go g' a es/\Eff k O w b c a es.toList/\Sat b c a/\T P m Q b c g'
def dl(P:Program)(m:Mo)(i:AV)(args:List AV)(σ:aa)(h:eI->aa->Prop):Prop:=
 ∀ Q k O cf a fr cs,V k cf i->Vs k a args->Rel k O σ->fr.mode=.run->fr.kind≠.early->(∀d w r s l,fr.todo≠.call d w r s::l) ->
   (∀c e f g b,k.Le c->V c f g->Rel c e b->h (.val g) b->T P m Q c e (G (fr.finish f) cs)) ->
   (∀c e f g b,k.Le c->V c f g->Rel c e b->h (.panic g) b->T P m Q c e (G (fr.raise [⟨f,false,false⟩]) cs)) ->
   xp P m Q k O fr cs (do let d <-Deferred.ofValue cf a.toArray;invoke d.target d.args)
section
variable{P:Program}{m:Mo}{Q:ag->ah->Goroutine->Prop}{k:ag}{O:ah}{g g':Goroutine}
theorem T.dc(a:g.status=.running)(b:∀w,stepG P m.main g w=.go g' w #[])(h:T P m Q k O g'):T P m Q k O g:=
 .step (λc d x=>c=k/\d=O/\x=g') a (λ_ _ _ ⟨e,f,i⟩=>by subst e;subst f;subst i;exact h)
  λw j=>⟨g',w,#[],k,O,b w,.refl ..,j,rfl,rfl,rfl⟩
theorem T.nC{fr:Frame}{cs:List Frame}{s:Sem Next}(c:∀w,stepG P m.main (G fr cs) w=stepG.apply P true fr cs none s w)(h:xp P m Q k O fr cs s):T P m Q k O (G fr cs):=
 .step (λa b x=>T P m Q a b x) rfl (λ_ _ _ h=>h) λw d=>by obtain⟨g',e,es,a,b,f,g,i,j⟩:=h w d;exact⟨g',e,es,a,b,(c w).trans f,g,i,j⟩
end
section
variable{P:Program}{m:Mo}{fid n:Nat}{ro:Option Nat}{s:St}{K:Exit->St->Prop}{k:List Item}
theorem Go.dc{todo a:List Item}(b:∀tmps defs kind cs w,stepG P m.main (G ⟨fid,tmps,todo,defs,.run,kind,ro⟩ cs) w=.go (G ⟨fid,tmps,a,defs,.run,kind,ro⟩ cs) w #[])
 (h:Go P m fid n ro a s K):Go P m fid n ro todo s K:=λQ k O tmps defs kind cs c d e=>T.dc rfl (λw=>b ..) (h Q k O tmps defs kind cs c d e)
theorem Go.skip(h:Go P m fid n ro k s K):Go P m fid n ro (.code .skip::k) s K:=.dc (λ_ _ _ _ _=>by simp[G,stepG,stepG.exec]) h
theorem Go.label{l:Nat}(h:Go P m fid n ro k s K):Go P m fid n ro (.code (.label l)::k) s K:=.dc (λ_ _ _ _ _=>by simp[G,stepG,stepG.exec]) h
theorem Go.inBlock{id:Nat}(h:Go P m fid n ro k s K):Go P m fid n ro (.inBlock id::k) s K:=.dc (λ_ _ _ _ _=>by simp[G,stepG,stepG.exec]) h
theorem Go.inScope{c:Code}(h:Go P m fid n ro k s K):Go P m fid n ro (.inScope c::k) s K:=.dc (λ_ _ _ _ _=>by simp[G,stepG,stepG.exec]) h
theorem Go.seq{a b:Code}(h:Go P m fid n ro (.code a::.code b::k) s K):Go P m fid n ro (.code (.seq a b)::k) s K:=.dc (λ_ _ _ _ _=>by simp[G,stepG,stepG.exec]) h
theorem Go.block{id:Nat}{c:Code}(h:Go P m fid n ro (.code c::.inBlock id::k) s K):Go P m fid n ro (.code (.block id c)::k) s K:=.dc (λ_ _ _ _ _=>by simp[G,stepG,stepG.exec]) h
theorem Go.scope{c:Code}(h:Go P m fid n ro (.code c::.inScope c::k) s K):Go P m fid n ro (.code (.scope c)::k) s K:=.dc (λ_ _ _ _ _=>by simp[G,stepG,stepG.exec]) h
theorem Go.inLoop{c:Code}(h:Go P m fid n ro (.code c::.inLoop c::k) s K):Go P m fid n ro (.inLoop c::k) s K:=.dc (λ_ _ _ _ _=>by simp[G,stepG,stepG.exec]) h
theorem Go.KT{c:Code}(h:Go P m fid n ro (.code c::.inLoop c::k) s K):Go P m fid n ro (.code (.loop c)::k) s K:=.dc (λ_ _ _ _ _=>by simp[G,stepG,stepG.exec]) h
theorem Go.exit{id:Nat}{k':List Item}(a:exitTo id k=some k')(h:Go P m fid n ro k' s K):Go P m fid n ro (.code (.exit id)::k) s K:=.dc (λ_ _ _ _ _=>by simp[G,stepG,stepG.exec,a]) h
theorem Go.region{id:Nat}{ops:Array Oper}(h:Go P m fid n ro (.inRegion ops (List.range ops.size)::k) s K):Go P m fid n ro (.code (.region id ops false)::k) s K:=.dc (λ_ _ _ _ _=>by simp[G,stepG,stepG.exec]) h
theorem Go.vX{ops:Array Oper}(h:Go P m fid n ro k s K):Go P m fid n ro (.inRegion ops []::k) s K:=.dc (λ_ _ _ _ _=>by simp[G,stepG,stepG.exec]) h
theorem Go.cond{c:Operand}{a b:Code}{x:Bool}(f:am s.env c=.lit (.bool x))(g:Operand.ok n c=true)(h:Go P m fid n ro (.code (if x then a else b)::k) s K):Go P m fid n ro (.code (.cond c a b)::k) s K:=
 λQ k O tmps defs kind cs i d j=>by
  have e:=V.eval (fr:=⟨fid,tmps,.code (.cond c a b)::‹_›,defs,.run,kind,ro⟩) d.env d.size c g;rw[f]at e;generalize l:Frame.eval _ c=v at e;cases e;refine T.dc rfl (λw=>?_) (h Q k O tmps defs kind cs i d j);simp[G,stepG,stepG.exec,l]
theorem Go.leave{todo:List Item}{a:Option Code}(b:Leaves todo a)(h:K (.leave a) s):Go P m fid n ro todo s K:=λ_ _ _ _ _ _ _ _ c d=>d.leave _ _ _ _ _ _ _ (.refl _) c b h
theorem Go.weaken{todo:List Item}{σ:aa}(h:Go P m fid n ro todo {s with σ} K)(b:σ.Le s.σ):Go P m fid n ro todo s K:=λQ k O tmps defs kind cs c a d=>h Q k O tmps defs kind cs c ⟨a.size,a.env,a.rel.le b,a.ds,a.rc⟩ d
theorem Go.loop{c:Code}(I:Nat->St->Prop)(a:Nat)(f:I a s)
 (g:∀e a s,I a s->(∀a' s',a'<a->I a' s'->Go P m fid n ro (.inLoop e::k) s' K)->Go P m fid n ro (.code c::.inLoop e::k) s K):Go P m fid n ro (.code (.loop c)::k) s K:=by
 have key:∀b a s,a<b->I a s->Go P m fid n ro (.code c::.inLoop c::k) s K:=by
  intro b;induction b with
  |zero=>intro a s h;omega
  |succ b i=>exact λa s j l=>g c a s l λa' s' o d=>.inLoop (i a' s' (by omega) d)
 exact .KT (key (a+1) a s (by omega) f)
end
inductive AK where
 |bool|int (k:IntKind)|string|pointer (e:Nat)|slice (e:Nat)|array (n e:Nat)|map (k e:Nat)|chan (e:Nat)|struct|func|iface|other
 deriving DecidableEq
structure TI where
 kind:AK
 size:Nat
 bytes:Nat
 zero:Value
 gQ:List (Nat × Nat × Nat)
def TI.agg(i:TI):Bool:=match i.kind with|.struct=>true|.array _ _=>true|_=>false
def cO(P:Program)(i:TI):TypeDesc->Bool
 |.bool=>i.kind==.bool
 |.int k=>i.kind==.int k
 |.string=>i.kind==.string
 |.pointer e=>i.kind==.pointer e
 |.slice e=>i.kind==.slice e
 |.array n e=>i.kind==.array n e
 |.map k e=>i.kind==.map k e
 |.chan _ e=>i.kind==.chan e
 |.struct fs=>i.kind==.struct && (fs.toList.map λf=>(f.offset,(P.info? f.type).map (·.size),f.type))==(i.gQ.map λx=>(x.1,some x.2.1,x.2.2))
 |.func _ _ _=>i.kind==.func
 |.interface _=>i.kind==.iface
 |_=>i.kind==.other
def Jh:Value->Value->Bool
 |.bool a,.bool b=>a==b
 |.int k a,.int l b=>k==l && a==b
 |.string a,.string b=>a.data.toList==b.data.toList
 |.pointer none,.pointer none=>true
 |.slice none a b,.slice none c d=>a==c && b==d
 |.map none,.map none=>true
 |.chan none,.chan none=>true
 |.nilFunc,.nilFunc=>true
 |.nilIface,.nilIface=>true
 |_,_=>false
def AX:List Value->List Value->Bool
 |[],[]=>true
 |a::l,b::r=>Jh a b && AX l r
 |_,_=>false
def Pl:Value->Value->Bool
 |.agg a,.agg b=>AX a.toList b.toList
 |.tuple a,.tuple b=>AX a.toList b.toList
 |a,b=>Jh a b
theorem Cy{a b:Value}(h:Jh a b=true):a=b:=by
 unfold Jh at h;split at h<;>simp_all;rename_i a b;obtain⟨⟨a⟩⟩:=a;obtain⟨⟨b⟩⟩:=b
 simp_all
theorem xq:∀{a b:List Value},AX a b=true->a=b
 |[],[],_=>rfl
 |a::l,b::r,h=>by simp only[AX,Bool.and_eq_true]at h;rw[Cy h.1,xq h.2]
 |[],_::_,h=>by simp[AX]at h
 |_::_,[],h=>by simp[AX]at h
theorem Lp{a b:Value}(h:Pl a b=true):a=b:=by
 unfold Pl at h;split at h
 . have:=xq h;congr 1;exact Array.ext' this
 . have:=xq h;congr 1;exact Array.ext' this
 . exact Cy h
def TI.check(P:Program)(t:Nat)(i:TI):Bool:=
 match P.underlying t,P.info? t with
 |some d,some info=>cO P i d && info.size==i.size && info.bytes==i.bytes && (match info.zero with|some z=>Pl z i.zero|none=>false) && i.zero.cells.size==i.size
 |_,_=>false
structure jg(P:Program) where
 tt:Nat->Option TI
 ok:∀t i,tt t=some i->i.check P t=true
 mixed:P.follows .mixedOrders=true
theorem jg.facts{P:Program}(L:jg P){t:Nat}{i:TI}(h:L.tt t=some i):(∃d,P.underlying t=some d/\cO P i d=true)/\∃info,P.info? t=some info/\info.size=i.size/\info.bytes=i.bytes/\info.zero=some i.zero/\i.zero.cells.size=i.size:=by
 have:=L.ok t i h;unfold TI.check at this;split at this
 . next d info g j=>
   simp only[Bool.and_eq_true,beq_iff_eq]at this;obtain⟨⟨⟨⟨a,b⟩,c⟩,e⟩,f⟩:=this;refine⟨⟨d,g,a⟩,info,j,b,c,?_,f⟩;split at e
   . next z k=>rw[k,Lp e]
   . cases e
 . cases this
section
variable{P:Program}(L:jg P){k:ag}{O:ah}{Kp:Value->ag->ah->Prop}{t:Nat}{i:TI}
theorem ai{α:Type}{a:α}{K:α->ag->ah->Prop}(h:K a k O):dM P (pure a:Sem α) k O K Kp:=h
theorem af{α β:Type}{s:Sem α}{f:α->Sem β}{K:β->ag->ah->Prop}(h:dM P s k O (λa k O=>dM P (f a) k O K Kp) Kp):dM P (s >>=f) k O K Kp:=FO s h
theorem bI{K:Program->ag->ah->Prop}(h:K P k O):dM P program k O K Kp:=h
theorem az{K:TypeDesc->ag->ah->Prop}(b:L.tt t=some i)(h:∀d,P.underlying t=some d->cO P i d=true->K d k O):dM P (underlying t) k O K Kp:=by obtain⟨⟨d,a,c⟩,_⟩:=L.facts b;unfold underlying;refine af (bI ?_);rw[a];exact h d a c
theorem bW{K:TypeInfo->ag->ah->Prop}(b:L.tt t=some i)(h:∀info,P.info? t=some info->info.size=i.size->info.bytes=i.bytes->info.zero=some i.zero->K info k O):dM P (typeInfo t) k O K Kp:=by obtain⟨_,info,a,c,d,e,_⟩:=L.facts b;unfold typeInfo;refine af (bI ?_);rw[a];exact h info a c d e
theorem bH{K:Nat->ag->ah->Prop}(a:L.tt t=some i)(h:K i.size k O):dM P (sizeOf t) k O K Kp:=by
 unfold sizeOf;refine af (bW L a λinfo _ b _ _=>?_);refine ai ?_;rw[b];exact h
theorem cB{K:Value->ag->ah->Prop}(a:L.tt t=some i)(h:K i.zero k O):dM P (zeroValue t) k O K Kp:=by
 unfold zeroValue;refine af (bW L a λinfo _ _ _ b=>?_);rw[b];exact h
theorem nD{K:Bool->ag->ah->Prop}(a:L.tt t=some i)(h:K i.agg k O):dM P (isAgg t) k O K Kp:=by
 unfold isAgg;refine af (az L a λd _ hd=>?_);unfold TI.agg at h;cases d<;>simp only[cO,Bool.and_eq_true,beq_iff_eq]at hd<;>first|(rw[hd]at h;exact h)|(rw[hd.1]at h;exact h)
theorem lg{α:Type}{K z:α->ag->ah->Prop}{Kp l:Value->ag->ah->Prop}(s:Sem α):∀{k:ag}{O:ah},dM P s k O K Kp->(∀a k O,K a k O->z a k O)->(∀a k O,Kp a k O->l a k O)->dM P s k O z l:=by
 induction s with
 |pure a=>intro k O h b d;exact b _ _ _ h
 |load m a g f=>intro k O h b d;obtain⟨i,v,j,p⟩:=h;exact⟨i,v,j,f v p b d⟩
 | store m a v g f=>
   intro k O h b d;obtain⟨i,j,p,A⟩:=h;refine⟨i,j,p,?_⟩;rcases A with⟨c,e,u,w,y⟩|⟨e,N,u,w,y,B⟩
   . exact .inl ⟨c,e,u,w,f y b d⟩
   . exact .inr ⟨e,N,u,w,y,λC=>f (B C) b d⟩
 |new o g f=>intro k O h b d;exact⟨h.1,λr D=>f r (h.2 r D) b d⟩
 |shape r g f=>intro k O h b d;obtain⟨s,i,j⟩:=h;exact⟨s,i,f s j b d⟩
 |freeze a n g f=>intro k O h b d;exact h.elim
 |frozen a g f=>intro k O h b d;exact⟨h.1,f false h.2 b d⟩
 |getObj r g f=>intro k O h b d;obtain⟨o,i,j,p⟩:=h;exact⟨o,i,j,f o p b d⟩
 |setObj r o g f=>intro k O h b d;exact⟨h.1,h.2.1,f h.2.2 b d⟩
 |choose q g f=>intro k O h b d t;exact f _ (h t) b d
 |sys c g f=>intro k O h b d;exact h.elim
 |program g f=>intro k O h b d;exact f P h b d
 |mark m g f=>intro k O h b d;exact⟨h.1,f h.2 b d⟩
 | halt x=>intro k O h b d;cases x with
   |panic v=>exact d _ _ _ h
   |_=>exact h
end
def lh(k:ag)(O:ah)(R:ag->ah->Prop):Prop:=∃a b,jM k O a b/\R a b
theorem jM.refl(k:ag)(O:ah):jM k O k O:=λw h=>⟨h,.refl k O w⟩
theorem jM.trans{k e f:ag}{O g i:ah}(h:jM k O e g)(j:jM e g f i):jM k O f i:=λw l=>let ⟨a,b⟩:=h w l;let ⟨c,d⟩:=j w a;⟨c,by simpa using b.trans d⟩
theorem lh.here{k:ag}{O:ah}{R:ag->ah->Prop}(h:R k O):lh k O R:=⟨k,O,.refl k O,h⟩
def aE(P:Program)(o:Oper)(env:Env)(σ:aa)(K:AV->aa->Prop)(Kp:AV->aa->Prop):Prop:=
 ∀ k O (f:Operand->Value),(∀x∈o.op.operands,V k (f x) (am env x))->Rel k O σ ->
   dM P (execOp f o) k O (λnx c d=>∃v,(nx=.value v\/(nx=.skip/\v=undef))/\lh c d λe g=>k.Le e/\∃a b,V e v a/\Rel e g b/\K a b)
    (λv c d=>k.Le c/\∃a b,V c v a/\Rel c d b/\Kp a b)
def Oper.ok(n:Nat)(o:Oper):Bool:=o.op.operands.all (Operand.ok n) && (match o.dst with|some d=>decide (d<n)|none=>true)
def aV(env:Env)(dst:Option Tmp)(v:AV):Env:=match dst with|some d=>env.upd d v|none=>env
theorem tg{P:Program}{fn:FuncId}{es:Array Event}{e:Event}(h:e∈seen P fn es):e∈es:=by
 unfold seen at h
 have key:∀(l:List Event) (q:Bool) (acc:Array Event),e∈(l.foldl (init:=(q,acc)) λ(q,kept) e=>
  match e.loc with
  |.mark (.extern f)=>((P.funcs[f]?).any (·.norace),kept)
  |_=>(q,if q && !e.sync then kept else kept.push e)).2->e∈acc\/e∈l:=by
  intro l;induction l with
  |nil=>intro q acc h;exact .inl h
  | cons x l b=>
    intro q acc h;simp only[List.foldl_cons]at h;rcases b _ _ h with a|a
    . split at a
      . exact .inl a
      . simp only at a
        split at a
        . exact .inl a
        . rcases Array.mem_push.1 a with a|a
          . exact .inl a
          . exact .inr (by simp[a])
    . exact .inr (by simp[a])
 dsimp only at h;rw[<-Array.foldl_toList]at h;rcases key es.toList _ #[] h with h|h
 . simp at h
 . simpa using h
theorem Eff.sub{k:ag}{O:ah}{w:World}{k':ag}{O':ah}{w':World}{l b:List Event}(h:Eff k O w k' O' w' l)(c:∀e∈b,e∈l):Eff k O w k' O' w' b:=⟨h.le,h.size,h.keep,h.tail,h.part,h.shape,h.own,h.cell,h.sh,λe a=>h.evs e (c e a),h.tape,h.output,h.os,λe a=>h.low e (c e a),h.tok⟩
theorem dZ{P:Program}{m:Mo}{Q:ag->ah->Goroutine->Prop}{k:ag}{O:ah}{fr:Frame}{cs:List Frame}{s:Sem Next}
 (h:dM P s k O
   (fun nx k' O'=>k.Le k'->match nx with
     |.value v=>T P m Q k' O' (G (fr.finish v) cs)
     |.skip=>T P m Q k' O' (G (fr.finish undef) cs)
     |.enter f args=>(∀d w r s l,fr.todo≠.call d w r s::l)/\T P m Q k' O' (G (Frame.enter P f args .normal) (fr::cs))
     |.round l f tmps assign body=>T P m Q k' O' (G (Frame.round l f tmps assign body .normal) (fr::cs))
     |.defer d=>T P m Q k' O' (G ({fr with defers:=d::fr.defers}.finish undef) cs)
     |_=>False)
   (λv k' O'=>k.Le k'->T P m Q k' O' (G (fr.raise [⟨v,false,false⟩]) cs))):xp P m Q k O fr cs s:=by
 intro w t;obtain⟨k',O',c,l,i,n,u,x⟩:=qA s #[] h t
 have a:∀(es:Array Event),(∀e∈es,e∈(s.runT P w #[]).2)->∀e∈es.toList,e∈l:=λes p e q=>by
  have:=p e (by simpa using q);rw[<-Array.mem_toList_iff,u]at this;simpa using this
 have o:∀(b:Bool) (es:Array Event),∀e∈seen P fr.fn (if b then #[]else es),e∈es:=λb es e q=>by
  have:=tg q;cases b
  . simpa using this
  . simp at this
 rcases x with⟨nx,j,g⟩|⟨v,j,g⟩
 . have g:=g i.le
   cases nx with
   |value v=>exact⟨_,c,_,k',O',by simp only[stepG.apply,if_true];rw[show(s.runT P w #[]).1=.ok (.value v) c from j];rfl,i.sub (a _ (by simpa using o (fr.kind==.early) (s.runT P w #[]).2)),n,g⟩
   |skip=>exact⟨_,c,_,k',O',by simp only[stepG.apply,if_true];rw[show(s.runT P w #[]).1=.ok .skip c from j];rfl,i.sub (a _ (by simpa using o (fr.kind==.early) (s.runT P w #[]).2)),n,g⟩
   | enter f args=>
     refine⟨_,c,seen P fr.fn (if fr.kind==.early then #[]else(s.runT P w #[]).2),k',O',?_,i.sub (a _ (by simpa using o (fr.kind==.early) (s.runT P w #[]).2)),n,g.2⟩;obtain⟨fn,tmps,todo,defs,mode,kind,ro⟩:=fr;simp only[stepG.apply,if_true];rw[show(s.runT P w #[]).1=.ok (.enter f args) c from j];cases todo with
     |nil=>rfl
     | cons it l=>cases it with
       |call d w r s=>exact absurd rfl (g.1 d w r s l)
       |_=>rfl
   |round l f tmps assign body=>exact⟨_,c,_,k',O',by simp only[stepG.apply,if_true];rw[show(s.runT P w #[]).1=.ok (.round l f tmps assign body) c from j];rfl,i.sub (a _ (by simpa using o (fr.kind==.early) (s.runT P w #[]).2)),n,g⟩
   |defer d=>exact⟨_,c,_,k',O',by simp only[stepG.apply,if_true];rw[show(s.runT P w #[]).1=.ok (.defer d) c from j];rfl,i.sub (a _ (by simpa using o (fr.kind==.early) (s.runT P w #[]).2)),n,g⟩
   |_=>exact g.elim
 . exact⟨_,c,_,k',O',by simp only[stepG.apply,if_true];rw[show(s.runT P w #[]).1=.halt (.panic v) c from j];rfl,i.sub (a _ (by simpa using o (fr.kind==.early) (s.runT P w #[]).2)),n,g i.le⟩
theorem yG.put{n:Nat}{k k':ag}{O O':ah}{fid:FuncId}{tmps:Array Value}{defs:List Deferred}{kind:CallKind}{ro:Option Nat}{cs:List Frame}{s:St}{σ':aa}{ops:Array Oper}{i:Nat}{rest:List Nat}{o:Oper}{kk:List Item}{v:Value}{a:AV}
 (h:yG n k O tmps defs kind cs s) (c:k.Le k') (e:ops[i]?=some o) (g:V k' v a) (f:Rel k' O' σ'):
 ∃ b,Frame.finish ⟨fid,tmps,.inRegion ops (i::rest)::kk,defs,.run,kind,ro⟩ v=⟨fid,b,.inRegion ops rest::kk,defs,.run,kind,ro⟩/\
   yG n k' O' b defs kind cs {s with env:=aV s.env o.dst a,σ:=σ'}:=by
 cases hd:o.dst with
 |none=>refine⟨tmps,?_,⟨h.size,h.env.mono c,f,h.ds.mono c,h.rc.mono c⟩⟩;simp[Frame.finish,e,hd]
 | some d=>
   refine⟨tmps.setIfInBounds d v,?_,⟨by simp[h.size],(h.env.mono c).upd g,f,h.ds.mono c,h.rc.mono c⟩⟩;simp[Frame.finish,e,hd]
section
variable{P:Program}{m:Mo}{fid n:Nat}{ro:Option Nat}{s:St}{K:Exit->St->Prop}{k:List Item}
def Nf:Value->Bool->Prop
 |.bool x,b=>x≠b
 |.tuple _,_=>True
 |_,_=>False
theorem Go.unwanted{ops:Array Oper}{i:Nat}{rest:List Nat}{o:Oper}{j:Nat}{b:Bool}{x:Value}{d:Tmp}{q:Oper}(r:ops[i]?=some o)(y:o.guard=some (j,b))(t:ops[j]?=some q)(hd:q.dst=some d)(e:d<n)
 (z:s.env d=.lit x) (l:Nf x b) (h:Go P m fid n ro (.inRegion ops rest::k) {s with env:=aV s.env o.dst (.lit (.tuple #[]))} K):Go P m fid n ro (.inRegion ops (i::rest)::k) s K:=
 fun Q kk O tmps defs kind cs A f B=>by
  obtain⟨c,C,D⟩:=f.put (fid:=fid) (ro:=ro) (rest:=rest) (kk:=k) (v:=undef) (a:=.lit (.tuple #[])) (.refl _) r (.lit _) f.rel;refine T.dc rfl (λw=>?_) (h Q kk O c defs kind cs A D B)
  have p:=f.env d (by rw[f.size];exact e)
  rw[z]at p;generalize u:tmps.getD d undef=v at p;cases p
  have E:yielded ops tmps j≠some b:=by
   have:tmps[d]?=some x:=by
    have g:d<tmps.size:=by rw[f.size];exact e
    simp[Array.getD,g]at u;simp[g,u]
   unfold Nf at l;split at l
   . simpa[yielded,t,hd,this]using l
   . simp[yielded,t,hd,this]
   . exact l.elim
  have F:((ops[i]?).map (Region.wanted · (yielded ops tmps))).getD false=false:=by simp[r,Region.wanted,y,E]
  simp only[G,stepG,stepG.exec,F];simp only[C];rfl
def bK(ops:Array Oper)(n:Nat)(env:Env)(o:Oper):Prop:=
 match o.guard with
 |none=>True
 |some (j,b)=>∃a d,ops[j]?=some a/\a.dst=some d/\d<n/\env d=.lit (.bool b)
theorem gk{k:ag}{tmps:Array Value}{ops:Array Oper}{env:Env}{o:Oper}(e:tmps.size=n)(i:dY k tmps env)(h:bK ops n env o):Region.wanted o (yielded ops tmps)=true:=by
 unfold bK at h;unfold Region.wanted;cases l:o.guard with
 |none=>rfl
 | some p=>
   obtain⟨j,b⟩:=p;simp only[l]at h;obtain⟨s,d,m,q,f,r⟩:=h;have c:=i d (by rw[e];exact f)
   rw[r]at c;generalize g:tmps.getD d undef=v at c;cases c
   have:tmps[d]?=some (.bool b):=by
    have a:d<tmps.size:=by rw[e];exact f
    simp[Array.getD,a]at g;simp[a,g]
   simp[yielded,m,q,this]
theorem dw{ops:Array Oper}{i:Nat}{rest:List Nat}{o:Oper}{tmps:Array Value}{defs:List Deferred}{kind:CallKind}{cs:List Frame}(b:ops[i]?=some o)(d:Region.wanted o (yielded ops tmps)=true)
 (a:ro=none\/∀c,o.op≠.defer c) (w:World):
 stepG P m.main (G ⟨fid,tmps,.inRegion ops (i::rest)::k,defs,.run,kind,ro⟩ cs) w=
  stepG.apply P true ⟨fid,tmps,.inRegion ops (i::rest)::k,defs,.run,kind,ro⟩ cs none (execOp (Frame.eval ⟨fid,tmps,.inRegion ops (i::rest)::k,defs,.run,kind,ro⟩) o) w:=by
 simp only[G,stepG,stepG.exec,stepG.oper,Frame.oper?,b,d,Option.map_some,Option.getD_some,if_true];split
 . next c e => rcases a with h|h
               . cases h
               . exact absurd e (h _)
 . rfl
theorem Go.op{ops:Array Oper}{i:Nat}{rest:List Nat}{o:Oper}(B:ops[i]?=some o)(F:bK ops n s.env o)(g:Oper.ok n o=true)(t:∀c,o.op≠.defer c)
 (h:aE P o s.env s.σ (λa σ'=>Go P m fid n ro (.inRegion ops rest::k) {s with env:=aV s.env o.dst a,σ:=σ'} K) (λa σ'=>K (.panic a) {s with σ:=σ'})):
 Go P m fid n ro (.inRegion ops (i::rest)::k) s K:=λQ kk O tmps defs kind cs G d C=>by
 refine T.nC (λw=>dw B (gk d.size d.env F) (.inr t) w) (dZ ?_)
 have j:∀x∈o.op.operands,V kk (Frame.eval ⟨fid,tmps,.inRegion ops (i::rest)::k,defs,.run,kind,ro⟩ x) (am s.env x):=λx l=>by refine V.eval d.env d.size x ?_;simp only[Oper.ok,Bool.and_eq_true,Array.all_eq_true_iff_forall_mem]at g;exact g.1 x l
 refine lg _ (h kk O _ j d.rel) (λnx q r l u=>?_) (λv q r l u=>?_)
 . obtain⟨v,H,I,J,p,e,a,σ',y,z,A⟩:=l
   obtain⟨f,D,L⟩:=d.put (fid:=fid) (ro:=ro) (rest:=rest) (kk:=k) e B y z;have E:=A Q I J f defs kind cs G L (C.mono e)
   rcases H with rfl|⟨rfl,rfl⟩
   . show T P m Q q r _
     rw[D];exact .ghost p E
   . show T P m Q q r _
     rw[D];exact .ghost p E
 . obtain⟨b,a,σ',y,z,A⟩:=l
   exact C.panic q r tmps defs {s with σ:=σ'} _ v a b ⟨d.size,d.env.mono b,z,d.ds.mono b,d.rc.mono b⟩ y A
end
def ag.th(k:ag)(r:Nat)(c:Array Value)(n:Nat):ag:={k with cell:=λb j=>if b=r/\j<n then c[j]? else k.cell b j}
def ah.del(O:ah)(r:Nat):ah:=λb=>if b=r then none else O b
theorem AY(k:ag)(O:ah)(r:Nat)(j:∀f,O r≠some (.part f)):jM k O k (O.del r):=λw h=>by
 have hd:∀b x,(O.del r) b=some x->O b=some x:=λb x e=>by
  unfold ah.del at e;split at e
  . cases e
  . exact e
 have l:∀b i,aK (O.del r) b i->aK O b i:=λb i m=>by
  rcases m with⟨o,a⟩|⟨n,a,d⟩|⟨f,a,d⟩
  . exact .inl ⟨o,hd _ _ a⟩
  . exact .inr (.inl ⟨n,hd _ _ a,d⟩)
  . exact .inr (.inr ⟨f,hd _ _ a,d⟩)
 exact⟨⟨λb i v e g=>h.apart b i v e (l b i g),h.cell,h.sh,λb o e=>h.obj b o (hd b _ e),λb n e=>h.tail b n (hd b _ e),λb f e=>h.part b f (hd b _ e)⟩,
  ⟨.refl k,Nat.le_refl _,λ_ _ _=>rfl,λ_ _ _ _ c _ h=>⟨c,h,rfl,λ_ _=>rfl⟩,λ_ _ _ _ c _ h=>⟨c,h,rfl,λ_ _=>rfl⟩,λ_ _=>rfl,λb x e=>.inl ⟨x,hd b x e,.refl x⟩,λ_ _ _ h=>.inl h,λ_ _ h=>.inl h,by simp,rfl,rfl,rfl,by simp,λb f hb=>⟨f,by unfold ah.del;rw[if_neg (λe=>by rw[e]at hb;exact j f hb)];exact hb⟩⟩⟩
theorem lW{k:ag}{O:ah}{r n:Nat}{c:Array Value}{e:TypeId}(l:O r=some (.obj (.cells c e (0,0))))(A:k.sh r=some (e,c.size)):jM k O (k.th r c n) (O.set r (.tail n)):=λw h=>by
 have y:=h.obj _ _ l
 have p:∀j,k.cell r j=none:=λj=>by
  cases q:k.cell r j with
  |none=>rfl
  |some v=>exact(h.apart _ _ _ q (.inl ⟨_,l⟩)).elim
 have s:k.Le (k.th r c n):=⟨λb i v d=>by
  have:¬(b=r/\i<n):=λx=>by rw[x.1,p]at d;cases d
  simpa[ag.th,this]using d,λ_ _ h=>h⟩
 refine⟨⟨λb i v d z=>?_,λb i v d=>?_,h.sh,λb o hb=>?_,λb m hb=>?_,λb f hb=>?_⟩,⟨s,Nat.le_refl _,λ_ _ _=>rfl,λ_ _ _ _ c _ h=>⟨c,h,rfl,λ_ _=>rfl⟩,λ_ _ _ _ c _ h=>⟨c,h,rfl,λ_ _=>rfl⟩,λ_ _=>rfl,λb x t=>?_,λb i v d=>?_,λ_ _ h=>.inl h,by simp,rfl,rfl,rfl,by simp,λb f hb=>⟨f,by rw[show(O.set r (.tail n)) b=O b from by simp only[ah.set];rw[if_neg (λe=>by rw[e,l]at hb;cases hb)]];exact hb⟩⟩⟩
 . by_cases hb:b=r
   . subst hb
     rcases z with⟨o,g⟩|⟨m,g,B⟩|⟨f,g,B⟩
     . simp[ah.set]at g
     rotate_left
     . simp[ah.set]at g
     . simp only[ah.set,if_true,Option.some.injEq,Own.tail.injEq]at g
       subst g;have:¬(i<n):=by omega
       simp only[ag.th,this,and_false,if_false,p]at d;cases d
   . have u:k.cell b i=some v:=by simpa[ag.th,hb]using d
     exact h.apart b i v u (by simpa[aK,ah.set,hb]using z)
 . by_cases hb:b=r/\i<n
   . obtain⟨rfl,C⟩:=hb
     simp only[ag.th,C,and_self,if_true]at d;simp[World.cell?,y,d]
   . exact h.cell b i v (by simpa only[ag.th,hb,if_false]using d)
 . by_cases a:b=r
   . subst a;simp[ah.set]at hb
   . exact h.obj b o (by simpa[ah.set,a]using hb)
 . by_cases a:b=r
   . subst a;exact⟨c,e,y,A⟩
   . exact h.tail b m (by simpa[ah.set,a]using hb)
 . by_cases a:b=r
   . subst a;simp[ah.set]at hb
   . exact h.part b f (by simpa[ah.set,a]using hb)
 . by_cases a:b=r
   . subst a
     simp only[ah.set,if_true,Option.some.injEq]at t;subst t;exact .inl ⟨_,l,trivial⟩
   . exact .inl ⟨x,by simpa[ah.set,a]using t,.refl x⟩
 . by_cases hb:b=r/\i<n
   . obtain⟨rfl,_⟩:=hb
     exact .inr (.inl (.inl ⟨_,l⟩))
   . exact .inl (by simpa only[ag.th,hb,if_false]using d)
theorem ag.Le.put{k:ag}{b i:Nat}{v:Value}(h:k.cell b i=none):k.Le (k.put b i v):=⟨λc j u a=>by
 have:¬(c=b/\j=i):=λx=>by rw[x.1,x.2,h]at a;cases a
 simpa[ag.put,this]using a,λ_ _ h=>h⟩
theorem ag.Le.made{k:ag}{r:Nat}{o:Obj}(h:k.sh r=none):k.Le (k.made r o):=by
 cases o<;>first|exact .refl k|skip
 exact⟨λ_ _ _ h=>h,λb s a=>by
  have:b≠r:=λx=>by rw[x,h]at a;cases a
  simpa[ag.made,ag.dv,this]using a⟩
theorem ag.Le.th{k:ag}{r n:Nat}{c:Array Value}(h:∀j,k.cell r j=none):k.Le (k.th r c n):=⟨λb i v a=>by
 have:¬(b=r/\i<n):=λx=>by rw[x.1,h]at a;cases a
 simpa[ag.th,this]using a,λ_ _ h=>h⟩
def pi(k:ag)(O:ah)(b base:Nat)(l:List AV):Prop:=∀(j:Nat) a,l[j]?=some a->∃v,Reads k O ⟨b,base+j,none⟩ v/\V k v a/\flat v=true
def bX(l:List AV)(off size:Nat)(agg:Bool):Option AV:=if agg then(if off+size<=l.length then some (.agg ((l.drop off).take size))else none)else l[off]?
theorem fL(b off n:Nat):Addr.add ⟨b,off,none⟩ n=⟨b,off+n,none⟩:=by
 unfold Addr.add;split
 . next h=>subst h;rfl
 . rfl
section
variable{P:Program}(L:jg P){k:ag}{O:ah}{Kp:Value->ag->ah->Prop}
theorem yH{K:Value->ag->ah->Prop}{a:Addr}{v:Value}(h:Reads k O a v)(b:K v k O):dM P (load a) k O K Kp:=⟨rfl,v,h,b⟩
theorem gS{K:Array Value->ag->ah->Prop}{b base:Nat}{l:List AV}(o:pi k O b base l){off:Nat}:
 ∀ (n i:Nat) (acc:Array Value),off+i+n<=l.length->(∀vs:List Value,vs.length=n->(∀(j:Nat) v a,vs[j]?=some v->l[off+i+j]?=some a->V k v a)->(∀v∈vs,flat v=true)->K (acc++vs.toArray) k O) ->
   dM P (loadCellsFrom ⟨b,base+off,none⟩ i n acc) k O K Kp:=by
 intro n;induction n with
 |zero=>intro i acc _ h;exact ai (by simpa using h [] rfl (λj v a h=>by simp at h) (by simp))
 | succ n p=>
   intro i acc hlen h;have c:off+i<l.length:=by omega
   obtain⟨v,q,r,s⟩:=o (off+i) l[off+i] (by simp[c]);unfold loadCellsFrom;rw[fL];refine af (yH (v:=v) (by rw[Nat.add_assoc];exact q) ?_);refine p (i+1) (acc.push v) (by omega) λvs f t g=>?_
   have:=h (v::vs) (by simp[f]) (λj u a m d=>?_) (λu hu=>by
    rcases List.mem_cons.1 hu with rfl|hu
    . exact s
    . exact g u hu)
   . simpa using this
   . cases j with
     | zero=>
       simp at m d;subst m
       have:a=l[off+i]:=by
        have e:l[off+i]?=some l[off+i]:=by simp[c]
        rw[e]at d;exact(Option.some.inj d).symm
       rw[this];exact r
     |succ j=>exact t j u a (by simpa using m) (by rw[<-d];congr 1;omega)
theorem rm{K:Value->ag->ah->Prop}{b base off:Nat}{l:List AV}{t:Nat}{i:TI}{a:AV}(g:pi k O b base l)(h:L.tt t=some i)(c:bX l off i.size i.agg=some a)
 (m:∀v,V k v a->K v k O):dM P (loadVar t ⟨b,base+off,none⟩) k O K Kp:=by
 unfold loadVar;refine af (nD L h ?_);unfold bX at c;cases d:i.agg
 . simp only[d]at c
   obtain⟨v,n,o,_⟩:=g off a (by simpa using c);simp only[Bool.false_eq_true,if_false];exact yH n (m v o)
 . simp only[d,if_true]at c ⊢
   split at c
   . next p=>
     simp only[Option.some.injEq]at c;subst c;refine af (bH L h ?_);unfold loadCells;refine af (gS g _ 0 _ (by omega) λvs f q _=>?_);refine ai (m _ (.agg _ _ ?_ λj v a r e=>?_))
     . simp[f];omega
     . refine q j v a (by simpa using r) ?_
       rw[List.getElem?_take]at e;split at e
       . rw[List.getElem?_drop]at e;simpa using e
       . cases e
   . cases c
theorem pi.own{b:Nat}{c:Array Value}{e:TypeId}{fz:Nat × Nat}{l:List AV}(g:O b=some (.obj (.cells c e fz)))(h:c.size=l.length)(m:∀(i:Nat) v a,c[i]?=some v->l[i]?=some a->V k v a)(n:∀(i:Nat) v,c[i]?=some v->flat v=true):pi k O b 0 l:=λj a f=>by
 have d:j<c.size:=by rw[h];exact(List.getElem?_eq_some_iff.1 f).1
 refine⟨c[j],⟨rfl,.inr ⟨c,e,fz,g,by simp[d]⟩⟩,m j _ a (by simp[d]) f,n j _ (by simp[d])⟩
theorem pi.known{b base:Nat}{l:List AV}{c:Nat->Value}(e:∀j,j<l.length->k.cell b (base+j)=some (c j)/\flat (c j)=true)(f:∀(j:Nat) a,l[j]?=some a->V k (c j) a):pi k O b base l:=λj a d=>⟨c j,⟨rfl,.inl (e j (List.getElem?_eq_some_iff.1 d).1).1⟩,f j a d,(e j (List.getElem?_eq_some_iff.1 d).1).2⟩
end
def Ji(l:List AV)(hole:List Nat)(off size:Nat)(agg:Bool):Option AV:=if agg then(if off+size<=l.length/\hole.all (λh=>decide (h<off\/off+size<=h))=true then some (.agg ((l.drop off).take size))else none)else if hole.contains off=true then none else l[off]?
def mH(i:TI)(σ:aa):AV->Option AV
 |.cp v off=>bX v.cells off i.size i.agg
 |.kp _ l hole off=>Ji l hole off i.size i.agg
 |.ref b off=>match σ b with|some (.cells l)=>bX l off i.size i.agg|_=>none
 |_=>none
def AV.flat:AV->Bool
 |.lit v=>bG.flat v
 |.bz=>false
 |.agg _=>false
 |.cq _=>false
 |_=>true
theorem V.flat{k:ag}{v:Value}{a:AV}(h:V k v a)(b:a.flat=true):bG.flat v=true:=by cases h<;>first|rfl|exact b|simp[AV.flat]at b
theorem V.cells{k:ag}{v:Value}{a:AV}(h:V k v a)(f:a.cells.all AV.flat=true):v.cells.size=a.cells.length/\(∀(i:Nat) u x,v.cells[i]?=some u->a.cells[i]?=some x->V k u x)/\∀(i:Nat) u,v.cells[i]?=some u->bG.flat u=true:=by
 by_cases d:∃l,a=.agg l
 . obtain⟨l,rfl⟩:=d
   cases h with
   | agg c l j m=>
     refine⟨j,m,λi u b=>?_⟩
     have n:i<l.length:=by rw[<-j];exact(Array.getElem?_eq_some_iff.1 b).1
     refine(m i u l[i] b (by simp[n])).flat ?_
     simp only[AV.cells,List.all_eq_true]at f;exact f _ (List.getElem_mem n)
 . have o:a.cells=[a]:=by cases a<;>first|rfl|exact absurd ⟨_,rfl⟩ d
   have g:a.flat=true:=by rw[o]at f;simpa using f
   have e:=h.flat g;have q:v.cells=#[v]:=by cases v<;>first|rfl|cases e
   rw[o,q];refine⟨rfl,λi u x b p=>?_,λi u b=>?_⟩
   . cases i with
     |zero=>simp at b p;subst b;subst p;exact h
     |succ i=>simp at b
   . cases i with
     |zero=>simp at b;subst b;exact e
     |succ i=>simp at b
def aJ(l:List AV)(off:Nat)(c:List AV):List AV:=l.take off++c++l.drop (off+c.length)
def oA(i:TI)(σ:aa)(p v:AV):Option aa:=
 match p with
 | .ref b off=>match σ b with
   |some (.cells l)=>if v.cells.length=i.size/\off+i.size<=l.length/\v.cells.all AV.flat=true then some (σ.set b (.cells (aJ l off v.cells)))else none
   |_=>none
 |_=>none
section
variable{P:Program}(L:jg P){k:ag}{O:ah}{Kp:Value->ag->ah->Prop}
theorem mU{K:Unit->ag->ah->Prop}{b off:Nat}{e:TypeId}:∀(vs:List Value) (i:Nat) (c:Array Value) (O:ah),O b=some (.obj (.cells c e (0,0)))->off+i+vs.length<=c.size->(∀v∈vs,flat v=true) ->
 (∀(O':ah) (c':Array Value),O'=O.set b (.obj (.cells c' e (0,0)))->c'.size=c.size->(∀j,c'[j]?=if off+i<=j/\j<off+i+vs.length then vs[j-(off+i)]? else c[j]?)->K () k O') ->
 dM P (storeCells ⟨b,off,none⟩ vs i) k O K Kp:=by
 intro vs;induction vs with
 | nil=>
   intro i c O d hlen f h;refine ai (h O c ?_ rfl λj=>?_)
   . funext x
     by_cases a:x=b
     . subst a;simp[ah.set,d]
     . simp[ah.set,a]
   . have:¬(off+i<=j/\j<off+i+([]:List Value).length):=by simp
     rw[if_neg this]
 | cons v vs o=>
   intro i c O d hlen f h;simp only[List.length_cons]at hlen;unfold storeCells;rw[fL];refine af (s:=store ⟨b,off+i,none⟩ v) ⟨rfl,f v (by simp),rfl,.inl ⟨c,e,d,by simp;omega,?_⟩⟩;refine o (i+1) (c.setIfInBounds (off+i) v) _ (by simp[ah.set]) (by simp;omega) (λu p=>f u (by simp[p])) λO' c' q g r=>?_
   refine h O' c' ?_ (by simpa using g) λj=>?_
   . rw[q];funext x;by_cases a:x=b<;>simp[ah.set,a]
   . rw [r j]
     by_cases m:j=off+i
     . subst m
       have:¬(off+(i+1)<=off+i/\off+i<off+(i+1)+vs.length):=by omega
       rw[if_neg this,if_pos (by simp)];have l:off+i<c.size:=by omega
       simp[l]
     . rw[Array.getElem?_setIfInBounds_ne (Ne.symm m)]
       by_cases n:off+(i+1)<=j/\j<off+(i+1)+vs.length
       . rw[if_pos n,if_pos (by simp;omega)]
         have:j-(off+i)=(j-(off+(i+1)))+1:=by omega
         rw[this,List.getElem?_cons_succ]
       . rw[if_neg n,if_neg (by simp;omega)]
theorem ti{l c:List AV}{off:Nat}(h:off+c.length<=l.length)(j:Nat):(aJ l off c)[j]?=if off<=j/\j<off+c.length then c[j-off]? else l[j]?:=by
 unfold aJ;have a:(l.take off).length=off:=by simp;omega
 by_cases b:j<off
 . rw[List.append_assoc,List.getElem?_append_left (by omega),if_neg (by omega),List.getElem?_take,if_pos b]
 . rw[List.append_assoc,List.getElem?_append_right (by omega),a]
   by_cases d:j<off+c.length
   . rw[List.getElem?_append_left (by omega),if_pos (by omega)]
   . rw[List.getElem?_append_right (by omega),if_neg (by omega),List.getElem?_drop]
     congr 1;omega
theorem kM{l c:List AV}{off:Nat}(h:off+c.length<=l.length):(aJ l off c).length=l.length:=by unfold aJ;simp;omega
theorem xr{K:Unit->ag->ah->Prop}{σ σ':aa}{p a:AV}{v:Value}{ad:Addr}{t:Nat}{i:TI}(r:Rel k O σ)(z:V k (.pointer (some ad)) p)(A:V k v a)(B:L.tt t=some i)(f:oA i σ p a=some σ')
 (C:∀O',Rel k O' σ'->K () k O'):dM P (storeVar t ad v) k O K Kp:=by
 unfold oA at f;cases p<;>simp only[]at f<;>try cases f
 rename_i b off;cases z;cases hb:σ b with
 |none=>rw[hb]at f;cases f
 | some x=>
   rw[hb]at f;cases x with
   | cells l =>
     simp only[]at f;split at f
     . next g=>
       obtain⟨D,R,E⟩:=g;simp only[Option.some.injEq]at f;subst f;obtain⟨y,F,G⟩:=r.1 b _ hb (by simp)
       cases G with
       | cells c e l H I J=>
         obtain⟨s,M,w⟩:=A.cells E;unfold storeVar;refine af (bH L B ?_);have o:¬v.cells.size≠i.size:=by rw[s,D];simp
         simp only[if_neg o];refine af (ai ?_)
         refine mU v.cells.toList 0 c O F (by simp only[Array.length_toList];omega) (λu d=>by obtain⟨j,h,rfl⟩:=List.mem_iff_getElem.1 d;exact w j _ (by simp at h;simp[h])) λO' N Q q m=>?_
         subst Q;have hlen:off+a.cells.length<=l.length:=by omega
         refine C _ (r.set (.cells N e _ (by rw[q,kM hlen];exact H) (λj u x d n=>?_) λj u d=>?_))
         . rw[m]at d
           rw[ti hlen]at n;simp only[Nat.add_zero,Array.length_toList,s]at d
           by_cases h:off<=j/\j<off+a.cells.length
           . rw[if_pos h]at d n
             exact M _ u x (by simpa using d) n
           . rw[if_neg h]at d n
             exact I j u x d n
         . rw[m]at d
           split at d
           . exact w _ u (by simpa using d)
           . exact J j u d
     . cases f
   |_=>cases f
theorem yI{σ:aa}{p:AV}{ad:Addr}{i:TI}{a:AV}(w:Rel k O σ)(q:V k (.pointer (some ad)) p)(d:mH i σ p=some a):∃b base off l,ad=⟨b,base+off,none⟩/\pi k O b base l/\bX l off i.size i.agg=some a:=by
 unfold mH at d;cases p<;>simp only[]at d<;>try cases d
 . rename_i v off
   cases q with
   |cp b base off N E v c _ _ n o=>exact⟨b,base,off,v.cells,rfl,.known n o,d⟩
 . rename_i b l hole off
   cases q with
   | kp _ _ N E _ _ c _ _ n o=>
     unfold Ji at d;split at d
     . next f=>
       split at d
       . next r=>
         simp only[Option.some.injEq]at d;subst d;have hlen:((l.drop off).take i.size).length=i.size:=by simp;omega
         refine⟨b,off,0,(l.drop off).take i.size,by simp,λj a s=>?_,by simp[bX,f,hlen,List.take_take]⟩
         have z:j<i.size:=by rw[<-hlen];exact(List.getElem?_eq_some_iff.1 s).1
         have h:l[off+j]?=some a:=by rw[List.getElem?_take,if_pos z,List.getElem?_drop]at s;exact s
         have g:off+j∉hole:=λA=>by have:=List.all_eq_true.1 r.2 _ A;simp at this;omega
         obtain⟨t,u⟩:=n (off+j) (List.getElem?_eq_some_iff.1 h).1 g;exact⟨c (off+j),⟨rfl,.inl t⟩,o _ a g h,u⟩
       . cases d
     . next f=>
       split at d
       . cases d
       . next r=>
         have g:off∉hole:=by simpa using r
         refine⟨b,off,0,[a],by simp,λj y m=>?_,by simp[bX,f]⟩
         match j with
         |0=>simp at m;subst m;obtain⟨t,u⟩:=n off (List.getElem?_eq_some_iff.1 d).1 g;exact⟨c off,⟨rfl,.inl t⟩,o _ _ g d,u⟩
         |j+1=>simp at m
 . rename_i b off
   cases q;cases hb:σ b with
   |none=>rw[hb]at d;cases d
   | some x=>
     rw[hb]at d;cases x with
     | cells l=>
       obtain⟨y,B,m⟩:=w.1 b _ hb (by simp)
       cases m with
       |cells c e l C D F=>exact⟨b,0,off,l,by simp,.own B C D F,d⟩
     |_=>cases d
end
theorem V.FQ{k:ag}{v:Value}{p:AV}(h:V k v p)(a:(∃x off,p=.cp x off)\/(∃b off,p=.ref b off)\/∃b l hole off,p=.kp b l hole off):∃ad,v=.pointer (some ad):=by rcases a with⟨x,off,rfl⟩|⟨b,off,rfl⟩|⟨b,l,hole,off,rfl⟩<;>cases h<;>exact⟨_,rfl⟩
theorem vY{i:TI}{σ:aa}{p a:AV}(h:mH i σ p=some a):(∃x off,p=.cp x off)\/(∃b off,p=.ref b off)\/∃b l hole off,p=.kp b l hole off:=by cases p<;>first|exact .inl ⟨_,_,rfl⟩|exact .inr (.inl ⟨_,_,rfl⟩)|exact .inr (.inr ⟨_,_,_,_,rfl⟩)|cases h
theorem AZ{i:TI}{σ σ':aa}{p a:AV}(h:oA i σ p a=some σ'):(∃x off,p=.cp x off)\/(∃b off,p=.ref b off)\/∃b l hole off,p=.kp b l hole off:=by cases p<;>first|exact .inl ⟨_,_,rfl⟩|exact .inr (.inl ⟨_,_,rfl⟩)|cases h
section
variable{P:Program}(L:jg P){o:Oper}{env:Env}{σ:aa}{K:AV->aa->Prop}{Kp:AV->aa->Prop}
theorem aE.val{s:(Operand->Value)->Sem Value}(d:∀ρ,execOp ρ o=(do pure (.value (<-s ρ))))
 (h:∀k O (ρ:Operand->Value),(∀x∈o.op.operands,V k (ρ x) (am env x))->Rel k O σ ->
   dM P (s ρ) k O (λv k' O'=>lh k' O' λb e=>k.Le b/\∃a σ',V b v a/\Rel b e σ'/\K a σ') (λv k' O'=>k.Le k'/\∃a σ',V k' v a/\Rel k' O' σ'/\Kp a σ')):aE P o env σ K Kp:=λk O ρ f g=>by
 rw[d];refine af (lg _ (h k O ρ f g) (λv k' O' c=>?_) (λv k' O' c=>c));exact ai ⟨v,.inl rfl,c⟩
theorem sJ{x:Operand}(a:o.op=.move x\/o.op=.assign x)(c:K (am env x) σ):aE P o env σ K Kp:=λk O b d e=>by
 have:execOp b o=pure (.value (b x)):=by rcases a with a|a<;>simp[execOp,a]
 rw[this];refine ai ⟨b x,.inl rfl,.here ⟨.refl k,_,_,d x ?_,e,c⟩⟩
 rcases a with a|a<;>simp[a,Op.operands]
theorem Cz{c a b:Operand}{x:Bool}(d:o.op=.pick c a b)(h:am env c=.lit (.bool x))(i:K (if x then am env a else am env b) σ):aE P o env σ K Kp:=λk O e f j=>by
 have g:=f c (by simp[d,Op.operands]);have l:=f a (by simp[d,Op.operands]);have m:=f b (by simp[d,Op.operands]);rw[h]at g;generalize n:e c=v at g;cases g;have:execOp e o=pure (.value (if x then e a else e b)):=by simp[execOp,d,n,asBool]
 rw[this];refine ai ⟨_,.inl rfl,.here ⟨.refl k,_,_,?_,j,i⟩⟩;cases x<;>simp[l,m]
theorem xu{t:Nat}{p:Operand}{i:TI}{a:AV}(h:o.op=.load t p)(n:L.tt t=some i)(j:mH i σ (am env p)=some a)(q:K a σ):aE P o env σ K Kp:=
 aE.val (s:=λd=>Instr.loadAt t (d p)) (λd=>by simp[execOp,h]) λk O d f m=>by
  have g:=f p (by simp[h,Op.operands]);obtain⟨u,e⟩:=g.FQ (vY j);rw[e]at g;obtain⟨b,base,off,l,rfl,c,r⟩:=yI m g j;simp only[Instr.loadAt,e,Instr.sureAddr];exact af (ai (rm L c n r λv f=>.here ⟨.refl k,a,σ,f,m,q⟩))
theorem yJ{t:Nat}{p x:Operand}{i:TI}{σ':aa}(a:o.op=.store t p x)(h:L.tt t=some i)(d:oA i σ (am env p) (am env x)=some σ')(j:K (.lit undef) σ'):aE P o env σ K Kp:=λk O f g l=>by
 have b:=g p (by simp[a,Op.operands]);have m:=g x (by simp[a,Op.operands]);obtain⟨n,e⟩:=b.FQ (AZ d);rw[e]at b;have:execOp f o=(do storeVar t n (f x);pure .skip):=by simp[execOp,a,Instr.storeAt,e,Instr.sureAddr]
 rw[this];exact af (xr L l b m h d λq c=>ai ⟨undef,.inr ⟨rfl,rfl⟩,.here ⟨.refl k,.lit undef,σ',.lit _,c,j⟩⟩)
end
def AV.W(a a':AV):Prop:=∀k v,V k v a->V k v a'
theorem AV.W.refl(a:AV):a.W a:=λ_ _ h=>h
abbrev AV.nil:AV:=.lit (.slice none 0 0)
theorem V.QB{k:ag}(kk:Nat):V k (.slice none 0 0) (.sl kk [] .any):=.slnil none kk .any (.inl rfl)
theorem gl(kk:Nat):AV.nil.W (.sl kk [] .any):=λk v h=>by cases h;exact .QB kk
theorem fC(kk:Nat)(es:List AV)(sp:bV):(AV.sl kk es sp).W (.sl kk es .any):=λk v h=>by
 cases h with
 |sl b off cap _ N E _ _ c d e f g i j l=>exact .sl b off cap kk N E es .any c d e f g i j trivial
 |slnil a=>exact .slnil a kk .any (.inl rfl)
def kN:Value->AV
 |.agg c=>.agg (c.toList.map .lit)
 |v=>.lit v
theorem V.kN(k:ag)(v:Value):V k v (kN v):=by
 cases v<;>first|exact .lit _|skip
 rename_i c;refine .agg _ _ (by simp) λi v a d b=>?_
 simp only[List.getElem?_map]at b;rw[show c.toList[i]?=c[i]? from by simp,d]at b;simp at b;subst b;exact .lit v
theorem flatten_cons(a:AV)(es:List AV):flatten (a::es)=a.cells++flatten es:=rfl
theorem flatten_append(es fs:List AV):flatten (es++fs)=flatten es++flatten fs:=by simp[flatten]
theorem ba{kk:Nat}:∀{es:List AV},(∀e∈es,e.cells.length=kk)->(flatten es).length=es.length*kk
 |[],_=>by simp[flatten]
 |a::es,h=>by rw[flatten_cons,List.length_append,ba (λe b=>h e (by simp[b])),h a (by simp),List.length_cons,Nat.succ_mul,Nat.add_comm]
theorem iP{kk:Nat}:∀{es:List AV}(_:∀e∈es,e.cells.length=kk){i:Nat}{a:AV}(_:es[i]?=some a) (j:Nat) (_:j<kk),(flatten es)[i*kk+j]?=a.cells[j]?
 |[],_,i,a,b,_,_=>by simp at b
 |x::es,h,0,a,b,j,c=>by simp at b;subst b;rw[flatten_cons,Nat.zero_mul,Nat.zero_add,List.getElem?_append_left (by rw[h x (by simp)];exact c)]
 | x::es,h,i+1,a,b,j,c=>by
   rw[flatten_cons,List.getElem?_append_right (by rw[h x (by simp),Nat.succ_mul];omega),h x (by simp)]
   have:(i+1)*kk+j-kk=i*kk+j:=by rw[Nat.succ_mul];omega
   rw[this];exact iP (λe d=>h e (by simp[d])) (by simpa using b) j c
section
variable{P:Program}(L:jg P){k:ag}{O:ah}{Kp:Value->ag->ah->Prop}
theorem Rel.Dw{σ:aa}(h:Rel k O σ){r:Nat}(g:O r=none){k':ag}(f:k.Le k'){x y:Own}:Rel k' (((O.set r x).set r y).del r) σ:=⟨λb a e i=>by
 obtain⟨z,c,d⟩:=h.1 b a e i;have:b≠r:=λq=>by rw[q,g]at c;cases c
 exact⟨z,by simp[ah.del,ah.set,this,c],d.mono f⟩,λb e=>by
 obtain⟨c,s,d⟩:=h.2 b e;refine⟨?_,s,f.sh _ _ d⟩
 by_cases q:b=r
 . simp[ah.del,q]
 . simp[ah.del,ah.set,q,c]⟩
theorem ll{K:Addr->ag->ah->Prop}{E:TypeId}{c:Array Value}
 (l:∀r k' O',Cw k O r->(lh k' O' λd m=>k.Le d/\(∀j v,c[j]?=some v->d.cell r j=some v)/\d.sh r=some (E,c.size)/\(∀σ,Rel k O σ->Rel d m σ))->K ⟨r,0,none⟩ k' O'):dM P (newRow E c) k O K Kp:=by
 refine af (s:=newObj (.cells c E)) ⟨rfl,λr g=>ai (l r _ _ g ?_)⟩;obtain⟨f1,o,p⟩:=g;have a:k.Le (k.made r (.cells c E)):=.made p;have b:∀j,(k.made r (.cells c E)).cell r j=none:=o;refine⟨_,_,(lW (n:=c.size) (c:=c) (e:=E) (r:=r) (by simp[ah.set]) (by simp[ag.made,ag.dv])).trans (AY _ _ r (by simp[ah.set])),a.trans (.th b),λj v i=>?_,by simp[ag.th,ag.made,ag.dv],λσ h=>h.Dw f1 (a.trans (.th b))⟩;have f:j<c.size:=(Array.getElem?_eq_some_iff.1 i).1;simp only[ag.th,true_and,f,if_true];exact i
theorem gT{K:Addr->ag->ah->Prop}{E:TypeId}{c:Array Value}{σ:aa}(h:Rel k O σ){l:List AV}(d:c.size=l.length)(e:∀(i:Nat) v a,c[i]?=some v->l[i]?=some a->V k v a)(f:∀(i:Nat) v,c[i]?=some v->flat v=true)
 (g:∀r k' O',σ r=none->k.Le k'->Rel k' O' (σ.set r (.cells l))->K ⟨r,0,none⟩ k' O'):dM P (newRow E c) k O K Kp:=by
 refine af (s:=newObj (.cells c E)) ⟨rfl,λr b=>ai (g r _ _ (h.isNone b.1 b.2.2) (.made b.2.2) ?_)⟩;exact(h.mono (.made b.2.2)).set (.cells c E l d (λi v a j m=>(e i v a j m).mono (.made b.2.2)) f)
end
section
variable{P:Program}(L:jg P){o:Oper}{env:Env}{σ:aa}{K:AV->aa->Prop}{Kp:AV->aa->Prop}
theorem yK{t:Nat}{i:TI}(c:o.op=.alloc t)(d:L.tt t=some i)(e:(kN i.zero).cells.all AV.flat=true)(f:∀b,σ b=none->K (.ref b 0) (σ.set b (.cells (kN i.zero).cells))):aE P o env σ K Kp:=
 aE.val (s:=λ_=>Instr.alloc t true (.tuple #[])) (λg=>by simp[execOp,c]) λk O g q h=>by
  unfold Instr.alloc;refine af (cB L d ?_);obtain⟨j,l,m⟩:=(V.kN k i.zero).cells e;refine af (gT h j l m λr u v n p a=>ai ?_);exact .here ⟨p,_,_,.ref r 0,a,f r n⟩
theorem tj{t:Nat}{x:Operand}(d:o.op=.box t x)(e:(am env x).cells.all AV.flat=true)(f:∀b,σ b=none->K (.ref b 0) (σ.set b (.cells (am env x).cells))):aE P o env σ K Kp:=
 aE.val (s:=λa=>Instr.box t (a x)) (λa=>by simp[execOp,d]) λk O a g h=>by
  unfold Instr.box;obtain⟨i,j,l⟩:=(g x (by simp[d,Op.operands])).cells e;refine af (gT h i j l λr p q m n c=>ai ?_);exact .here ⟨n,_,_,.ref r 0,c,f r m⟩
theorem FT{t:Nat}{x:Operand}(e:o.op=.box t x)(l:(am env x).cells.all AV.flat=true)(m:K (.cp (am env x) 0) σ):aE P o env σ K Kp:=
 aE.val (s:=λc=>Instr.box t (c x)) (λc=>by simp[execOp,e]) λk O c n p=>by
  unfold Instr.box;obtain⟨f,q,u⟩:=(n x (by simp[e,Op.operands])).cells l;refine af (ll λr C D E v=>ai ?_);obtain⟨w,y,g,h,z,A,d⟩:=v;refine⟨w,y,g,h,_,σ,?_,d σ p,m⟩;refine V.cp r 0 0 _ _ _ (λj=>(c x).cells.getD j undef) A (by omega) (λj B=>?_) (λj a i=>?_)
  . have b:j<(c x).cells.size:=by rw[f];exact B
    rw[Nat.zero_add,z j ((c x).cells[j]) (by simp[b])];have:=u j ((c x).cells[j]) (by simp[b]);simpa[Array.getD,b]using this
  . have b:j<(c x).cells.size:=by rw[f];exact(List.getElem?_eq_some_iff.1 i).1
    have:=(q j ((c x).cells[j]) a (by simp[b]) i).mono h;simpa[Array.getD,b]using this
end
inductive FU(k:ag):Value->Nat->List AV->bV->Prop
 |nil (a:Option Addr) (kk:Nat) (sp:bV):(sp=.any\/(sp=.exact/\a.isSome=true))->FU k (.slice a 0 0) kk [] sp
 | row (b off cap kk N:Nat) (E:TypeId) (es:List AV) (sp:bV):es.length<=cap->k.sh b=some (E,N)->off+cap*kk<=N->(∀e∈es,e.cells.length=kk) ->
    (∀O,pi k O b off (flatten es))->sp.fits b off es.length kk cap->FU k (.slice (some ⟨b,off,none⟩) es.length cap) kk es sp
theorem V.Dx{k:ag}{v:Value}{kk:Nat}{es:List AV}{sp:bV}(h:V k v (.sl kk es sp)):FU k v kk es sp:=by
 cases h with
 |sl b off cap _ N E _ _ c d e f g i j l=>exact .row b off cap kk N E es sp d e f g (λO=>.known i j) l
 |slnil a _ _ h=>exact .nil a kk sp h
theorem FU.len{k:ag}{v:Value}{kk:Nat}{es:List AV}{sp:bV}(h:FU k v kk es sp):∃a c,v=.slice a es.length c:=by
 cases h
 . exact⟨_,_,rfl⟩
 . exact⟨_,_,rfl⟩
theorem V.ofRow{k:ag}{b off cap kk N:Nat}{E:TypeId}{es:List AV}{sp:bV}(g:es.length<=cap)(h:k.sh b=some (E,N))(i:off+cap*kk<=N)(l:∀e∈es,e.cells.length=kk)
 (f:∀(j:Nat) a,(flatten es)[j]?=some a->∃v,k.cell b (off+j)=some v/\V k v a/\bG.flat v=true) (m:sp.fits b off es.length kk cap):V k (.slice (some ⟨b,off,none⟩) es.length cap) (.sl kk es sp):=by
 refine .sl b off cap kk N E es sp (λj=>(k.cell b (off+j)).getD undef) g h i l (λj n=>?_) (λj a o=>?_) m
 . obtain⟨v,c,_,p⟩:=f j (flatten es)[j] (by simp[n])
   rw[c];exact⟨rfl,p⟩
 . obtain⟨v,c,d,_⟩:=f j a o
   rw[c];exact d
theorem V.kq{k:ag}{v:Value}{kk:Nat}{es:List AV}{sp:bV}(h:V k v (.sl kk es sp)):(∃a,v=.slice a 0 0/\es=[]/\(sp=.any\/(sp=.exact/\a.isSome=true)))\/
 ∃b off cap N E,v=.slice (some ⟨b,off,none⟩) es.length cap/\es.length<=cap/\k.sh b=some (E,N)/\off+cap*kk<=N/\(∀e∈es,e.cells.length=kk)/\(∀(j:Nat) a,(flatten es)[j]?=some a->∃v,k.cell b (off+j)=some v/\V k v a/\bG.flat v=true)/\sp.fits b off es.length kk cap:=by
 cases h with
 |sl b off cap _ N E _ _ c g i l m f n o=>exact .inr ⟨b,off,cap,N,E,rfl,g,i,l,m,λj a d=>⟨c j,(f j (List.getElem?_eq_some_iff.1 d).1).1,n j a d,(f j (List.getElem?_eq_some_iff.1 d).1).2⟩,o⟩
 |slnil a _ _ h=>exact .inl ⟨a,rfl,rfl,h⟩
theorem V.FV{k:ag}{b off cap kk N:Nat}{es:List AV}{sp:bV}(h:V k (.slice (some ⟨b,off,none⟩) N cap) (.sl kk es sp)):∀(j:Nat) a,(flatten es)[j]?=some a->∃v,k.cell b (off+j)=some v/\V k v a/\bG.flat v=true:=by
 intro j a d;cases h with
 |sl _ _ _ _ N E _ _ c g i l m e f n=>exact⟨c j,(e j (List.getElem?_eq_some_iff.1 d).1).1,f j a d,(e j (List.getElem?_eq_some_iff.1 d).1).2⟩
 |slnil=>simp[flatten]at d
section
variable{P:Program}(L:jg P){o:Oper}{env:Env}{σ:aa}{K:AV->aa->Prop}{Kp:AV->aa->Prop}
theorem bv{i:TI}{d:TypeDesc}{e:Nat}(h:cO P i d=true)(a:i.kind=.slice e):d=.slice e:=by cases d<;>simp_all [cO]
theorem oB{i:TI}{d:TypeDesc}{n e:Nat}(h:cO P i d=true)(a:i.kind=.array n e):d=.array n e:=by cases d<;>simp_all [cO]
theorem xv{x:Operand}{b:Array TypeId}{t e:Nat}{i:TI}{kk:Nat}{es:List AV}{sp:bV}(j:o.op=.call ⟨.builtin .len,#[x],b⟩)(l:b[0]?=some t)(m:L.tt t=some i)(n:i.kind=.slice e)
 (f:am env x=.sl kk es sp\/(am env x=.nil/\es=[])) (p:K (.lit (.int .i64 es.length)) σ):aE P o env σ K Kp:=
 fun k O g q r=>by
  have h:=q x (by simp[j,Op.operands,Call.operands])
  have s:∃a c,g x=.slice a es.length c:=by
   rcases f with f|⟨f,rfl⟩
   . rw[f]at h;exact h.Dx.len
   . rw[f]at h
     generalize g x=v at h;cases h;exact⟨_,_,rfl⟩
  obtain⟨a,c,u⟩:=s;have:execOp g o=(do pure (Next.value (<-Builtin.len_ b o.type #[g x]))):=by simp[execOp,j,resolve,invoke,builtin]
  rw[this];refine af ?_;unfold Builtin.len_;simp only[l,List.getElem?_toArray,List.getElem?_cons_zero];refine af (az L m λd _ hd=>?_);rw[bv hd n,u];exact ai (ai ⟨_,.inl rfl,.here ⟨.refl k,_,σ,.lit _,r,p⟩⟩)
theorem vZ{x:Operand}{f:Array TypeId}{t e:Nat}{i:TI}{b off len cap:Nat}(j:o.op=.call ⟨.builtin .len,#[x],f⟩)(l:f[0]?=some t)(m:L.tt t=some i)(n:i.kind=.slice e)
 (p:am env x=.eu b off len cap) (q:K (.lit (.int .i64 len)) σ):aE P o env σ K Kp:=
 λk O g r s=>by
  have h:=r x (by simp[j,Op.operands,Call.operands])
  have u:∃a c,g x=.slice a len c:=by rw[p]at h;generalize g x=v at h;cases h;exact⟨_,_,rfl⟩
  obtain⟨a,c,w⟩:=u;have:execOp g o=(do pure (Next.value (<-Builtin.len_ f o.type #[g x]))):=by simp[execOp,j,resolve,invoke,builtin]
  rw[this];refine af ?_;unfold Builtin.len_;simp only[l,List.getElem?_toArray,List.getElem?_cons_zero];refine af (az L m λd _ hd=>?_)
  rw[bv hd n,w];exact ai (ai ⟨_,.inl rfl,.here ⟨.refl k,_,σ,.lit _,s,q⟩⟩)
theorem cu{k:ag}{v:Value}{kd:IntKind}{n:Int}(h:V k v (.lit (.int kd n))):v=.int kd n:=by cases h;rfl
theorem tk{t e:Nat}{x l:Operand}{it f:TI}{es:List AV}{sp:bV}{n:Int}{kd:IntKind}{a:AV}(p:o.op=.indexAddr t x l)(D:L.tt t=some it)(F:it.kind=.slice e)(M:L.tt e=some f)
 (Q:am env x=.sl f.size es sp) (R:am env l=.lit (.int kd n)) (S:0<=n) (g:es[n.toNat]?=some a) (T:K (.cp a 0) σ):aE P o env σ K Kp:=
 aE.val (s:=λh=>Instr.indexAt t (h x) (h l)) (λh=>by simp[execOp,p]) λk O h G U=>by
  have m:=G x (by simp[p,Op.operands]);have H:=G l (by simp[p,Op.operands]);rw[Q]at m;rw[R]at H;rw[cu H];have q:n.toNat<es.length:=(List.getElem?_eq_some_iff.1 g).1;generalize h x=v at m;have c:=m;cases m.Dx with
  |nil=>simp at q
  | row b off cap _ N E _ _ Y W Z r g5 g6=>
    unfold Instr.indexAt;refine af (ai ?_);refine af (az L D λd _ hd=>?_);rw[bv hd F];dsimp only;refine af (ai ?_);dsimp only;refine af (az L D λd2 _ w=>?_);rw[bv w F];dsimp only;rw[if_pos ⟨S,by omega⟩];refine af (bH L M (ai (.here ⟨.refl k,_,σ,?_,U,T⟩)));rw[fL];have X:a.cells.length=f.size:=r a (List.mem_iff_getElem?.2 ⟨_,g⟩)
    have z:off+n.toNat*f.size+a.cells.length<=N:=by
     have hn:n.toNat<es.length:=(List.getElem?_eq_some_iff.1 g).1;have:=Nat.mul_le_mul_right f.size (show n.toNat+1<=cap by omega);rw[Nat.add_mul,Nat.one_mul]at this;omega
    refine V.cp b (off+n.toNat*f.size) 0 N E a (λj=>(k.cell b (off+n.toNat*f.size+j)).getD undef) W z (λj I=>?_) (λj y J=>?_)
    . have A:=iP r g j (by omega)
      obtain⟨u,i,_,B⟩:=c.FV (n.toNat*f.size+j) a.cells[j] (by rw[A];simp[I]);rw[<-Nat.add_assoc]at i;rw[i];exact⟨rfl,B⟩
    . have I:j<a.cells.length:=(List.getElem?_eq_some_iff.1 J).1
      have A:=iP r g j (by omega);obtain⟨u,i,C,_⟩:=c.FV (n.toNat*f.size+j) y (by rw[A];exact J);rw[<-Nat.add_assoc]at i;rw[i];exact C
end
section
variable{P:Program}(L:jg P){o:Oper}{env:Env}{σ:aa}{K:AV->aa->Prop}{Kp:AV->aa->Prop}
theorem rp{k:ag}{O:ah}{Kp:Value->ag->ah->Prop}{t:Nat}{info:TypeInfo}{K:Nat->ag->ah->Prop}(h:P.info? t=some info)(a:K info.size k O):dM P (sizeOf t) k O K Kp:=by unfold sizeOf typeInfo;refine af (af (bI ?_));rw[h];exact ai a
theorem rq{i:TI}{d:TypeDesc}(h:cO P i d=true)(c:i.kind=.struct){j:Nat}{x:Nat × Nat × Nat}(e:i.gQ[j]?=some x):∃fs f info,d=.struct fs/\fs[j]?=some f/\f.offset=x.1/\P.info? f.type=some info/\info.size=x.2.1/\f.type=x.2.2:=by
 cases d with
 | struct fs=>
   simp only[cO,Bool.and_eq_true,beq_iff_eq]at h;have b:=congrArg (λl=>l[j]?) h.2;simp only[List.getElem?_map,e,Option.map_some]at b;obtain⟨f,g,a⟩:=Option.map_eq_some_iff.1 b;simp only[Prod.mk.injEq]at a;obtain⟨info,k,m⟩:=Option.map_eq_some_iff.1 a.2.1;exact⟨fs,f,info,rfl,by simpa using g,a.1,k,m,a.2.2⟩
 |_=>simp[cO,c]at h
def pj(a:AV)(n:Nat):Option AV:=
 match a with
 |.cp v off=>some (.cp v (off+n))
 |.kp b l hole off=>some (.kp b l hole (off+n))
 |.ref b off=>some (.ref b (off+n))
 |_=>none
theorem V.pj{k:ag}{v:Value}{a a':AV}{n:Nat}(h:V k v a)(d:pj a n=some a'):∃b off,v=.pointer (some ⟨b,off,none⟩)/\V k (.pointer (some ⟨b,off+n,none⟩)) a':=by
 cases a<;>simp only[bG.pj,reduceCtorEq,Option.some.injEq]at d
 . subst d
   cases h with
   |cp b base _ N E _ c e f g i=>exact⟨b,_,rfl,by rw[Nat.add_assoc];exact .cp b base _ N E _ c e f g i⟩
 . subst d
   cases h with
   |kp _ _ N E _ _ c e f g i=>exact⟨_,_,rfl,.kp _ _ N E _ _ c e f g i⟩
 . subst d
   cases h;exact⟨_,_,rfl,.ref _ _⟩
theorem pn{s j:Nat}{x:Operand}{i:TI}{f:Nat × Nat × Nat}{a':AV}(h:o.op=.fieldAddr s x j)(l:L.tt s=some i)(m:i.kind=.struct)(n:i.gQ[j]?=some f)(p:f.2.1≠0)
 (q:pj (am env x) f.1=some a') (r:K a' σ):aE P o env σ K Kp:=
 aE.val (s:=λa=>Instr.fieldAt s (a x) j) (λa=>by simp[execOp,h]) λk O a t u=>by
  obtain⟨b,off,e,c⟩:=(t x (by simp[h,Op.operands])).pj q;unfold Instr.fieldAt;refine af (az L l λd _ hd=>?_);obtain⟨fs,g,info,rfl,v,w,y,z,_⟩:=rq hd m n;dsimp only;rw[v,e];dsimp only;refine af (ai ?_);unfold fieldPlace;refine af (af (rp y ?_));rw[z,if_neg p];refine ai (ai (.here ⟨.refl k,_,σ,?_,u,r⟩));rw[fL,w];exact c
theorem rt{t n e:Nat}{x a:Operand}{it i:TI}{z:Int}{kd:IntKind}{a':AV}(f:o.op=.indexAddr t x a)(j:L.tt t=some it)(l:it.kind=.array n e)(q:L.tt e=some i)
 (r:am env a=.lit (.int kd z)) (u:0<=z/\z<n) (v:pj (am env x) (z.toNat*i.size)=some a') (w:K a' σ):aE P o env σ K Kp:=
 aE.val (s:=λc=>Instr.indexAt t (c x) (c a)) (λc=>by simp[execOp,f]) λk O c m y=>by
  obtain⟨b,off,A,g⟩:=(m x (by simp[f,Op.operands])).pj v;have p:=m a (by simp[f,Op.operands]);rw[r]at p;rw[cu p,A];unfold Instr.indexAt;refine af (ai ?_);refine af (az L j λd _ hd=>?_);rw[oB hd l];dsimp only;refine af (ai ?_);refine af (ai ?_);dsimp only;refine af (az L j λB _ h=>?_);rw[oB h l];dsimp only;rw[if_pos u];refine af (bH L q (ai (.here ⟨.refl k,_,σ,?_,y,w⟩)));rw[fL];exact g
theorem ru{t e:Nat}{x c:Operand}{it i:TI}{b off len cap:Nat}{z:Int}{kd:IntKind}(f:o.op=.indexAddr t x c)(j:L.tt t=some it)(l:it.kind=.slice e)(p:L.tt e=some i)
 (q:am env x=.eu b off len cap) (r:am env c=.lit (.int kd z)) (u:0<=z/\z<len) (w:K (.ref b (off+z.toNat*i.size)) σ):aE P o env σ K Kp:=
 aE.val (s:=λa=>Instr.indexAt t (a x) (a c)) (λa=>by simp[execOp,f]) λk O a m y=>by
  have g:=m x (by simp[f,Op.operands]);have n:=m c (by simp[f,Op.operands]);rw[q]at g;rw[r]at n;rw[cu n];generalize a x=v at g;cases g;unfold Instr.indexAt;refine af (ai ?_);refine af (az L j λd _ hd=>?_);rw[bv hd l];dsimp only;refine af (ai ?_);dsimp only;refine af (az L j λA _ h=>?_);rw[bv h l];dsimp only;rw[if_pos u];refine af (bH L p (ai (.here ⟨.refl k,_,σ,?_,y,w⟩)));rw[fL];exact .ref _ _
theorem V.part{k:ag}{O:ah}{Kp:Value->ag->ah->Prop}{t off:Nat}{i:TI}{c:Array Value}{l:List AV}{a:AV}{K:Value->ag->ah->Prop}(h:c.size=l.length)(m:∀(j:Nat) v a,c[j]?=some v->l[j]?=some a->V k v a)
 (n:L.tt t=some i) (b:bX l off i.size i.agg=some a) (o:∀v,V k v a->K v k O):dM P (part t c off) k O K Kp:=by
 unfold Go.part;refine af (nD L n ?_);unfold bX at b;cases d:i.agg
 . simp only[d,Bool.false_eq_true,if_false]at b ⊢
   have e:off<l.length:=(List.getElem?_eq_some_iff.1 b).1;rw[show c[off]?=some c[off]from by simp[h,e]];exact o _ (m off _ a (by simp[h,e]) b)
 . simp only[d,if_true]at b ⊢
   split at b
   . next p=>
     simp only[Option.some.injEq]at b;subst b;refine af (bH L n (ai (o _ (.agg _ _ ?_ λj v a g f=>?_))))
     . simp[h];omega
     . rw[Array.getElem?_extract]at g
       rw[List.getElem?_take]at f;split at f
       . rw[List.getElem?_drop]at f
         split at g
         . exact m _ v a g f
         . cases g
       . cases f
   . cases b
theorem yL{s j:Nat}{x:Operand}{i h:TI}{f:Nat × Nat × Nat}{l:List AV}{a:AV}(p:o.op=.field s x j)(q:L.tt s=some i)(r:i.kind=.struct)(t:i.gQ[j]?=some f)(m:L.tt f.2.2=some h)
 (u:am env x=.agg l) (w:bX l f.1 h.size h.agg=some a) (y:K a σ):aE P o env σ K Kp:=
 aE.val (s:=λe=>Instr.field s (e x) j) (λe=>by simp[execOp,p]) λk O e n z=>by
  have b:=n x (by simp[p,Op.operands]);rw[u]at b;generalize e x=v at b;cases b with
  | agg c l A B=>
    unfold Instr.field;refine af (az L q λd _ hd=>?_);obtain⟨fs,g,info,rfl,b,C,E,F,D⟩:=rq hd r t;dsimp only;rw[b];dsimp only;refine af (ai ?_);rw[C,D];exact V.part L A B m w λv n=>.here ⟨.refl k,a,σ,n,z,y⟩
theorem yM{t n e:Nat}{x f:Operand}{it g:TI}{z:Int}{kd:IntKind}{l:List AV}{a:AV}(i:o.op=.index t x f)(q:L.tt t=some it)(r:it.kind=.array n e)(m:L.tt e=some g)
 (u:am env x=.agg l) (w:am env f=.lit (.int kd z)) (y:0<=z/\z<n) (A:bX l (z.toNat*g.size) g.size g.agg=some a) (B:K a σ):aE P o env σ K Kp:=
 aE.val (s:=λb=>Instr.index t (b x) (b f)) (λb=>by simp[execOp,i]) λk O b h C=>by
  have j:=h x (by simp[i,Op.operands]);have p:=h f (by simp[i,Op.operands]);rw[u]at j;rw[w]at p;rw[cu p];generalize b x=v at j;cases j with
  | agg c l D E=>
    unfold Instr.index;refine af (ai ?_);refine af (az L q λd _ hd=>?_);rw[oB hd r];dsimp only;rw[if_pos y];refine af (bH L m ?_);exact V.part L D E m A λv h=>.here ⟨.refl k,a,σ,h,C,B⟩
def n8(op:BinOp)(k:IntKind)(x y:Int):Option Value:=
 match op with
 |.add=>some (.int k (k.wrap (x+y)))
 |.sub=>some (.int k (k.wrap (x-y)))
 |.mul=>some (.int k (k.wrap (x*y)))
 |.quo=>if y=0 then none else some (.int k (k.wrap (x.tdiv y)))
 |.rem=>if y=0 then none else some (.int k (x.tmod y))
 |.and=>some (.int k (k.wrap ((BitVec.ofInt k.bits x &&& BitVec.ofInt k.bits y).toNat)))
 |.or=>some (.int k (k.wrap ((BitVec.ofInt k.bits x|||BitVec.ofInt k.bits y).toNat)))
 |.xor=>some (.int k (k.wrap ((BitVec.ofInt k.bits x ^^^ BitVec.ofInt k.bits y).toNat)))
 |.eql=>some (.bool (x==y))
 |.neq=>some (.bool (x !=y))
 |.lss=>some (.bool (x<y))
 |.leq=>some (.bool (x<=y))
 |.gtr=>some (.bool (x>y))
 |.geq=>some (.bool (x>=y))
 |_=>none
theorem bZ{op:BinOp}{t l:Nat}{x y:Operand}{kd:IntKind}{a b:Int}{v:Value}(g:o.op=.binOp op t x y l)(m:am env x=.lit (.int kd a))(n:am env y=.lit (.int kd b))(d:n8 op kd a b=some v)(p:K (.lit v) σ):
 aE P o env σ K Kp:=λk O c f q=>by
 have i:=f x (by simp[g,Op.operands]);have j:=f y (by simp[g,Op.operands]);rw[m]at i;rw[n]at j;have r:=cu i;have s:=cu j
 have key:(do eqGuard op t x y (c x) (c y);binOp op t (c x) (c y))=(pure v:Sem Value):=by
  rw[r,s]
  cases op<;>simp only[n8,reduceCtorEq,Option.some.injEq]at d<;>
   first
    |(subst d;simp[eqGuard,binOp,Op.intArith,Op.intBits,Op.intCmp];done)
    | (split at d
       . cases d
       . next h=>simp only[Option.some.injEq]at d;subst d;simp[eqGuard,binOp,Op.intDiv,h])
 have:execOp c o=pure (.value v):=by
  have e:execOp c o=(do let v <-(do eqGuard op t x y (c x) (c y);binOp op t (c x) (c y));pure (.value v)):=by simp[execOp,g]
  rw[e,key];rfl
 rw[this];exact ai ⟨v,.inl rfl,.here ⟨.refl k,_,σ,.lit v,q,p⟩⟩
theorem wrap_i64{n:Int}(h:-9223372036854775808<=n/\n<=9223372036854775807):IntKind.i64.wrap n=n:=by simp only[IntKind.wrap,IntKind.bits,IntKind.signed];simp;omega
theorem ln{op:BinOp}{t e:Nat}{x y:Operand}{a b r:Int}(f:o.op=.binOp op t x y e)(g:am env x=.lit (.int .i64 a))(h:am env y=.lit (.int .i64 b))
 (d:(op=.add/\r=a+b)\/(op=.sub/\r=a-b)\/(op=.mul/\r=a*b)) (c:-9223372036854775808<=r/\r<=9223372036854775807) (i:K (.lit (.int .i64 r)) σ):aE P o env σ K Kp:=by
 have j:=wrap_i64 c;rcases d with⟨rfl,rfl⟩|⟨rfl,rfl⟩|⟨rfl,rfl⟩<;>exact bZ f g h (by simp only[n8,j]) i
theorem po{op:BinOp}{t j:Nat}{x y:Operand}{kd l:IntKind}{a b:Int}{v:Value}(f:o.op=.binOp op t x y j)(m:am env x=.lit (.int kd a))(n:am env y=.lit (.int l b))(hb:0<=b)
 (g:(op=.shl/\v=.int kd (kd.wrap (a*2 ^ (min b.toNat kd.bits))))\/(op=.shr/\v=.int kd (a.fdiv (2 ^ (min b.toNat kd.bits))))) (p:K (.lit v) σ):
 aE P o env σ K Kp:=λk O c d q=>by
 have h:=d x (by simp[f,Op.operands]);have i:=d y (by simp[f,Op.operands]);rw[m]at h;rw[n]at i;have r:=cu h;have s:=cu i;have u:¬b<0:=by omega
 have key:(do eqGuard op t x y (c x) (c y);binOp op t (c x) (c y))=(pure v:Sem Value):=by
  rw[r,s];rcases g with⟨rfl,rfl⟩|⟨rfl,rfl⟩<;>simp[eqGuard,binOp,Op.shift,u]
 have:execOp c o=pure (.value v):=by
  have e:execOp c o=(do let v <-(do eqGuard op t x y (c x) (c y);binOp op t (c x) (c y));pure (.value v)):=by simp[execOp,f]
  rw[e,key];rfl
 rw[this];exact ai ⟨v,.inl rfl,.here ⟨.refl k,_,σ,.lit v,q,p⟩⟩
theorem oC{k:ag}{v:Value}{b:Bool}(h:V k v (.lit (.bool b))):v=.bool b:=by cases h;rfl
theorem FW{t:Nat}{x:Operand}{b:Bool}(c:o.op=.unOp .not t x)(e:am env x=.lit (.bool b))(f:K (.lit (.bool !b)) σ):aE P o env σ K Kp:=λk O g a h=>by
 have d:=a x (by simp[c,Op.operands]);rw[e]at d;have:execOp g o=pure (.value (.bool !b)):=by simp[execOp,c,oC d,Op.unary]
 rw[this];exact ai ⟨_,.inl rfl,.here ⟨.refl k,_,σ,.lit _,h,f⟩⟩
theorem tp{s t:Nat}{x:Operand}{is it:TI}{kd f:IntKind}{b:IntKind}{a:Int}(g:o.op=.convert s t x)(j:L.tt s=some is)(l:L.tt t=some it)(m:is.kind=.int f)(n:it.kind=.int kd)(p:am env x=.lit (.int b a))(q:K (.lit (.int kd (kd.wrap a))) σ):aE P o env σ K Kp:=
 aE.val (s:=λc=>convert s t (c x)) (λc=>by simp[execOp,g]) λk O c e r=>by
  have h:=e x (by simp[g,Op.operands])
  rw[p]at h;rw[cu h];unfold convert;refine af (az L j λd _ hd=>af (az L l λi _ u=>?_))
  have v:i=.int kd:=by cases i<;>simp_all [cO]
  have w:d=.int f:=by cases d<;>simp_all [cO]
  subst w v;exact ai (.here ⟨.refl k,_,σ,.lit _,r,q⟩)
theorem nE{b:Builtin}{c:Array TypeId}{x y:Operand}{kd:IntKind}{p q:Int}(d:o.op=.call ⟨.builtin b,#[x,y],c⟩)(g:am env x=.lit (.int kd p))(h:am env y=.lit (.int kd q))
 {r:Int}(hb:(b=.min/\r=if q<p then q else p)\/(b=.max/\r=if q>p then q else p)) (i:K (.lit (.int kd r)) σ):aE P o env σ K Kp:=λk O j a l=>by
 have e:=a x (by simp[d,Op.operands,Call.operands])
 have f:=a y (by simp[d,Op.operands,Call.operands])
 rw[g]at e;rw[h]at f;have m:=cu e;have n:=cu f
 have:execOp j o=pure (.value (.int kd r)):=by
  rcases hb with⟨rfl,rfl⟩|⟨rfl,rfl⟩<;>
  simp[execOp,d,resolve,invoke,builtin,m,n,Builtin.min_,Builtin.max_,Builtin.min2,Builtin.max2]
 rw[this];exact ai ⟨_,.inl rfl,.here ⟨.refl k,_,σ,.lit _,l,i⟩⟩
theorem lp{t:Nat}{x:Operand}{i:TI}(l:o.op=.makeInterface t x)(m:L.tt t=some i)(n:i.kind≠.iface)(p:K (.mS t (am env x)) σ):aE P o env σ K Kp:=
 aE.val (s:=λf=>Instr.makeInterface t (f x)) (λf=>by simp[execOp,l]) λk O f g q=>by
  unfold Instr.makeInterface;refine af (az L m λd _ hd=>?_)
  have:∀ms,d≠.interface ms:=λms e=>by subst e;simp[cO]at hd;exact n hd
  have fin:dM P (pure (Value.iface t (f x)):Sem Value) k O (λv c h=>lh c h λj r=>k.Le j/\∃a b,V j v a/\Rel j r b/\K a b) (λv c h=>k.Le c/\∃a b,V c v a/\Rel c h b/\Kp a b):=ai (.here ⟨.refl k,_,σ,.mS _ _ _ (g x (by simp[l,Op.operands])),q,p⟩)
  cases d<;>first|exact fin|exact absurd rfl (this _)
theorem Vs.ofArray{k:ag}{ρ:Operand->Value}{env:Env}{xs:Array Operand}(h:∀x∈xs,V k (ρ x) (am env x)):(xs.map ρ).size=(xs.toList.map (am env)).length/\∀(i:Nat) v a,(xs.map ρ)[i]?=some v->(xs.toList.map (am env))[i]?=some a->V k v a:=by
 refine⟨by simp,λi v a b c=>?_⟩;simp only[Array.getElem?_map,List.getElem?_map,Array.getElem?_toList]at b c;cases d:xs[i]? with
 |none=>rw[d]at b;cases b
 |some x=>rw[d]at b c;simp at b c;subst b;subst c;exact h x (Array.mem_of_getElem? d)
theorem rv{fn:Fn}{fs cs:Array Operand}(b:o.op=.makeFunc fn fs cs)(d:K (.fn fn (fs.toList.map (am env)) (cs.toList.map (am env))) σ):aE P o env σ K Kp:=λk O ρ a e=>by
 have:execOp ρ o=pure (.value (.func fn (fs.map ρ) (cs.map ρ))):=by simp[execOp,b,Instr.makeFunc]
 rw[this];obtain⟨f,g⟩:=Vs.ofArray (k:=k) (ρ:=ρ) (env:=env) (xs:=fs) λx c=>a x (by simp[b,Op.operands,c])
 obtain⟨h,i⟩:=Vs.ofArray (k:=k) (ρ:=ρ) (env:=env) (xs:=cs) λx c=>a x (by simp[b,Op.operands,c])
 exact ai ⟨_,.inl rfl,.here ⟨.refl k,_,σ,.fn _ _ _ _ _ f g h i,e,d⟩⟩
theorem tu{x:Operand}{j:Nat}{l:List AV}{a:AV}(e:o.op=.extract x j)(i:am env x=.cq l)(f:l[j]?=some a)(m:K a σ):aE P o env σ K Kp:=λk O g b n=>by
 have d:=b x (by simp[e,Op.operands])
 rw[i]at d;generalize p:g x=v at d;cases d with
 | cq c l q r=>
   have h:j<c.size:=by rw[q];exact(List.getElem?_eq_some_iff.1 f).1
   have:execOp g o=pure (.value c[j]):=by simp[execOp,e,Instr.extract,p,h]
   rw[this];exact ai ⟨_,.inl rfl,.here ⟨.refl k,_,σ,r j _ a (by simp[h]) f,n,m⟩⟩
theorem oe{x:Operand}{B t:Nat}{i:TI}{d:Nat}{y:AV}(C:o.op=.typeAssert x B t true)(D:L.tt t=some i)(G:i.kind≠.iface)(H:am env x=.mS d y)
 (p:K (if d=t then .cq [y,.lit (.bool true)]else .cq [kN i.zero,.lit (.bool false)]) σ):aE P o env σ K Kp:=
 aE.val (s:=λm=>Instr.typeAssert (m x) B t true) (λm=>by simp[execOp,C]) λk O m q E=>by
  have g:=q x (by simp[C,Op.operands]);rw[H]at g;generalize m x=v at g;cases g with
  | mS _ v _ I=>
    unfold Instr.typeAssert;refine af (az L D λF _ hd=>?_);have r:∀ms,F≠.interface ms:=λms e=>by subst e;simp[cO]at hd;exact G hd
    have pair:∀{u:Value}{b:Bool}{a:AV},V k u a->V k (.tuple #[u,.bool b]) (.cq [a,.lit (.bool b)]):=λ{u b a} h=>.cq _ _ rfl λj w c g n=>by
     match j with
     |0=>simp at g n;subst g;subst n;exact h
     |1=>simp at g n;subst g;subst n;exact .lit _
     |j+2=>simp at g
    have fin:dM P (if d=t then(pure (.tuple #[v,.bool true]):Sem Value)else(do pure (.tuple #[<-zeroValue t,.bool false]))) k O (λv l z=>lh l z λA J=>k.Le A/\∃a f,V A v a/\Rel A J f/\K a f) (λv l z=>k.Le l/\∃a f,V l v a/\Rel l z f/\Kp a f):=by
     split at p
     . next e=>rw[if_pos e];exact ai (.here ⟨.refl k,_,σ,pair I,E,p⟩)
     . next e=>rw[if_neg e];exact af (cB L D (ai (.here ⟨.refl k,_,σ,pair (.kN k _),E,p⟩)))
    cases F<;>first|exact fin|exact absurd rfl (r _)
theorem dS{x:Operand}(g:o.op=.nilCheck x)(h:(∃v off,am env x=.cp v off)\/(∃b off,am env x=.ref b off)\/(∃f l r,am env x=.fn (.func f) l r)\/∃b l hole off,am env x=.kp b l hole off)(i:K (am env x) σ):aE P o env σ K Kp:=λk O c d j=>by
 have a:=d x (by simp[g,Op.operands])
 have:execOp c o=pure (.value (c x)):=by rcases h with⟨v,off,e⟩|⟨b,off,e⟩|⟨f,l,r,e⟩|⟨b,l,hole,off,e⟩<;>rw[e]at a<;>generalize m:c x=w at a<;>cases a<;>simp[execOp,g,m]
 rw[this];exact ai ⟨_,.inl rfl,.here ⟨.refl k,_,σ,a,j,i⟩⟩
theorem yN{x:Operand}{t:Nat}{y:AV}(c:o.op=.panic x)(e:am env x=.mS t y)(f:Kp (.mS t y) σ):aE P o env σ K Kp:=λk O d a g=>by
 have b:=a x (by simp[c,Op.operands])
 rw[e]at b;generalize h:d x=w at b;cases b with
 | mS _ v _ i=>
   have:execOp d o=Sem.halt (.panic (.iface t v)):=by simp[execOp,c,h,Instr.panic,goPanic];rfl
   rw[this];exact⟨.refl k,_,σ,.mS _ _ _ i,g,f⟩
theorem yO{op:BinOp}{t F e:Nat}{x y:Operand}{i:TI}{kk:Nat}{es:List AV}{sp:bV}{isNil:Bool}(u:o.op=.binOp op t x y F)(G:L.tt t=some i)(H:i.kind=.slice e)(I:am env y=.nil)
 (J:(am env x=.nil/\isNil=true)\/(am env x=.sl kk es sp/\es≠[]/\isNil=false)\/(am env x=.sl kk es sp/\sp≠.any/\isNil=false)){b:Bool}(m:(op=.eql/\b=isNil)\/(op=.neq/\b=!isNil)) (M:K (.lit (.bool b)) σ):aE P o env σ K Kp:=
 aE.val (s:=λf=>do eqGuard op t x y (f x) (f y);binOp op t (f x) (f y)) (λf=>by simp[execOp,u]) λk O f p N=>by
  have j:=p x (by simp[u,Op.operands])
  have z:=p y (by simp[u,Op.operands])
  rw[I]at z;have Q:f y=.slice none 0 0:=by generalize f y=w at z;cases z;rfl
  have A : ∃a n c,f x=.slice a n c/\a.isNone=isNil:=by
   rcases J with⟨e,rfl⟩|⟨e,l,rfl⟩|⟨e,l,rfl⟩<;>rw[e]at j
   . generalize f x=w at j;cases j;exact⟨_,_,_,rfl,rfl⟩
   . generalize f x=w at j
     cases j.Dx with
     |nil=>exact absurd rfl l
     |row=>exact⟨_,_,_,rfl,rfl⟩
   . generalize f x=w at j
     cases j.Dx with
     | nil a _ _ h=>
       rcases h with h|⟨_,h⟩
       . exact absurd h l
       . cases a with
         |none=>cases h
         |some a=>exact⟨_,_,_,rfl,rfl⟩
     |row=>exact⟨_,_,_,rfl,rfl⟩
  obtain⟨a,n,c,A,E⟩:=A;rw[A,Q];have S:eqGuard op t x y (.slice a n c) (.slice none 0 0)=pure ():=by rcases m with⟨rfl,_⟩|⟨rfl,_⟩<;>simp[eqGuard]
  rw[S];refine af (ai ?_)
  have fin:∀{s:Sem Value},s=(do pure (.bool b))->dM P s k O (λv q B=>lh q B λC T=>k.Le C/\∃a g,V C v a/\Rel C T g/\K a g) (λv q B=>k.Le q/\∃a g,V q v a/\Rel q B g/\Kp a g):=λe=>by rw[e];exact ai (.here ⟨.refl k,_,σ,.lit _,N,M⟩)
  have r:∀(R:Bool->ag->ah->Prop) (D:Value->ag->ah->Prop),R isNil k O->dM P (Op.equal t (.slice a n c) (.slice none 0 0)) k O R D:=λR D U=>by
   show dM P (Op.equalIn (9999+1) t (.slice a n c) (.slice none 0 0)) k O R D;rw[Op.equalIn];refine af (az L G λd _ hd=>?_)
   rw[bv hd H];cases a<;>simp at E<;>subst E<;>exact ai U
  rcases m with⟨rfl,rfl⟩|⟨rfl,rfl⟩
  . exact af (s:=Op.equal t (.slice a n c) (.slice none 0 0)) (r _ _ (fin rfl))
  . exact af (s:=Op.equal t (.slice a n c) (.slice none 0 0)) (r _ _ (fin rfl))
end
end Go.bG
