/- Part 2 of the proof. -/
import Derived.Conc.Beside
import Derived.Test.YtigilmjkokbblaaGreatDoorC1
set_option linter.all false
namespace Go.bd
open Go.Conc
def eQ(P:Program)(W0:World)(k:ah)(O:ai)(g:Goroutine)(gs:Array Goroutine)(w:World)(t:Trace):Prop:=
 ∃ (Shun:Loc->Prop) (q:Nat->Nat),gs[0]?=some g/\Leavers P t gs q/\Past Shun w.heap.size t/\
   (∀a,Shun (.cell a)->a.block<w.heap.size/\¬aY O a.block a.off/\k.cell a.block a.off=none)/\(∀r,Shun (.obj r)->r<w.heap.size/\∀o,O r≠some (.obj o))/\Sat k O w/\vr W0 w/\∀b x,O b=some x->W0.heap.size<=b
def AH(P:Program)(k:ah)(O:ai)(g:Goroutine)(N:ah->ai->Goroutine->Prop):Prop:=∀W0 gs w sl t,eQ P W0 k O g gs w t->∃n a c b d e f g',runNT P n (crowd gs w sl) t=(.next (crowd a c b),d)/\eQ P W0 e f g' a c d/\N e f g'
def AI(P:Program)(main:Bool)(k:ah)(O:ai)(g:Goroutine)(N:ah->ai->Goroutine->Prop):Prop:=∀w,Sat k O w->∃g' a es b c,stepG P main g w=.go g' a es/\Eff k O w b c a es.toList/\Sat b c a/\N b c g'
def lP(k:ah)(O:ai)(a:ah)(b:ai):Prop:=∀w,Sat k O w->Sat a b w/\Eff k O w a b w []
structure Mo where
 main:Bool
 solo:Bool
 dC:ah->ai->Goroutine->(ah->ai->Goroutine->Prop)->Prop
inductive T(P:Program)(m:Mo)(Q:ah->ai->Goroutine->Prop):ah->ai->Goroutine->Prop
 |stop {k:ah}{O:ai}{g:Goroutine}:Q k O g->T P m Q k O g
 |step {k:ah}{O:ai}{g:Goroutine}(N:ah->ai->Goroutine->Prop):g.status=.running->(∀k' O' g',N k' O' g'->T P m Q k' O' g')->AI P m.main k O g N->T P m Q k O g
 |ghost {k k2:ah}{O O2:ai}{g:Goroutine}:lP k O k2 O2->T P m Q k2 O2 g->T P m Q k O g
 |phase {k:ah}{O:ai}{g:Goroutine}(N:ah->ai->Goroutine->Prop):m.solo=true->(∀k' O' g',N k' O' g'->T P m Q k' O' g')->AH P k O g N->T P m Q k O g
 |dC {k:ah}{O:ai}{g:Goroutine}(N:ah->ai->Goroutine->Prop):g.status=.running->m.dC k O g N->(∀k' O' g',N k' O' g'->T P m Q k' O' g')->T P m Q k O g
inductive cG where
 |any
 |exact
 |tok (b e:Nat)
inductive AV where
 |lit (v:Value)
 |bC
 |agg (l:List AV)
 |bG (l:List AV)
 |sl (k:Nat) (es:List AV) (sp:cG)
 |cp (v:AV) (off:Nat)
 |kp (b:Nat) (l:List AV) (hole:List Nat) (off:Nat)
 |ref (b off:Nat)
 |ew (b off len cap:Nat)
 |fn (f:Fn) (first captured:List AV)
 |lg (t:TypeId) (v:AV)
 |map (b:Nat)
 |chan (b:Nat)
instance:Inhabited AV:=⟨.bC⟩
def AV.cells:AV->List AV
 |.agg l=>l
 |v=>[v]
def flatten(es:List AV):List AV:=es.flatMap AV.cells
def cG.fits(b off len kk cap:Nat):cG->Prop
 |.any=>True
 |.exact=>cap=len
 |.tok a e=>a=b/\e=off+len*kk
inductive V(k:ah):Value->AV->Prop
 |lit (v:Value):V k v (.lit v)
 |bC (v:Value):V k v .bC
 |agg (c:Array Value) (l:List AV):c.size=l.length->(∀(i:Nat) v a,c[i]?=some v->l[i]?=some a->V k v a)->V k (.agg c) (.agg l)
 |bG (c:Array Value) (l:List AV):c.size=l.length->(∀(i:Nat) v a,c[i]?=some v->l[i]?=some a->V k v a)->V k (.tuple c) (.bG l)
 | sl (b off cap kk N:Nat) (E:TypeId) (es:List AV) (sp:cG) (c:Nat->Value):es.length<=cap->k.sh b=some (E,N)->off+cap*kk<=N->(∀e∈es,e.cells.length=kk) ->
    (∀j,j<(flatten es).length->k.cell b (off+j)=some (c j)/\flat (c j)=true)->(∀(j:Nat) a,(flatten es)[j]?=some a->V k (c j) a)->sp.fits b off es.length kk cap ->
    V k (.slice (some ⟨b,off,none⟩) es.length cap) (.sl kk es sp)
 |slnil (a:Option Addr) (kk:Nat) (sp:cG):(sp=.any\/(sp=.exact/\a.isSome=true))->V k (.slice a 0 0) (.sl kk [] sp)
 | cp (b base off N:Nat) (E:TypeId) (v:AV) (c:Nat->Value):k.sh b=some (E,N)->base+v.cells.length<=N->(∀j,j<v.cells.length->k.cell b (base+j)=some (c j)/\flat (c j)=true)->(∀(j:Nat) a,v.cells[j]?=some a->V k (c j) a) ->
    V k (.pointer (some ⟨b,base+off,none⟩)) (.cp v off)
 | kp (b off N:Nat) (E:TypeId) (l:List AV) (hole:List Nat) (c:Nat->Value):k.sh b=some (E,N)->l.length<=N->(∀j,j<l.length->j∉hole->k.cell b j=some (c j)/\flat (c j)=true)->(∀(j:Nat) a,j∉hole->l[j]?=some a->V k (c j) a) ->
    V k (.pointer (some ⟨b,off,none⟩)) (.kp b l hole off)
 |ref (b off:Nat):V k (.pointer (some ⟨b,off,none⟩)) (.ref b off)
 |ew (b off len cap:Nat):V k (.slice (some ⟨b,off,none⟩) len cap) (.ew b off len cap)
 | fn (f:Fn) (c1 c2:Array Value) (l1 l2:List AV):c1.size=l1.length->(∀(i:Nat) v a,c1[i]?=some v->l1[i]?=some a->V k v a)->c2.size=l2.length->(∀(i:Nat) v a,c2[i]?=some v->l2[i]?=some a->V k v a) ->
    V k (.func f c1 c2) (.fn f l1 l2)
 |lg (t:TypeId) (v:Value) (a:AV):V k v a->V k (.iface t v) (.lg t a)
 |map (b:Nat):V k (.map (some b)) (.map b)
 |chan (b:Nat):V k (.chan (some b)) (.chan b)
theorem V.mono{k k':ah}(i:k.Le k'){v:Value}{a:AV}(h:V k v a):V k' v a:=by
 induction h with
 |lit v=>exact .lit v
 |bC v=>exact .bC v
 |agg c l d _ e=>exact .agg c l d e
 |bG c l d _ e=>exact .bG c l d e
 |sl b off cap m N E es sp c d u n w r _ x e=>exact .sl b off cap m N E es sp c d (i.sh _ _ u) n w (λj g=>⟨i.cell _ _ _ (r j g).1,(r j g).2⟩) e x
 |slnil a m sp h=>exact .slnil a m sp h
 |cp b base off N E v c o hb d _ e=>exact .cp b base off N E v c (i.sh _ _ o) hb (λj g=>⟨i.cell _ _ _ (d j g).1,(d j g).2⟩) e
 |kp b off N E l hole c o hb d _ e=>exact .kp b off N E l hole c (i.sh _ _ o) hb (λj g s=>⟨i.cell _ _ _ (d j g s).1,(d j g s).2⟩) e
 |ref b off=>exact .ref b off
 |ew b off len cap=>exact .ew b off len cap
 |fn f y z A B d _ n _ p q=>exact .fn f y z A B d p n q
 |lg t v a _ e=>exact .lg t v a e
 |map b=>exact .map b
 |chan b=>exact .chan b
def Vs(k:ah)(c:List Value)(l:List AV):Prop:=c.length=l.length/\∀(i:Nat) v a,c[i]?=some v->l[i]?=some a->V k v a
theorem Vs.nil{k:ah}:Vs k [] []:=⟨rfl,λi v a h=>by simp at h⟩
theorem Vs.cons{k:ah}{v:Value}{a:AV}{c:List Value}{l:List AV}(h:V k v a)(e:Vs k c l):Vs k (v::c) (a::l):=
 ⟨by simp[e.1],λi f g b d=>by
   cases i with
   |zero=>simp at b d;subst b;subst d;exact h
   |succ i=>simp at b d;exact e.2 i f g b d⟩
theorem Vs.mono{k k':ah}(b:k.Le k'){c:List Value}{l:List AV}(h:Vs k c l):Vs k' c l:=⟨h.1,λi v a d e=>(h.2 i v a d e).mono b⟩
theorem Vs.append{k:ah}{c c':List Value}{l e:List AV}(h:Vs k c l)(f:Vs k c' e):Vs k (c++c') (l++e):=
 ⟨by simp[h.1,f.1],λi v a b d=>by
   by_cases g:i<c.length
   . rw[List.getElem?_append_left g]at b
     rw[List.getElem?_append_left (by rw[<-h.1];exact g)]at d;exact h.2 i v a b d
   . rw[List.getElem?_append_right (by omega)]at b
     rw[List.getElem?_append_right (by rw[<-h.1];omega),<-h.1]at d;exact f.2 _ v a b d⟩
abbrev Env:=Nat->AV
def Env.upd(env:Env)(t:Nat)(v:AV):Env:=λu=>if u=t then v else env u
def fH(k:ah)(tmps:Array Value)(env:Env):Prop:=∀t,t<tmps.size->V k (tmps.getD t undef) (env t)
theorem fH.mono{k k':ah}{tmps:Array Value}{env:Env}(h:fH k tmps env)(a:k.Le k'):fH k' tmps env:=λt b=>(h t b).mono a
structure mE where
 state:LoopState
 pending:Option Code
 fn:FuncId
 n:Nat
 env:Env
 params:Array Tmp
 assign:Code
 body:Code
 defers:Nat
inductive jB where
 |cells (l:List AV)
 |tail (n:Nat)
 |part (f:Nat->Option Value)
 |map (m:List (AV × AV))
 |loop (l:mE)
 |raw (o:Obj)
 |kg
 |stay (l:List AV)
abbrev aa:=Nat->Option jB
def aa.set(σ:aa)(b:Nat)(x:jB):aa:=λc=>if c=b then some x else σ c
def aa.del(σ:aa)(b:Nat):aa:=λc=>if c=b then none else σ c
def aa.Le(σ σ':aa):Prop:=∀b x,σ b=some x->σ' b=some x
inductive mr(k:ah):Own->jB->Prop
 |cells (c:Array Value) (e:TypeId) (l:List AV):c.size=l.length->(∀(i:Nat) v a,c[i]?=some v->l[i]?=some a->V k v a)->(∀(i:Nat) v,c[i]?=some v->flat v=true)->mr k (.obj (.cells c e (0,0))) (.cells l)
 |tail (n:Nat):mr k (.tail n) (.tail n)
 |part (f:Nat->Option Value):mr k (.part f) (.part f)
 |map (es:Array MapEntry) (clock:Nat) (m:List (AV × AV)):es.size=m.length->(∀(i:Nat) e p,es[i]?=some e->m[i]?=some p->V k e.key p.1/\V k e.val p.2)->mr k (.obj (.map es clock)) (.map m)
 |loop (a:mE) (tmps:Array Value):tmps.size=a.n->fH k tmps a.env->mr k (.obj (.loop ⟨a.state,a.pending,a.fn,tmps,a.params,a.assign,a.body,a.defers⟩)) (.loop a)
 |raw (o:Obj):iB o=false->mr k (.obj o) (.raw o)
theorem mr.mono{k k':ah}(g:k.Le k'){x:Own}{a:jB}(h:mr k x a):mr k' x a:=by
 cases h with
 |cells c e l d b r=>exact .cells c e l d (λi v a s t=>(b i v a s t).mono g) r
 |tail n=>exact .tail n
 |part f=>exact .part f
 |map es clock m d b=>exact .map es clock m d λi e p j q=>⟨(b i e p j q).1.mono g,(b i e p j q).2.mono g⟩
 |loop a tmps d b=>exact .loop a tmps d (b.mono g)
 |raw o h=>exact .raw o h
@[simp] def jB.gone:jB->Bool
  |.kg=>true
  |.stay _=>true
  |_=>false
def Pb(k:ah)(b:Nat)(l:List AV):Prop:=∀(i:Nat) a,l[i]?=some a->∃v,k.cell b i=some v/\V k v a/\flat v=true
def Rel(k:ah)(O:ai)(σ:aa):Prop:=(∀b a,σ b=some a->a.gone=false->∃x,O b=some x/\mr k x a)/\∀b a,σ b=some a->a.gone=true->O b=none/\(∃s,k.sh b=some s)/\∀l,a=.stay l->Pb k b l
theorem Rel.mono{k k':ah}{O:ai}{σ:aa}(h:Rel k O σ)(c:k.Le k'):Rel k' O σ:=⟨λb a e n=>let ⟨x,d,f⟩:=h.1 b a e n;⟨x,d,f.mono c⟩,λb a e n=>let ⟨d,⟨s,f⟩,g⟩:=h.2 b a e n;⟨d,⟨s,c.sh _ _ f⟩,λl q i x j=>let ⟨v,m,o,p⟩:=g l q i x j;⟨v,c.cell _ _ _ m,o.mono c,p⟩⟩⟩
theorem Rel.le{k:ah}{O:ai}{σ σ':aa}(h:Rel k O σ)(c:σ'.Le σ):Rel k O σ':=⟨λb a e=>h.1 b a (c b a e),λb a e=>h.2 b a (c b a e)⟩
theorem mr.JJ{k:ah}{x:Own}{a:jB}(h:mr k x a):a.gone=false:=by cases h<;>rfl
theorem Rel.set{k:ah}{O:ai}{σ:aa}(h:Rel k O σ){b:Nat}{x:Own}{a:jB}(j:mr k x a):Rel k (O.set b x) (σ.set b a):=⟨λc y e f=>by
 by_cases d:c=b
 . subst d
   simp only[aa.set,if_true,Option.some.injEq]at e;subst e;exact⟨x,by simp[ai.set],j⟩
 . simp only[aa.set,d,if_false]at e
   obtain⟨z,g,i⟩:=h.1 c y e f;exact⟨z,by simp[ai.set,d,g],i⟩,λc y e f=>by
 by_cases d:c=b
 . subst d
   simp only[aa.set,if_true,Option.some.injEq]at e;subst e;rw[j.JJ]at f;cases f
 . simp only[aa.set,d,if_false]at e
   obtain⟨g,i⟩:=h.2 c y e f;exact⟨by simp[ai.set,d,g],i⟩⟩
theorem Rel.drop{k:ah}{O:ai}{σ:aa}(h:Rel k O σ)(b:Nat)(x:Own):Rel k (O.set b x) (σ.del b):=⟨λc y e d=>by
 unfold aa.del at e;split at e
 . cases e
 . next a=>obtain⟨z,f,g⟩:=h.1 c y e d;exact⟨z,by simp[ai.set,a,f],g⟩,λc y e d=>by
 unfold aa.del at e;split at e
 . cases e
 . next a=>obtain⟨f,g⟩:=h.2 c y e d;exact⟨by simp[ai.set,a,f],g⟩⟩
theorem Rel.isNone{k:ah}{O:ai}{σ:aa}(h:Rel k O σ){b:Nat}(hb:O b=none)(g:k.sh b=none):σ b=none:=by
 cases e:σ b with
 |none=>rfl
 | some a=>
   cases c:a.gone with
   |true=>obtain⟨_,⟨s,d⟩,_⟩:=h.2 b a e c;rw[g]at d;cases d
   |false=>obtain⟨x,f,_⟩:=h.1 b a e c;rw[hb]at f;cases f
theorem fH.upd{k:ah}{tmps:Array Value}{env:Env}(h:fH k tmps env){t:Nat}{v:Value}{a:AV}(c:V k v a):fH k (tmps.setIfInBounds t v) (env.upd t a):=λu d=>by
 have b:u<tmps.size:=by simpa using d
 by_cases e:u=t
 . subst e
   have:(tmps.setIfInBounds u v).getD u undef=v:=by simp[Array.getD,b]
   rw[this];simpa[Env.upd]using c
 . have:(tmps.setIfInBounds t v).getD u undef=tmps.getD u undef:=by
    simp only[Array.getD_eq_getD_getElem?];rw[Array.getElem?_setIfInBounds_ne (Ne.symm e)]
   rw[this];simpa[Env.upd,e]using h u b
def ar(env:Env):Operand->AV
 |.tmp t=>env t
 |.const v=>.lit v
 |.global g=>.ref g 0
 |.func f=>.fn (.func f) [] []
def Operand.ok(n:Nat):Operand->Bool
 |.tmp t=>t<n
 |_=>true
theorem V.eval{k:ah}{fr:Frame}{env:Env}(h:fH k fr.tmps env){n:Nat}(b:fr.tmps.size=n)(o:Operand)(c:Operand.ok n o=true):V k (fr.eval o) (ar env o):=by
 cases o with
 |tmp t=>exact h t (by simpa[Operand.ok,b]using c)
 |const v=>exact .lit v
 |global g=>exact .ref g 0
 |func f=>exact .fn _ _ _ _ _ rfl (λi v a h=>by simp at h) rfl (λi v a h=>by simp at h)
inductive lQ where
 |mark (r:Nat)
 |call (f:Fn) (captured args:List AV)
def vW(k:ah)(d:Deferred):lQ->Prop
 |.mark r=>d={target:=.collected r,args:=#[]}
 |.call f cap args=>∃a b,d={target:=.fn f a,args:=b}/\Vs k a.toList cap/\Vs k b.toList args
def zh(k:ah):List Deferred->List lQ->Prop
 |[],[]=>True
 |d::ds,a::D=>vW k d a/\zh k ds D
 |_,_=>False
theorem vW.mono{k k':ah}(b:k.Le k'){d:Deferred}{a:lQ}(h:vW k d a):vW k' d a:=by
 cases a with
 |mark r=>exact h
 |call f cap args=>obtain⟨c,e,g,i,j⟩:=h;exact⟨c,e,g,i.mono b,j.mono b⟩
theorem zh.mono{k k':ah}(a:k.Le k'):∀{ds:List Deferred}{D:List lQ},zh k ds D->zh k' ds D
 |[],[],h=>h
 |_::_,_::_,h=>⟨h.1.mono a,h.2.mono a⟩
 |[],_::_,h=>h.elim
 |_::_,[],h=>h.elim
inductive Rec where
 |no
 |can (v:AV)
 |did
 |told (kind:CallKind) (cs:List Frame) (k0:ah)
structure St where
 env:Env
 σ:aa
 D:List lQ
 rc:Rec
def gf:Rec->List Frame->List Frame
 |.did,c::rest=>(match c.mode with|.panicking (e::a)=>{c with mode:=.panicking ({e with recovered:=true}::a)}|_=>c)::rest
 |_,cs=>cs
def AJ(k:ah)(kind:CallKind)(cs:List Frame):Rec->Prop
 |.can v=>kind=.deferred/\∃c rest b,cs=c::rest/\c.mode=.panicking [⟨b,false,false⟩]/\V k b v
 |.told kd a d=>kind=kd/\cs=a/\d.Le k
 |_=>True
theorem AJ.mono{k k':ah}(a:k.Le k'){kind:CallKind}{cs:List Frame}{r:Rec}(h:AJ k kind cs r):AJ k' kind cs r:=by
 cases r with
 |can v=>obtain⟨b,c,rest,d,e,f,g⟩:=h;exact⟨b,c,rest,d,e,f,g.mono a⟩
 |told kd i j=>exact⟨h.1,h.2.1,h.2.2.trans a⟩
 |_=>exact h
inductive Exit where
 |leave (jump:Option Code)
 |panic (v:AV)
def Leaves(todo:List Item)(a:Option Code):Prop:=(todo=[]/\a=none)\/(∃k,todo=.code .ret::k/\a=some .ret)\/(∃id k,todo=.code (.exit id)::k/\exitTo id k=none/\a=some (.exit id))
structure B4(n:Nat)(k:ah)(O:ai)(tmps:Array Value)(defs:List Deferred)(kind:CallKind)(cs:List Frame)(s:St):Prop where
 size:tmps.size=n
 env:fH k tmps s.env
 rel:Rel k O s.σ
 ds:zh k defs s.D
 rc:AJ k kind cs s.rc
structure AL(P:Program)(m:Mo)(Q:ah->ai->Goroutine->Prop)(fid n:Nat)(ro:Option Nat)(kind:CallKind)(cs:List Frame)(K:Exit->St->Prop)(k:ah):Prop where
 leave:∀k' O' tmps defs s todo jump,k.Le k'->B4 n k' O' tmps defs kind cs s->Leaves todo jump->K (.leave jump) s->T P m Q k' O' (G ⟨fid,tmps,todo,defs,.run,kind,ro⟩ (gf s.rc cs))
 panic:∀k' O' tmps defs s todo cv av,k.Le k'->B4 n k' O' tmps defs kind cs s->V k' cv av->K (.panic av) s->T P m Q k' O' (G ⟨fid,tmps,todo,defs,.panicking [⟨cv,false,false⟩],kind,ro⟩ (gf s.rc cs))
theorem AL.mono{P:Program}{m:Mo}{Q:ah->ai->Goroutine->Prop}{fid n:Nat}{ro:Option Nat}{kind:CallKind}{cs:List Frame}{K:Exit->St->Prop}{k k':ah}(b:k.Le k')
 (h:AL P m Q fid n ro kind cs K k):AL P m Q fid n ro kind cs K k':=
 ⟨λ_ _ _ _ _ _ _ a=>h.leave _ _ _ _ _ _ _ (b.trans a),λ_ _ _ _ _ _ _ _ a=>h.panic _ _ _ _ _ _ _ _ (b.trans a)⟩
def Go(P:Program)(m:Mo)(fid n:Nat)(ro:Option Nat)(todo:List Item)(s:St)(K:Exit->St->Prop):Prop:=∀Q k O tmps defs kind cs,kind≠.early->B4 n k O tmps defs kind cs s->AL P m Q fid n ro kind cs K k->T P m Q k O (G ⟨fid,tmps,todo,defs,.run,kind,ro⟩ (gf s.rc cs))
inductive dV where
 |val (v:AV)
 |panic (v:AV)
def lE(c:Frame):Frame:=
 match c.mode with
 | .panicking ({recovered:=true,..}::a)=>
   match a.dropWhile (!·.goexit)with
   |[]=>{c with mode:=.returning}
   |rest=>{c with mode:=.panicking rest}
 |_=>c
def kR(kind:CallKind)(c:Frame)(rest:List Frame)(v:Value):Goroutine:=
 match kind with
 |.normal|.wrapped=>G (c.finish v) rest
 |_=>G (lE c) rest
def aB(P:Program)(m:Mo)(f:FuncId)(args:List AV)(σ:aa)(i:dV->aa->Prop):Prop:=
 ∀ Q k O a c rest kind,kind≠.early->Vs k a args->Rel k O σ ->
   (∀d e g h b,k.Le d->V d g h->Rel d e b->i (.val h) b->T P m Q d e (kR kind c rest g)) ->
   (∀d e g h b,k.Le d->V d g h->Rel d e b->i (.panic h) b->T P m Q d e (G (c.raise [⟨g,false,false⟩]) rest)) ->
   T P m Q k O (G (Frame.enter P f a.toArray kind) (c::rest))
def AM(P:Program)(m:Mo)(Q:ah->ai->Goroutine->Prop)(k:ah)(O:ai)(fr:Frame)(cs:List Frame)(s:Sem Next):Prop:=∀w,Sat k O w->∃g' a es b c,stepG.apply P true fr cs none s w=.go g' a es/\Eff k O w b c a es.toList/\Sat b c a/\T P m Q b c g'
def cN(P:Program)(m:Mo)(i:AV)(args:List AV)(σ:aa)(h:dV->aa->Prop):Prop:=
 ∀ Q k O cf a fr cs,V k cf i->Vs k a args->Rel k O σ->fr.mode=.run->fr.kind≠.early->(∀d w r s l,fr.todo≠.call d w r s::l) ->
   (∀c e f g b,k.Le c->V c f g->Rel c e b->h (.val g) b->T P m Q c e (G (fr.finish f) cs)) ->
   (∀c e f g b,k.Le c->V c f g->Rel c e b->h (.panic g) b->T P m Q c e (G (fr.raise [⟨f,false,false⟩]) cs)) ->
   AM P m Q k O fr cs (do let d <-Deferred.ofValue cf a.toArray;invoke d.target d.args)
section
variable{P:Program}{m:Mo}{Q:ah->ai->Goroutine->Prop}{k:ah}{O:ai}{g g':Goroutine}
theorem T.dW(a:g.status=.running)(b:∀w,stepG P m.main g w=.go g' w #[])(h:T P m Q k O g'):T P m Q k O g:=
 .step (λc d x=>c=k/\d=O/\x=g') a (λ_ _ _ ⟨e,f,i⟩=>by subst e;subst f;subst i;exact h)
  λw j=>⟨g',w,#[],k,O,b w,.refl ..,j,rfl,rfl,rfl⟩
theorem T.nZ{fr:Frame}{cs:List Frame}{s:Sem Next}(c:∀w,stepG P m.main (G fr cs) w=stepG.apply P true fr cs none s w)(h:AM P m Q k O fr cs s):T P m Q k O (G fr cs):=
 .step (λa b x=>T P m Q a b x) rfl (λ_ _ _ h=>h) λw d=>by obtain⟨g',e,es,a,b,f,g,i,j⟩:=h w d;exact⟨g',e,es,a,b,(c w).trans f,g,i,j⟩
end
section
variable{P:Program}{m:Mo}{fid n:Nat}{ro:Option Nat}{s:St}{K:Exit->St->Prop}{k:List Item}
theorem Go.dW{todo a:List Item}(b:∀tmps defs kind cs w,stepG P m.main (G ⟨fid,tmps,todo,defs,.run,kind,ro⟩ cs) w=.go (G ⟨fid,tmps,a,defs,.run,kind,ro⟩ cs) w #[])
 (h:Go P m fid n ro a s K):Go P m fid n ro todo s K:=λQ k O tmps defs kind cs c d e=>T.dW rfl (λw=>b ..) (h Q k O tmps defs kind cs c d e)
theorem Go.skip(h:Go P m fid n ro k s K):Go P m fid n ro (.code .skip::k) s K:=.dW (λ_ _ _ _ _=>by simp[G,stepG,stepG.exec]) h
theorem Go.label{l:Nat}(h:Go P m fid n ro k s K):Go P m fid n ro (.code (.label l)::k) s K:=.dW (λ_ _ _ _ _=>by simp[G,stepG,stepG.exec]) h
theorem Go.inBlock{id:Nat}(h:Go P m fid n ro k s K):Go P m fid n ro (.inBlock id::k) s K:=.dW (λ_ _ _ _ _=>by simp[G,stepG,stepG.exec]) h
theorem Go.inScope{c:Code}(h:Go P m fid n ro k s K):Go P m fid n ro (.inScope c::k) s K:=.dW (λ_ _ _ _ _=>by simp[G,stepG,stepG.exec]) h
theorem Go.seq{a b:Code}(h:Go P m fid n ro (.code a::.code b::k) s K):Go P m fid n ro (.code (.seq a b)::k) s K:=.dW (λ_ _ _ _ _=>by simp[G,stepG,stepG.exec]) h
theorem Go.block{id:Nat}{c:Code}(h:Go P m fid n ro (.code c::.inBlock id::k) s K):Go P m fid n ro (.code (.block id c)::k) s K:=.dW (λ_ _ _ _ _=>by simp[G,stepG,stepG.exec]) h
theorem Go.scope{c:Code}(h:Go P m fid n ro (.code c::.inScope c::k) s K):Go P m fid n ro (.code (.scope c)::k) s K:=.dW (λ_ _ _ _ _=>by simp[G,stepG,stepG.exec]) h
theorem Go.inLoop{c:Code}(h:Go P m fid n ro (.code c::.inLoop c::k) s K):Go P m fid n ro (.inLoop c::k) s K:=.dW (λ_ _ _ _ _=>by simp[G,stepG,stepG.exec]) h
theorem Go.Pd{c:Code}(h:Go P m fid n ro (.code c::.inLoop c::k) s K):Go P m fid n ro (.code (.loop c)::k) s K:=.dW (λ_ _ _ _ _=>by simp[G,stepG,stepG.exec]) h
theorem Go.exit{id:Nat}{k':List Item}(a:exitTo id k=some k')(h:Go P m fid n ro k' s K):Go P m fid n ro (.code (.exit id)::k) s K:=.dW (λ_ _ _ _ _=>by simp[G,stepG,stepG.exec,a]) h
theorem Go.region{id:Nat}{ops:Array Oper}(h:Go P m fid n ro (.inRegion ops (List.range ops.size)::k) s K):Go P m fid n ro (.code (.region id ops false)::k) s K:=.dW (λ_ _ _ _ _=>by simp[G,stepG,stepG.exec]) h
theorem Go.zi{ops:Array Oper}(h:Go P m fid n ro k s K):Go P m fid n ro (.inRegion ops []::k) s K:=.dW (λ_ _ _ _ _=>by simp[G,stepG,stepG.exec]) h
theorem Go.cond{c:Operand}{a b:Code}{x:Bool}(f:ar s.env c=.lit (.bool x))(g:Operand.ok n c=true)(h:Go P m fid n ro (.code (if x then a else b)::k) s K):Go P m fid n ro (.code (.cond c a b)::k) s K:=
 λQ k O tmps defs kind cs i d j=>by
  have e:=V.eval (fr:=⟨fid,tmps,.code (.cond c a b)::‹_›,defs,.run,kind,ro⟩) d.env d.size c g;rw[f]at e;generalize l:Frame.eval _ c=v at e;cases e;refine T.dW rfl (λw=>?_) (h Q k O tmps defs kind cs i d j);simp[G,stepG,stepG.exec,l]
theorem Go.leave{todo:List Item}{a:Option Code}(b:Leaves todo a)(h:K (.leave a) s):Go P m fid n ro todo s K:=λ_ _ _ _ _ _ _ _ c d=>d.leave _ _ _ _ _ _ _ (.refl _) c b h
theorem Go.weaken{todo:List Item}{σ:aa}(h:Go P m fid n ro todo {s with σ} K)(b:σ.Le s.σ):Go P m fid n ro todo s K:=λQ k O tmps defs kind cs c a d=>h Q k O tmps defs kind cs c ⟨a.size,a.env,a.rel.le b,a.ds,a.rc⟩ d
theorem Go.loop{c:Code}(I:Nat->St->Prop)(a:Nat)(f:I a s)
 (g:∀e a s,I a s->(∀a' s',a'<a->I a' s'->Go P m fid n ro (.inLoop e::k) s' K)->Go P m fid n ro (.code c::.inLoop e::k) s K):Go P m fid n ro (.code (.loop c)::k) s K:=by
 have key:∀b a s,a<b->I a s->Go P m fid n ro (.code c::.inLoop c::k) s K:=by
  intro b;induction b with
  |zero=>intro a s h;omega
  |succ b i=>exact λa s j l=>g c a s l λa' s' o d=>.inLoop (i a' s' (by omega) d)
 exact .Pd (key (a+1) a s (by omega) f)
end
inductive AK where
 |bool|int (k:IntKind)|string|pointer (e:Nat)|slice (e:Nat)|array (n e:Nat)|map (k e:Nat)|chan (e:Nat)|struct|func|iface|other
 deriving DecidableEq
structure TI where
 kind:AK
 size:Nat
 bytes:Nat
 zero:Value
 jd:List (Nat × Nat × Nat)
def TI.agg(i:TI):Bool:=match i.kind with|.struct=>true|.array _ _=>true|_=>false
def dJ(P:Program)(i:TI):TypeDesc->Bool
 |.bool=>i.kind==.bool
 |.int k=>i.kind==.int k
 |.string=>i.kind==.string
 |.pointer e=>i.kind==.pointer e
 |.slice e=>i.kind==.slice e
 |.array n e=>i.kind==.array n e
 |.map k e=>i.kind==.map k e
 |.chan _ e=>i.kind==.chan e
 |.struct fs=>i.kind==.struct && (fs.toList.map λf=>(f.offset,(P.info? f.type).map (·.size),f.type))==(i.jd.map λx=>(x.1,some x.2.1,x.2.2))
 |.func _ _ _=>i.kind==.func
 |.interface _=>i.kind==.iface
 |_=>i.kind==.other
def Nt:Value->Value->Bool
 |.bool a,.bool b=>a==b
 |.int k a,.int l b=>k==l && a==b
 |.string a,.string b=>a.data.toList==b.data.toList
 |.pointer none,.pointer none=>true
 |.slice none a b,.slice none c d=>a==c && b==d
 |.map none,.map none=>true
 |.chan none,.chan none=>true
 |.nilFunc,.nilFunc=>true
 |.nilIface,.nilIface=>true
 |_,_=>false
def Eo:List Value->List Value->Bool
 |[],[]=>true
 |a::l,b::r=>Nt a b && Eo l r
 |_,_=>false
def Uv:Value->Value->Bool
 |.agg a,.agg b=>Eo a.toList b.toList
 |.tuple a,.tuple b=>Eo a.toList b.toList
 |a,b=>Nt a b
theorem Gd{a b:Value}(h:Nt a b=true):a=b:=by
 unfold Nt at h;split at h<;>simp_all;rename_i a b;obtain⟨⟨a⟩⟩:=a;obtain⟨⟨b⟩⟩:=b
 simp_all
theorem AN:∀{a b:List Value},Eo a b=true->a=b
 |[],[],_=>rfl
 |a::l,b::r,h=>by simp only[Eo,Bool.and_eq_true]at h;rw[Gd h.1,AN h.2]
 |[],_::_,h=>by simp[Eo]at h
 |_::_,[],h=>by simp[Eo]at h
theorem PU{a b:Value}(h:Uv a b=true):a=b:=by
 unfold Uv at h;split at h
 . have:=AN h;congr 1;exact Array.ext' this
 . have:=AN h;congr 1;exact Array.ext' this
 . exact Gd h
def TI.check(P:Program)(t:Nat)(i:TI):Bool:=
 match P.underlying t,P.info? t with
 |some d,some info=>dJ P i d && info.size==i.size && info.bytes==i.bytes && (match info.zero with|some z=>Uv z i.zero|none=>false) && i.zero.cells.size==i.size
 |_,_=>false
structure iG(P:Program) where
 tt:Nat->Option TI
 ok:∀t i,tt t=some i->i.check P t=true
 mixed:P.follows .mixedOrders=true
theorem iG.facts{P:Program}(L:iG P){t:Nat}{i:TI}(h:L.tt t=some i):(∃d,P.underlying t=some d/\dJ P i d=true)/\∃info,P.info? t=some info/\info.size=i.size/\info.bytes=i.bytes/\info.zero=some i.zero/\i.zero.cells.size=i.size:=by
 have:=L.ok t i h;unfold TI.check at this;split at this
 . next d info g j=>
   simp only[Bool.and_eq_true,beq_iff_eq]at this;obtain⟨⟨⟨⟨a,b⟩,c⟩,e⟩,f⟩:=this;refine⟨⟨d,g,a⟩,info,j,b,c,?_,f⟩;split at e
   . next z k=>rw[k,PU e]
   . cases e
 . cases this
section
variable{P:Program}(L:iG P){k:ah}{O:ai}{Kp:Value->ah->ai->Prop}{t:Nat}{i:TI}
theorem aj{α:Type}{a:α}{K:α->ah->ai->Prop}(h:K a k O):eh P (pure a:Sem α) k O K Kp:=h
theorem af{α β:Type}{s:Sem α}{f:α->Sem β}{K:β->ah->ai->Prop}(h:eh P s k O (λa k O=>eh P (f a) k O K Kp) Kp):eh P (s >>=f) k O K Kp:=JI s h
theorem bN{K:Program->ah->ai->Prop}(h:K P k O):eh P program k O K Kp:=h
theorem aD{K:TypeDesc->ah->ai->Prop}(b:L.tt t=some i)(h:∀d,P.underlying t=some d->dJ P i d=true->K d k O):eh P (underlying t) k O K Kp:=by obtain⟨⟨d,a,c⟩,_⟩:=L.facts b;unfold underlying;refine af (bN ?_);rw[a];exact h d a c
theorem cV{K:TypeInfo->ah->ai->Prop}(b:L.tt t=some i)(h:∀info,P.info? t=some info->info.size=i.size->info.bytes=i.bytes->info.zero=some i.zero->K info k O):eh P (typeInfo t) k O K Kp:=by obtain⟨_,info,a,c,d,e,_⟩:=L.facts b;unfold typeInfo;refine af (bN ?_);rw[a];exact h info a c d e
theorem bQ{K:Nat->ah->ai->Prop}(a:L.tt t=some i)(h:K i.size k O):eh P (sizeOf t) k O K Kp:=by
 unfold sizeOf;refine af (cV L a λinfo _ b _ _=>?_);refine aj ?_;rw[b];exact h
theorem cU{K:Value->ah->ai->Prop}(a:L.tt t=some i)(h:K i.zero k O):eh P (zeroValue t) k O K Kp:=by
 unfold zeroValue;refine af (cV L a λinfo _ _ _ b=>?_);rw[b];exact h
theorem qd{K:Bool->ah->ai->Prop}(a:L.tt t=some i)(h:K i.agg k O):eh P (isAgg t) k O K Kp:=by
 unfold isAgg;refine af (aD L a λd _ hd=>?_);unfold TI.agg at h;cases d<;>simp only[dJ,Bool.and_eq_true,beq_iff_eq]at hd<;>first|(rw[hd]at h;exact h)|(rw[hd.1]at h;exact h)
theorem iq{α:Type}{K z:α->ah->ai->Prop}{Kp l:Value->ah->ai->Prop}(s:Sem α):∀{k:ah}{O:ai},eh P s k O K Kp->(∀a k O,K a k O->z a k O)->(∀a k O,Kp a k O->l a k O)->eh P s k O z l:=by
 induction s with
 |pure a=>intro k O h b d;exact b _ _ _ h
 |load m a g f=>intro k O h b d;obtain⟨i,v,j,p⟩:=h;exact⟨i,v,j,f v p b d⟩
 | store m a v g f=>
   intro k O h b d;obtain⟨i,j,p,A⟩:=h;refine⟨i,j,p,?_⟩;rcases A with⟨c,e,u,w,y⟩|⟨e,N,u,w,y,B⟩
   . exact .inl ⟨c,e,u,w,f y b d⟩
   . exact .inr ⟨e,N,u,w,y,λC=>f (B C) b d⟩
 |new o g f=>intro k O h b d;exact⟨h.1,λr D=>f r (h.2 r D) b d⟩
 |shape r g f=>intro k O h b d;obtain⟨s,i,j⟩:=h;exact⟨s,i,f s j b d⟩
 |freeze a n g f=>intro k O h b d;exact h.elim
 |frozen a g f=>intro k O h b d;exact⟨h.1,f false h.2 b d⟩
 |getObj r g f=>intro k O h b d;obtain⟨o,i,j,p⟩:=h;exact⟨o,i,j,f o p b d⟩
 |setObj r o g f=>intro k O h b d;exact⟨h.1,h.2.1,f h.2.2 b d⟩
 |choose q g f=>intro k O h b d t;exact f _ (h t) b d
 |sys c g f=>intro k O h b d;exact h.elim
 |program g f=>intro k O h b d;exact f P h b d
 |mark m g f=>intro k O h b d;exact⟨h.1,f h.2 b d⟩
 | halt x=>intro k O h b d;cases x with
   |panic v=>exact d _ _ _ h
   |_=>exact h
end
def lR(k:ah)(O:ai)(R:ah->ai->Prop):Prop:=∃a b,lP k O a b/\R a b
theorem lP.refl(k:ah)(O:ai):lP k O k O:=λw h=>⟨h,.refl k O w⟩
theorem lP.trans{k e f:ah}{O g i:ai}(h:lP k O e g)(j:lP e g f i):lP k O f i:=λw l=>let ⟨a,b⟩:=h w l;let ⟨c,d⟩:=j w a;⟨c,by simpa using b.trans d⟩
theorem lR.here{k:ah}{O:ai}{R:ah->ai->Prop}(h:R k O):lR k O R:=⟨k,O,.refl k O,h⟩
def aK(P:Program)(o:Oper)(env:Env)(σ:aa)(K:AV->aa->Prop)(Kp:AV->aa->Prop):Prop:=
 ∀ k O (f:Operand->Value),(∀x∈o.op.operands,V k (f x) (ar env x))->Rel k O σ ->
   eh P (execOp f o) k O (λnx c d=>∃v,(nx=.value v\/(nx=.skip/\v=undef))/\lR c d λe g=>k.Le e/\∃a b,V e v a/\Rel e g b/\K a b)
    (λv c d=>k.Le c/\∃a b,V c v a/\Rel c d b/\Kp a b)
def Oper.ok(n:Nat)(o:Oper):Bool:=o.op.operands.all (Operand.ok n) && (match o.dst with|some d=>decide (d<n)|none=>true)
def bo(env:Env)(dst:Option Tmp)(v:AV):Env:=match dst with|some d=>env.upd d v|none=>env
theorem vX{P:Program}{fn:FuncId}{es:Array Event}{e:Event}(h:e∈seen P fn es):e∈es:=by
 unfold seen at h
 have key:∀(l:List Event) (q:Bool) (acc:Array Event),e∈(l.foldl (init:=(q,acc)) λ(q,kept) e=>
  match e.loc with
  |.mark (.extern f)=>((P.funcs[f]?).any (·.norace),kept)
  |_=>(q,if q && !e.sync then kept else kept.push e)).2->e∈acc\/e∈l:=by
  intro l;induction l with
  |nil=>intro q acc h;exact .inl h
  | cons x l b=>
    intro q acc h;simp only[List.foldl_cons]at h;rcases b _ _ h with a|a
    . split at a
      . exact .inl a
      . simp only at a
        split at a
        . exact .inl a
        . rcases Array.mem_push.1 a with a|a
          . exact .inl a
          . exact .inr (by simp[a])
    . exact .inr (by simp[a])
 dsimp only at h;rw[<-Array.foldl_toList]at h;rcases key es.toList _ #[] h with h|h
 . simp at h
 . simpa using h
theorem Eff.sub{k:ah}{O:ai}{w:World}{k':ah}{O':ai}{w':World}{l b:List Event}(h:Eff k O w k' O' w' l)(c:∀e∈b,e∈l):Eff k O w k' O' w' b:=⟨h.le,h.size,h.keep,h.tail,h.part,h.shape,h.own,h.cell,h.sh,λe a=>h.evs e (c e a),h.tape,h.output,h.os,λe a=>h.low e (c e a),h.tok⟩
theorem dQ{P:Program}{m:Mo}{Q:ah->ai->Goroutine->Prop}{k:ah}{O:ai}{fr:Frame}{cs:List Frame}{s:Sem Next}
 (h:eh P s k O
   (fun nx k' O'=>k.Le k'->match nx with
     |.value v=>T P m Q k' O' (G (fr.finish v) cs)
     |.skip=>T P m Q k' O' (G (fr.finish undef) cs)
     |.enter f args=>(∀d w r s l,fr.todo≠.call d w r s::l)/\T P m Q k' O' (G (Frame.enter P f args .normal) (fr::cs))
     |.round l f tmps assign body=>T P m Q k' O' (G (Frame.round l f tmps assign body .normal) (fr::cs))
     |.defer d=>T P m Q k' O' (G ({fr with defers:=d::fr.defers}.finish undef) cs)
     |_=>False)
   (λv k' O'=>k.Le k'->T P m Q k' O' (G (fr.raise [⟨v,false,false⟩]) cs))):AM P m Q k O fr cs s:=by
 intro w t;obtain⟨k',O',c,l,i,n,u,x⟩:=tz s #[] h t
 have a:∀(es:Array Event),(∀e∈es,e∈(s.runT P w #[]).2)->∀e∈es.toList,e∈l:=λes p e q=>by
  have:=p e (by simpa using q);rw[<-Array.mem_toList_iff,u]at this;simpa using this
 have o:∀(b:Bool) (es:Array Event),∀e∈seen P fr.fn (if b then #[]else es),e∈es:=λb es e q=>by
  have:=vX q;cases b
  . simpa using this
  . simp at this
 rcases x with⟨nx,j,g⟩|⟨v,j,g⟩
 . have g:=g i.le
   cases nx with
   |value v=>exact⟨_,c,_,k',O',by simp only[stepG.apply,if_true];rw[show(s.runT P w #[]).1=.ok (.value v) c from j];rfl,i.sub (a _ (by simpa using o (fr.kind==.early) (s.runT P w #[]).2)),n,g⟩
   |skip=>exact⟨_,c,_,k',O',by simp only[stepG.apply,if_true];rw[show(s.runT P w #[]).1=.ok .skip c from j];rfl,i.sub (a _ (by simpa using o (fr.kind==.early) (s.runT P w #[]).2)),n,g⟩
   | enter f args=>
     refine⟨_,c,seen P fr.fn (if fr.kind==.early then #[]else(s.runT P w #[]).2),k',O',?_,i.sub (a _ (by simpa using o (fr.kind==.early) (s.runT P w #[]).2)),n,g.2⟩;obtain⟨fn,tmps,todo,defs,mode,kind,ro⟩:=fr;simp only[stepG.apply,if_true];rw[show(s.runT P w #[]).1=.ok (.enter f args) c from j];cases todo with
     |nil=>rfl
     | cons it l=>cases it with
       |call d w r s=>exact absurd rfl (g.1 d w r s l)
       |_=>rfl
   |round l f tmps assign body=>exact⟨_,c,_,k',O',by simp only[stepG.apply,if_true];rw[show(s.runT P w #[]).1=.ok (.round l f tmps assign body) c from j];rfl,i.sub (a _ (by simpa using o (fr.kind==.early) (s.runT P w #[]).2)),n,g⟩
   |defer d=>exact⟨_,c,_,k',O',by simp only[stepG.apply,if_true];rw[show(s.runT P w #[]).1=.ok (.defer d) c from j];rfl,i.sub (a _ (by simpa using o (fr.kind==.early) (s.runT P w #[]).2)),n,g⟩
   |_=>exact g.elim
 . exact⟨_,c,_,k',O',by simp only[stepG.apply,if_true];rw[show(s.runT P w #[]).1=.halt (.panic v) c from j];rfl,i.sub (a _ (by simpa using o (fr.kind==.early) (s.runT P w #[]).2)),n,g i.le⟩
theorem B4.put{n:Nat}{k k':ah}{O O':ai}{fid:FuncId}{tmps:Array Value}{defs:List Deferred}{kind:CallKind}{ro:Option Nat}{cs:List Frame}{s:St}{σ':aa}{ops:Array Oper}{i:Nat}{rest:List Nat}{o:Oper}{kk:List Item}{v:Value}{a:AV}
 (h:B4 n k O tmps defs kind cs s) (c:k.Le k') (e:ops[i]?=some o) (g:V k' v a) (f:Rel k' O' σ'):
 ∃ b,Frame.finish ⟨fid,tmps,.inRegion ops (i::rest)::kk,defs,.run,kind,ro⟩ v=⟨fid,b,.inRegion ops rest::kk,defs,.run,kind,ro⟩/\
   B4 n k' O' b defs kind cs {s with env:=bo s.env o.dst a,σ:=σ'}:=by
 cases hd:o.dst with
 |none=>refine⟨tmps,?_,⟨h.size,h.env.mono c,f,h.ds.mono c,h.rc.mono c⟩⟩;simp[Frame.finish,e,hd]
 | some d=>
   refine⟨tmps.setIfInBounds d v,?_,⟨by simp[h.size],(h.env.mono c).upd g,f,h.ds.mono c,h.rc.mono c⟩⟩;simp[Frame.finish,e,hd]
section
variable{P:Program}{m:Mo}{fid n:Nat}{ro:Option Nat}{s:St}{K:Exit->St->Prop}{k:List Item}
def RJ:Value->Bool->Prop
 |.bool x,b=>x≠b
 |.tuple _,_=>True
 |_,_=>False
theorem Go.unwanted{ops:Array Oper}{i:Nat}{rest:List Nat}{o:Oper}{j:Nat}{b:Bool}{x:Value}{d:Tmp}{q:Oper}(r:ops[i]?=some o)(y:o.guard=some (j,b))(t:ops[j]?=some q)(hd:q.dst=some d)(e:d<n)
 (z:s.env d=.lit x) (l:RJ x b) (h:Go P m fid n ro (.inRegion ops rest::k) {s with env:=bo s.env o.dst (.lit (.tuple #[]))} K):Go P m fid n ro (.inRegion ops (i::rest)::k) s K:=
 fun Q kk O tmps defs kind cs A f B=>by
  obtain⟨c,C,D⟩:=f.put (fid:=fid) (ro:=ro) (rest:=rest) (kk:=k) (v:=undef) (a:=.lit (.tuple #[])) (.refl _) r (.lit _) f.rel;refine T.dW rfl (λw=>?_) (h Q kk O c defs kind cs A D B)
  have p:=f.env d (by rw[f.size];exact e)
  rw[z]at p;generalize u:tmps.getD d undef=v at p;cases p
  have E:yielded ops tmps j≠some b:=by
   have:tmps[d]?=some x:=by
    have g:d<tmps.size:=by rw[f.size];exact e
    simp[Array.getD,g]at u;simp[g,u]
   unfold RJ at l;split at l
   . simpa[yielded,t,hd,this]using l
   . simp[yielded,t,hd,this]
   . exact l.elim
  have F:((ops[i]?).map (Region.wanted · (yielded ops tmps))).getD false=false:=by simp[r,Region.wanted,y,E]
  simp only[G,stepG,stepG.exec,F];simp only[C];rfl
def cu(ops:Array Oper)(n:Nat)(env:Env)(o:Oper):Prop:=
 match o.guard with
 |none=>True
 |some (j,b)=>∃a d,ops[j]?=some a/\a.dst=some d/\d<n/\env d=.lit (.bool b)
theorem gO{k:ah}{tmps:Array Value}{ops:Array Oper}{env:Env}{o:Oper}(e:tmps.size=n)(i:fH k tmps env)(h:cu ops n env o):Region.wanted o (yielded ops tmps)=true:=by
 unfold cu at h;unfold Region.wanted;cases l:o.guard with
 |none=>rfl
 | some p=>
   obtain⟨j,b⟩:=p;simp only[l]at h;obtain⟨s,d,m,q,f,r⟩:=h;have c:=i d (by rw[e];exact f)
   rw[r]at c;generalize g:tmps.getD d undef=v at c;cases c
   have:tmps[d]?=some (.bool b):=by
    have a:d<tmps.size:=by rw[e];exact f
    simp[Array.getD,a]at g;simp[a,g]
   simp[yielded,m,q,this]
theorem dS{ops:Array Oper}{i:Nat}{rest:List Nat}{o:Oper}{tmps:Array Value}{defs:List Deferred}{kind:CallKind}{cs:List Frame}(b:ops[i]?=some o)(d:Region.wanted o (yielded ops tmps)=true)
 (a:ro=none\/∀c,o.op≠.defer c) (w:World):
 stepG P m.main (G ⟨fid,tmps,.inRegion ops (i::rest)::k,defs,.run,kind,ro⟩ cs) w=
  stepG.apply P true ⟨fid,tmps,.inRegion ops (i::rest)::k,defs,.run,kind,ro⟩ cs none (execOp (Frame.eval ⟨fid,tmps,.inRegion ops (i::rest)::k,defs,.run,kind,ro⟩) o) w:=by
 simp only[G,stepG,stepG.exec,stepG.oper,Frame.oper?,b,d,Option.map_some,Option.getD_some,if_true];split
 . next c e => rcases a with h|h
               . cases h
               . exact absurd e (h _)
 . rfl
theorem Go.op{ops:Array Oper}{i:Nat}{rest:List Nat}{o:Oper}(B:ops[i]?=some o)(F:cu ops n s.env o)(g:Oper.ok n o=true)(t:∀c,o.op≠.defer c)
 (h:aK P o s.env s.σ (λa σ'=>Go P m fid n ro (.inRegion ops rest::k) {s with env:=bo s.env o.dst a,σ:=σ'} K) (λa σ'=>K (.panic a) {s with σ:=σ'})):
 Go P m fid n ro (.inRegion ops (i::rest)::k) s K:=λQ kk O tmps defs kind cs G d C=>by
 refine T.nZ (λw=>dS B (gO d.size d.env F) (.inr t) w) (dQ ?_)
 have j:∀x∈o.op.operands,V kk (Frame.eval ⟨fid,tmps,.inRegion ops (i::rest)::k,defs,.run,kind,ro⟩ x) (ar s.env x):=λx l=>by refine V.eval d.env d.size x ?_;simp only[Oper.ok,Bool.and_eq_true,Array.all_eq_true_iff_forall_mem]at g;exact g.1 x l
 refine iq _ (h kk O _ j d.rel) (λnx q r l u=>?_) (λv q r l u=>?_)
 . obtain⟨v,H,I,J,p,e,a,σ',y,z,A⟩:=l
   obtain⟨f,D,L⟩:=d.put (fid:=fid) (ro:=ro) (rest:=rest) (kk:=k) e B y z;have E:=A Q I J f defs kind cs G L (C.mono e)
   rcases H with rfl|⟨rfl,rfl⟩
   . show T P m Q q r _
     rw[D];exact .ghost p E
   . show T P m Q q r _
     rw[D];exact .ghost p E
 . obtain⟨b,a,σ',y,z,A⟩:=l
   exact C.panic q r tmps defs {s with σ:=σ'} _ v a b ⟨d.size,d.env.mono b,z,d.ds.mono b,d.rc.mono b⟩ y A
end
end Go.bd
