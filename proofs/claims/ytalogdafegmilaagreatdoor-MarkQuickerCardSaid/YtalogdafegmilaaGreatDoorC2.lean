/- Part 2 of the proof. -/
import Derived.Conc.Beside
import Derived.Test.YtalogdafegmilaaGreatDoorC1
set_option linter.all false
namespace Go.aN
open Go.Conc
def ed(P:Program)(W0:World)(k:ag)(O:ah)(g:Goroutine)(gs:Array Goroutine)(w:World)(t:Trace):Prop:=
 ∃ (Shun:Loc->Prop) (q:Nat->Nat),gs[0]?=some g/\Leavers P t gs q/\Past Shun w.heap.size t/\
   (∀a,Shun (.cell a)->a.block<w.heap.size/\¬aP O a.block a.off/\k.cell a.block a.off=none)/\(∀r,Shun (.obj r)->r<w.heap.size/\∀o,O r≠some (.obj o))/\Sat k O w/\jx W0 w/\∀b x,O b=some x->W0.heap.size<=b
def x6(P:Program)(k:ag)(O:ah)(g:Goroutine)(N:ag->ah->Goroutine->Prop):Prop:=∀W0 gs w sl t,ed P W0 k O g gs w t->∃n gs' w' sl' t' k' O' g',runNT P n (crowd gs w sl) t=(.next (crowd gs' w' sl'),t')/\ed P W0 k' O' g' gs' w' t'/\N k' O' g'
def x7(P:Program)(main:Bool)(k:ag)(O:ah)(g:Goroutine)(N:ag->ah->Goroutine->Prop):Prop:=∀w,Sat k O w->∃g' w' es k' O',stepG P main g w=.go g' w' es/\Eff k O w k' O' w' es.toList/\Sat k' O' w'/\N k' O' g'
def kK(k:ag)(O:ah)(k2:ag)(O2:ah):Prop:=∀w,Sat k O w->Sat k2 O2 w/\Eff k O w k2 O2 w []
structure Mo where
 main:Bool
 solo:Bool
 dc:ag->ah->Goroutine->(ag->ah->Goroutine->Prop)->Prop
inductive T(P:Program)(m:Mo)(Q:ag->ah->Goroutine->Prop):ag->ah->Goroutine->Prop
 |stop {k:ag}{O:ah}{g:Goroutine}:Q k O g->T P m Q k O g
 |step {k:ag}{O:ah}{g:Goroutine}(N:ag->ah->Goroutine->Prop):g.status=.running->(∀k' O' g',N k' O' g'->T P m Q k' O' g')->x7 P m.main k O g N->T P m Q k O g
 |ghost {k k2:ag}{O O2:ah}{g:Goroutine}:kK k O k2 O2->T P m Q k2 O2 g->T P m Q k O g
 |phase {k:ag}{O:ah}{g:Goroutine}(N:ag->ah->Goroutine->Prop):m.solo=true->(∀k' O' g',N k' O' g'->T P m Q k' O' g')->x6 P k O g N->T P m Q k O g
 |dc {k:ag}{O:ah}{g:Goroutine}(N:ag->ah->Goroutine->Prop):g.status=.running->m.dc k O g N->(∀k' O' g',N k' O' g'->T P m Q k' O' g')->T P m Q k O g
inductive cM where
 |any
 |exact
 |tok (b e:Nat)
inductive AV where
 |lit (v:Value)
 |bL
 |agg (l:List AV)
 |c9 (l:List AV)
 |sl (k:Nat) (es:List AV) (sp:cM)
 |cp (v:AV) (off:Nat)
 |kp (b:Nat) (l:List AV) (hole:List Nat) (off:Nat)
 |ref (b off:Nat)
 |fZ (b off len cap:Nat)
 |fn (f:Fn) (first captured:List AV)
 |nI (t:TypeId) (v:AV)
 |map (b:Nat)
 |chan (b:Nat)
instance:Inhabited AV:=⟨.bL⟩
def AV.cells:AV->List AV
 |.agg l=>l
 |v=>[v]
def flatten(es:List AV):List AV:=es.flatMap AV.cells
def cM.fits(b off len kk cap:Nat):cM->Prop
 |.any=>True
 |.exact=>cap=len
 |.tok b' e=>b'=b/\e=off+len*kk
inductive V(k:ag):Value->AV->Prop
 |lit (v:Value):V k v (.lit v)
 |bL (v:Value):V k v .bL
 |agg (c:Array Value) (l:List AV):c.size=l.length->(∀(i:Nat) v a,c[i]?=some v->l[i]?=some a->V k v a)->V k (.agg c) (.agg l)
 |c9 (c:Array Value) (l:List AV):c.size=l.length->(∀(i:Nat) v a,c[i]?=some v->l[i]?=some a->V k v a)->V k (.tuple c) (.c9 l)
 | sl (b off cap kk N:Nat) (E:TypeId) (es:List AV) (sp:cM) (c:Nat->Value):es.length<=cap->k.sh b=some (E,N)->off+cap*kk<=N->(∀e∈es,e.cells.length=kk) ->
    (∀j,j<(flatten es).length->k.cell b (off+j)=some (c j)/\flat (c j)=true)->(∀(j:Nat) a,(flatten es)[j]?=some a->V k (c j) a)->sp.fits b off es.length kk cap ->
    V k (.slice (some ⟨b,off,none⟩) es.length cap) (.sl kk es sp)
 |slnil (kk:Nat):V k (.slice none 0 0) (.sl kk [] .any)
 | cp (b base off N:Nat) (E:TypeId) (v:AV) (c:Nat->Value):k.sh b=some (E,N)->base+v.cells.length<=N->(∀j,j<v.cells.length->k.cell b (base+j)=some (c j)/\flat (c j)=true)->(∀(j:Nat) a,v.cells[j]?=some a->V k (c j) a) ->
    V k (.pointer (some ⟨b,base+off,none⟩)) (.cp v off)
 | kp (b off N:Nat) (E:TypeId) (l:List AV) (hole:List Nat) (c:Nat->Value):k.sh b=some (E,N)->l.length<=N->(∀j,j<l.length->j∉hole->k.cell b j=some (c j)/\flat (c j)=true)->(∀(j:Nat) a,j∉hole->l[j]?=some a->V k (c j) a) ->
    V k (.pointer (some ⟨b,off,none⟩)) (.kp b l hole off)
 |ref (b off:Nat):V k (.pointer (some ⟨b,off,none⟩)) (.ref b off)
 |fZ (b off len cap:Nat):V k (.slice (some ⟨b,off,none⟩) len cap) (.fZ b off len cap)
 | fn (f:Fn) (c1 c2:Array Value) (l1 l2:List AV):c1.size=l1.length->(∀(i:Nat) v a,c1[i]?=some v->l1[i]?=some a->V k v a)->c2.size=l2.length->(∀(i:Nat) v a,c2[i]?=some v->l2[i]?=some a->V k v a) ->
    V k (.func f c1 c2) (.fn f l1 l2)
 |nI (t:TypeId) (v:Value) (a:AV):V k v a->V k (.iface t v) (.nI t a)
 |map (b:Nat):V k (.map (some b)) (.map b)
 |chan (b:Nat):V k (.chan (some b)) (.chan b)
theorem V.mono{k k':ag}(hk:k.Le k'){v:Value}{a:AV}(h:V k v a):V k' v a:=by
 induction h with
 |lit v=>exact .lit v
 |bL v=>exact .bL v
 |agg c l h1 _ ih=>exact .agg c l h1 ih
 |c9 c l h1 _ ih=>exact .c9 c l h1 ih
 |sl b off cap kk N E es sp c h1 h2 h3 h4 h5 _ h7 ih=>exact .sl b off cap kk N E es sp c h1 (hk.sh _ _ h2) h3 h4 (λj hj=>⟨hk.cell _ _ _ (h5 j hj).1,(h5 j hj).2⟩) ih h7
 |slnil kk=>exact .slnil kk
 |cp b base off N E v c hs hb h1 _ ih=>exact .cp b base off N E v c (hk.sh _ _ hs) hb (λj hj=>⟨hk.cell _ _ _ (h1 j hj).1,(h1 j hj).2⟩) ih
 |kp b off N E l hole c hs hb h1 _ ih=>exact .kp b off N E l hole c (hk.sh _ _ hs) hb (λj hj hn=>⟨hk.cell _ _ _ (h1 j hj hn).1,(h1 j hj hn).2⟩) ih
 |ref b off=>exact .ref b off
 |fZ b off len cap=>exact .fZ b off len cap
 |fn f c1 c2 l1 l2 h1 _ h3 _ ih1 ih2=>exact .fn f c1 c2 l1 l2 h1 ih1 h3 ih2
 |nI t v a _ ih=>exact .nI t v a ih
 |map b=>exact .map b
 |chan b=>exact .chan b
def Vs(k:ag)(c:List Value)(l:List AV):Prop:=c.length=l.length/\∀(i:Nat) v a,c[i]?=some v->l[i]?=some a->V k v a
theorem Vs.nil{k:ag}:Vs k [] []:=⟨rfl,λi v a h=>by simp at h⟩
theorem Vs.cons{k:ag}{v:Value}{a:AV}{c:List Value}{l:List AV}(h:V k v a)(hs:Vs k c l):Vs k (v::c) (a::l):=
 ⟨by simp[hs.1],λi v' a' h1 h2=>by
   cases i with
   |zero=>simp at h1 h2;subst h1;subst h2;exact h
   |succ i=>simp at h1 h2;exact hs.2 i v' a' h1 h2⟩
theorem Vs.mono{k k':ag}(hk:k.Le k'){c:List Value}{l:List AV}(h:Vs k c l):Vs k' c l:=⟨h.1,λi v a h1 h2=>(h.2 i v a h1 h2).mono hk⟩
theorem Vs.append{k:ag}{c c':List Value}{l l':List AV}(h:Vs k c l)(h':Vs k c' l'):Vs k (c++c') (l++l'):=
 ⟨by simp[h.1,h'.1],λi v a h1 h2=>by
   by_cases hi:i<c.length
   . rw[List.getElem?_append_left hi]at h1
     rw[List.getElem?_append_left (by rw[<-h.1];exact hi)]at h2;exact h.2 i v a h1 h2
   . rw[List.getElem?_append_right (by omega)]at h1
     rw[List.getElem?_append_right (by rw[<-h.1];omega),<-h.1]at h2;exact h'.2 _ v a h1 h2⟩
abbrev Env:=Nat->AV
def Env.upd(env:Env)(t:Nat)(v:AV):Env:=λu=>if u=t then v else env u
def fe(k:ag)(tmps:Array Value)(env:Env):Prop:=∀t,t<tmps.size->V k (tmps.getD t undef) (env t)
theorem fe.mono{k k':ag}{tmps:Array Value}{env:Env}(h:fe k tmps env)(hk:k.Le k'):fe k' tmps env:=λt ht=>(h t ht).mono hk
structure ln where
 state:LoopState
 pending:Option Code
 fn:FuncId
 n:Nat
 env:Env
 params:Array Tmp
 assign:Code
 body:Code
 defers:Nat
inductive jy where
 |cells (l:List AV)
 |tail (n:Nat)
 |part (f:Nat->Option Value)
 |map (m:List (AV × AV))
 |loop (l:ln)
 |raw (o:Obj)
 |gI
abbrev aa:=Nat->Option jy
def aa.set(σ:aa)(b:Nat)(x:jy):aa:=λc=>if c=b then some x else σ c
def aa.del(σ:aa)(b:Nat):aa:=λc=>if c=b then none else σ c
def aa.Le(σ σ':aa):Prop:=∀b x,σ b=some x->σ' b=some x
inductive lc(k:ag):Own->jy->Prop
 |cells (c:Array Value) (e:TypeId) (l:List AV):c.size=l.length->(∀(i:Nat) v a,c[i]?=some v->l[i]?=some a->V k v a)->(∀(i:Nat) v,c[i]?=some v->flat v=true)->lc k (.obj (.cells c e (0,0))) (.cells l)
 |tail (n:Nat):lc k (.tail n) (.tail n)
 |part (f:Nat->Option Value):lc k (.part f) (.part f)
 |map (es:Array MapEntry) (clock:Nat) (m:List (AV × AV)):es.size=m.length->(∀(i:Nat) e p,es[i]?=some e->m[i]?=some p->V k e.key p.1/\V k e.val p.2)->lc k (.obj (.map es clock)) (.map m)
 |loop (a:ln) (tmps:Array Value):tmps.size=a.n->fe k tmps a.env->lc k (.obj (.loop ⟨a.state,a.pending,a.fn,tmps,a.params,a.assign,a.body,a.defers⟩)) (.loop a)
 |raw (o:Obj):gY o=false->lc k (.obj o) (.raw o)
theorem lc.mono{k k':ag}(hk:k.Le k'){x:Own}{a:jy}(h:lc k x a):lc k' x a:=by
 cases h with
 |cells c e l h1 h2 h3=>exact .cells c e l h1 (λi v a hv ha=>(h2 i v a hv ha).mono hk) h3
 |tail n=>exact .tail n
 |part f=>exact .part f
 |map es clock m h1 h2=>exact .map es clock m h1 λi e p he hp=>⟨(h2 i e p he hp).1.mono hk,(h2 i e p he hp).2.mono hk⟩
 |loop a tmps h1 h2=>exact .loop a tmps h1 (h2.mono hk)
 |raw o h=>exact .raw o h
def Rel(k:ag)(O:ah)(σ:aa):Prop:=(∀b a,σ b=some a->a≠.gI->∃x,O b=some x/\lc k x a)/\∀b,σ b=some .gI->O b=none/\∃s,k.sh b=some s
theorem Rel.mono{k k':ag}{O:ah}{σ:aa}(h:Rel k O σ)(hk:k.Le k'):Rel k' O σ:=⟨λb a e n=>let ⟨x,h1,h2⟩:=h.1 b a e n;⟨x,h1,h2.mono hk⟩,λb e=>let ⟨h1,s,h2⟩:=h.2 b e;⟨h1,s,hk.sh _ _ h2⟩⟩
theorem Rel.le{k:ag}{O:ah}{σ σ':aa}(h:Rel k O σ)(hs:σ'.Le σ):Rel k O σ':=⟨λb a e=>h.1 b a (hs b a e),λb e=>h.2 b (hs b _ e)⟩
theorem lc.Gp{k:ag}{x:Own}{a:jy}(h:lc k x a):a≠.gI:=by cases h<;>simp
theorem Rel.set{k:ag}{O:ah}{σ:aa}(h:Rel k O σ){b:Nat}{x:Own}{a:jy}(hx:lc k x a):Rel k (O.set b x) (σ.set b a):=⟨λc y e hn=>by
 by_cases hc:c=b
 . subst hc
   simp only[aa.set,if_true,Option.some.injEq]at e;subst e;exact⟨x,by simp[ah.set],hx⟩
 . simp only[aa.set,hc,if_false]at e
   obtain⟨z,h1,h2⟩:=h.1 c y e hn;exact⟨z,by simp[ah.set,hc,h1],h2⟩,λc e=>by
 by_cases hc:c=b
 . subst hc
   simp only[aa.set,if_true,Option.some.injEq]at e;exact absurd e hx.Gp
 . simp only[aa.set,hc,if_false]at e
   obtain⟨h1,h2⟩:=h.2 c e;exact⟨by simp[ah.set,hc,h1],h2⟩⟩
theorem Rel.drop{k:ag}{O:ah}{σ:aa}(h:Rel k O σ)(b:Nat)(x:Own):Rel k (O.set b x) (σ.del b):=⟨λc y e hn=>by
 unfold aa.del at e;split at e
 . cases e
 . next hne=>obtain⟨z,h1,h2⟩:=h.1 c y e hn;exact⟨z,by simp[ah.set,hne,h1],h2⟩,λc e=>by
 unfold aa.del at e;split at e
 . cases e
 . next hne=>obtain⟨h1,h2⟩:=h.2 c e;exact⟨by simp[ah.set,hne,h1],h2⟩⟩
theorem Rel.isNone{k:ag}{O:ah}{σ:aa}(h:Rel k O σ){b:Nat}(hb:O b=none)(hf:k.sh b=none):σ b=none:=by
 cases e:σ b with
 |none=>rfl
 | some a=>
   by_cases ha:a=.gI
   . subst ha
     obtain⟨_,s,h2⟩:=h.2 b e;rw[hf]at h2;cases h2
   . obtain⟨x,h1,_⟩:=h.1 b a e ha;rw[hb]at h1;cases h1
theorem fe.upd{k:ag}{tmps:Array Value}{env:Env}(h:fe k tmps env){t:Nat}{v:Value}{a:AV}(hv:V k v a):fe k (tmps.setIfInBounds t v) (env.upd t a):=λu hu=>by
 have hu':u<tmps.size:=by simpa using hu
 by_cases e:u=t
 . subst e
   have:(tmps.setIfInBounds u v).getD u undef=v:=by simp[Array.getD,hu']
   rw[this];simpa[Env.upd]using hv
 . have:(tmps.setIfInBounds t v).getD u undef=tmps.getD u undef:=by
    simp only[Array.getD_eq_getD_getElem?];rw[Array.getElem?_setIfInBounds_ne (Ne.symm e)]
   rw[this];simpa[Env.upd,e]using h u hu'
def ap(env:Env):Operand->AV
 |.tmp t=>env t
 |.const v=>.lit v
 |.global g=>.ref g 0
 |.func f=>.fn (.func f) [] []
def Operand.ok(n:Nat):Operand->Bool
 |.tmp t=>t<n
 |_=>true
theorem V.eval{k:ag}{fr:Frame}{env:Env}(h:fe k fr.tmps env){n:Nat}(hn:fr.tmps.size=n)(o:Operand)(ho:Operand.ok n o=true):V k (fr.eval o) (ap env o):=by
 cases o with
 |tmp t=>exact h t (by simpa[Operand.ok,hn]using ho)
 |const v=>exact .lit v
 |global g=>exact .ref g 0
 |func f=>exact .fn _ _ _ _ _ rfl (λi v a h=>by simp at h) rfl (λi v a h=>by simp at h)
inductive kL where
 |mark (r:Nat)
 |call (f:Fn) (captured args:List AV)
def uj(k:ag)(d:Deferred):kL->Prop
 |.mark r=>d={target:=.collected r,args:=#[]}
 |.call f cap args=>∃cc ca,d={target:=.fn f cc,args:=ca}/\Vs k cc.toList cap/\Vs k ca.toList args
def wH(k:ag):List Deferred->List kL->Prop
 |[],[]=>True
 |d::ds,a::D=>uj k d a/\wH k ds D
 |_,_=>False
theorem uj.mono{k k':ag}(hk:k.Le k'){d:Deferred}{a:kL}(h:uj k d a):uj k' d a:=by
 cases a with
 |mark r=>exact h
 |call f cap args=>obtain⟨cc,ca,h1,h2,h3⟩:=h;exact⟨cc,ca,h1,h2.mono hk,h3.mono hk⟩
theorem wH.mono{k k':ag}(hk:k.Le k'):∀{ds:List Deferred}{D:List kL},wH k ds D->wH k' ds D
 |[],[],h=>h
 |_::_,_::_,h=>⟨h.1.mono hk,h.2.mono hk⟩
 |[],_::_,h=>h.elim
 |_::_,[],h=>h.elim
inductive Rec where
 |no
 |can (v:AV)
 |did
 |told (kind:CallKind) (cs:List Frame) (k0:ag)
structure St where
 env:Env
 σ:aa
 D:List kL
 rc:Rec
def fM:Rec->List Frame->List Frame
 |.did,c::rest=>(match c.mode with|.panicking (e::older)=>{c with mode:=.panicking ({e with recovered:=true}::older)}|_=>c)::rest
 |_,cs=>cs
def x8(k:ag)(kind:CallKind)(cs:List Frame):Rec->Prop
 |.can v=>kind=.deferred/\∃c rest cv,cs=c::rest/\c.mode=.panicking [⟨cv,false,false⟩]/\V k cv v
 |.told kd cs0 k0=>kind=kd/\cs=cs0/\k0.Le k
 |_=>True
theorem x8.mono{k k':ag}(hk:k.Le k'){kind:CallKind}{cs:List Frame}{r:Rec}(h:x8 k kind cs r):x8 k' kind cs r:=by
 cases r with
 |can v=>obtain⟨h1,c,rest,cv,h2,h3,h4⟩:=h;exact⟨h1,c,rest,cv,h2,h3,h4.mono hk⟩
 |told kd cs0 k0=>exact⟨h.1,h.2.1,h.2.2.trans hk⟩
 |_=>exact h
inductive Exit where
 |leave (jump:Option Code)
 |panic (v:AV)
def Leaves(todo:List Item)(jump:Option Code):Prop:=(todo=[]/\jump=none)\/(∃k,todo=.code .ret::k/\jump=some .ret)\/(∃id k,todo=.code (.exit id)::k/\exitTo id k=none/\jump=some (.exit id))
structure zz(n:Nat)(k:ag)(O:ah)(tmps:Array Value)(defs:List Deferred)(kind:CallKind)(cs:List Frame)(s:St):Prop where
 size:tmps.size=n
 env:fe k tmps s.env
 rel:Rel k O s.σ
 ds:wH k defs s.D
 rc:x8 k kind cs s.rc
structure x9(P:Program)(m:Mo)(Q:ag->ah->Goroutine->Prop)(fid n:Nat)(ro:Option Nat)(kind:CallKind)(cs:List Frame)(K:Exit->St->Prop)(k:ag):Prop where
 leave:∀k' O' tmps defs s todo jump,k.Le k'->zz n k' O' tmps defs kind cs s->Leaves todo jump->K (.leave jump) s->T P m Q k' O' (G ⟨fid,tmps,todo,defs,.run,kind,ro⟩ (fM s.rc cs))
 panic:∀k' O' tmps defs s todo cv av,k.Le k'->zz n k' O' tmps defs kind cs s->V k' cv av->K (.panic av) s->T P m Q k' O' (G ⟨fid,tmps,todo,defs,.panicking [⟨cv,false,false⟩],kind,ro⟩ (fM s.rc cs))
theorem x9.mono{P:Program}{m:Mo}{Q:ag->ah->Goroutine->Prop}{fid n:Nat}{ro:Option Nat}{kind:CallKind}{cs:List Frame}{K:Exit->St->Prop}{k k':ag}(hk:k.Le k')
 (h:x9 P m Q fid n ro kind cs K k):x9 P m Q fid n ro kind cs K k':=
 ⟨λ_ _ _ _ _ _ _ h1=>h.leave _ _ _ _ _ _ _ (hk.trans h1),λ_ _ _ _ _ _ _ _ h1=>h.panic _ _ _ _ _ _ _ _ (hk.trans h1)⟩
def Go(P:Program)(m:Mo)(fid n:Nat)(ro:Option Nat)(todo:List Item)(s:St)(K:Exit->St->Prop):Prop:=∀Q k O tmps defs kind cs,kind≠.early->zz n k O tmps defs kind cs s->x9 P m Q fid n ro kind cs K k->T P m Q k O (G ⟨fid,tmps,todo,defs,.run,kind,ro⟩ (fM s.rc cs))
inductive cL where
 |val (v:AV)
 |panic (v:AV)
def kw(c:Frame):Frame:=
 match c.mode with
 | .panicking ({recovered:=true,..}::older)=>
   match older.dropWhile (!·.goexit)with
   |[]=>{c with mode:=.returning}
   |rest=>{c with mode:=.panicking rest}
 |_=>c
def jT(kind:CallKind)(c:Frame)(rest:List Frame)(v:Value):Goroutine:=
 match kind with
 |.normal|.wrapped=>G (c.finish v) rest
 |_=>G (kw c) rest
def aA(P:Program)(m:Mo)(f:FuncId)(args:List AV)(σ:aa)(KF:cL->aa->Prop):Prop:=
 ∀ Q k O cargs c rest kind,kind≠.early->Vs k cargs args->Rel k O σ ->
   (∀k' O' cv av σ',k.Le k'->V k' cv av->Rel k' O' σ'->KF (.val av) σ'->T P m Q k' O' (jT kind c rest cv)) ->
   (∀k' O' cv av σ',k.Le k'->V k' cv av->Rel k' O' σ'->KF (.panic av) σ'->T P m Q k' O' (G (c.raise [⟨cv,false,false⟩]) rest)) ->
   T P m Q k O (G (Frame.enter P f cargs.toArray kind) (c::rest))
def ya(P:Program)(m:Mo)(Q:ag->ah->Goroutine->Prop)(k:ag)(O:ah)(fr:Frame)(cs:List Frame)(s:Sem Next):Prop:=∀w,Sat k O w->∃g' w' es k' O',stepG.apply P true fr cs none s w=.go g' w' es/\Eff k O w k' O' w' es.toList/\Sat k' O' w'/\T P m Q k' O' g'
def dC(P:Program)(m:Mo)(fv:AV)(args:List AV)(σ:aa)(KF:cL->aa->Prop):Prop:=
 ∀ Q k O cf cargs fr cs,V k cf fv->Vs k cargs args->Rel k O σ->fr.mode=.run->fr.kind≠.early->(∀d w r s l,fr.todo≠.call d w r s::l) ->
   (∀k' O' cv av σ',k.Le k'->V k' cv av->Rel k' O' σ'->KF (.val av) σ'->T P m Q k' O' (G (fr.finish cv) cs)) ->
   (∀k' O' cv av σ',k.Le k'->V k' cv av->Rel k' O' σ'->KF (.panic av) σ'->T P m Q k' O' (G (fr.raise [⟨cv,false,false⟩]) cs)) ->
   ya P m Q k O fr cs (do let d <-Deferred.ofValue cf cargs.toArray;invoke d.target d.args)
section
variable{P:Program}{m:Mo}{Q:ag->ah->Goroutine->Prop}{k:ag}{O:ah}{g g':Goroutine}
theorem T.dD(hr:g.status=.running)(hs:∀w,stepG P m.main g w=.go g' w #[])(h:T P m Q k O g'):T P m Q k O g:=
 .step (λk' O' x=>k'=k/\O'=O/\x=g') hr (λ_ _ _ ⟨e1,e2,e3⟩=>by subst e1;subst e2;subst e3;exact h)
  λw hw=>⟨g',w,#[],k,O,hs w,.refl ..,hw,rfl,rfl,rfl⟩
theorem T.ov{fr:Frame}{cs:List Frame}{s:Sem Next}(hs:∀w,stepG P m.main (G fr cs) w=stepG.apply P true fr cs none s w)(h:ya P m Q k O fr cs s):T P m Q k O (G fr cs):=
 .step (λk' O' x=>T P m Q k' O' x) rfl (λ_ _ _ h=>h) λw hw=>by obtain⟨g',w',es,k',O',h1,h2,h3,h4⟩:=h w hw;exact⟨g',w',es,k',O',(hs w).trans h1,h2,h3,h4⟩
end
section
variable{P:Program}{m:Mo}{fid n:Nat}{ro:Option Nat}{s:St}{K:Exit->St->Prop}{k:List Item}
theorem Go.dD{todo todo':List Item}(hs:∀tmps defs kind cs w,stepG P m.main (G ⟨fid,tmps,todo,defs,.run,kind,ro⟩ cs) w=.go (G ⟨fid,tmps,todo',defs,.run,kind,ro⟩ cs) w #[])
 (h:Go P m fid n ro todo' s K):Go P m fid n ro todo s K:=λQ k O tmps defs kind cs h1 h2 h3=>T.dD rfl (λw=>hs ..) (h Q k O tmps defs kind cs h1 h2 h3)
theorem Go.skip(h:Go P m fid n ro k s K):Go P m fid n ro (.code .skip::k) s K:=.dD (λ_ _ _ _ _=>by simp[G,stepG,stepG.exec]) h
theorem Go.label{l:Nat}(h:Go P m fid n ro k s K):Go P m fid n ro (.code (.label l)::k) s K:=.dD (λ_ _ _ _ _=>by simp[G,stepG,stepG.exec]) h
theorem Go.inBlock{id:Nat}(h:Go P m fid n ro k s K):Go P m fid n ro (.inBlock id::k) s K:=.dD (λ_ _ _ _ _=>by simp[G,stepG,stepG.exec]) h
theorem Go.inScope{c:Code}(h:Go P m fid n ro k s K):Go P m fid n ro (.inScope c::k) s K:=.dD (λ_ _ _ _ _=>by simp[G,stepG,stepG.exec]) h
theorem Go.seq{a b:Code}(h:Go P m fid n ro (.code a::.code b::k) s K):Go P m fid n ro (.code (.seq a b)::k) s K:=.dD (λ_ _ _ _ _=>by simp[G,stepG,stepG.exec]) h
theorem Go.block{id:Nat}{c:Code}(h:Go P m fid n ro (.code c::.inBlock id::k) s K):Go P m fid n ro (.code (.block id c)::k) s K:=.dD (λ_ _ _ _ _=>by simp[G,stepG,stepG.exec]) h
theorem Go.scope{c:Code}(h:Go P m fid n ro (.code c::.inScope c::k) s K):Go P m fid n ro (.code (.scope c)::k) s K:=.dD (λ_ _ _ _ _=>by simp[G,stepG,stepG.exec]) h
theorem Go.inLoop{c:Code}(h:Go P m fid n ro (.code c::.inLoop c::k) s K):Go P m fid n ro (.inLoop c::k) s K:=.dD (λ_ _ _ _ _=>by simp[G,stepG,stepG.exec]) h
theorem Go.K0{c:Code}(h:Go P m fid n ro (.code c::.inLoop c::k) s K):Go P m fid n ro (.code (.loop c)::k) s K:=.dD (λ_ _ _ _ _=>by simp[G,stepG,stepG.exec]) h
theorem Go.exit{id:Nat}{k':List Item}(he:exitTo id k=some k')(h:Go P m fid n ro k' s K):Go P m fid n ro (.code (.exit id)::k) s K:=.dD (λ_ _ _ _ _=>by simp[G,stepG,stepG.exec,he]) h
theorem Go.region{id:Nat}{ops:Array Oper}(h:Go P m fid n ro (.inRegion ops (List.range ops.size)::k) s K):Go P m fid n ro (.code (.region id ops false)::k) s K:=.dD (λ_ _ _ _ _=>by simp[G,stepG,stepG.exec]) h
theorem Go.wI{ops:Array Oper}(h:Go P m fid n ro k s K):Go P m fid n ro (.inRegion ops []::k) s K:=.dD (λ_ _ _ _ _=>by simp[G,stepG,stepG.exec]) h
theorem Go.cond{c:Operand}{a b:Code}{x:Bool}(hc:ap s.env c=.lit (.bool x))(ho:Operand.ok n c=true)(h:Go P m fid n ro (.code (if x then a else b)::k) s K):Go P m fid n ro (.code (.cond c a b)::k) s K:=
 λQ k O tmps defs kind cs h1 h2 h3=>by
  have hv:=V.eval (fr:=⟨fid,tmps,.code (.cond c a b)::‹_›,defs,.run,kind,ro⟩) h2.env h2.size c ho;rw[hc]at hv;generalize he:Frame.eval _ c=v at hv;cases hv;refine T.dD rfl (λw=>?_) (h Q k O tmps defs kind cs h1 h2 h3);simp[G,stepG,stepG.exec,he]
theorem Go.leave{todo:List Item}{jump:Option Code}(hl:Leaves todo jump)(h:K (.leave jump) s):Go P m fid n ro todo s K:=λ_ _ _ _ _ _ _ _ h2 h3=>h3.leave _ _ _ _ _ _ _ (.refl _) h2 hl h
theorem Go.weaken{todo:List Item}{σ:aa}(h:Go P m fid n ro todo {s with σ} K)(hs:σ.Le s.σ):Go P m fid n ro todo s K:=λQ k O tmps defs kind cs h1 h2 h3=>h Q k O tmps defs kind cs h1 ⟨h2.size,h2.env,h2.rel.le hs,h2.ds,h2.rc⟩ h3
theorem Go.loop{c:Code}(I:Nat->St->Prop)(a:Nat)(h0:I a s)
 (hr:∀c0 a s,I a s->(∀a' s',a'<a->I a' s'->Go P m fid n ro (.inLoop c0::k) s' K)->Go P m fid n ro (.code c::.inLoop c0::k) s K):Go P m fid n ro (.code (.loop c)::k) s K:=by
 have key:∀b a s,a<b->I a s->Go P m fid n ro (.code c::.inLoop c::k) s K:=by
  intro b;induction b with
  |zero=>intro a s h;omega
  |succ b ih=>exact λa s hab hI=>hr c a s hI λa' s' h' hI'=>.inLoop (ih a' s' (by omega) hI')
 exact .K0 (key (a+1) a s (by omega) h0)
end
inductive AK where
 |bool|int (k:IntKind)|string|pointer (e:Nat)|slice (e:Nat)|array (n e:Nat)|map (k e:Nat)|chan (e:Nat)|struct|func|iface|other
 deriving DecidableEq
structure TI where
 kind:AK
 size:Nat
 bytes:Nat
 zero:Value
 iK:List (Nat × Nat × Nat)
def TI.agg(i:TI):Bool:=match i.kind with|.struct=>true|.array _ _=>true|_=>false
def di(P:Program)(i:TI):TypeDesc->Bool
 |.bool=>i.kind==.bool
 |.int k=>i.kind==.int k
 |.string=>i.kind==.string
 |.pointer e=>i.kind==.pointer e
 |.slice e=>i.kind==.slice e
 |.array n e=>i.kind==.array n e
 |.map k e=>i.kind==.map k e
 |.chan _ e=>i.kind==.chan e
 |.struct fs=>i.kind==.struct && (fs.toList.map λf=>(f.offset,(P.info? f.type).map (·.size),f.type))==(i.iK.map λx=>(x.1,some x.2.1,x.2.2))
 |.func _ _ _=>i.kind==.func
 |.interface _=>i.kind==.iface
 |_=>i.kind==.other
def JD:Value->Value->Bool
 |.bool a,.bool b=>a==b
 |.int k a,.int l b=>k==l && a==b
 |.string a,.string b=>a.data.toList==b.data.toList
 |.pointer none,.pointer none=>true
 |.slice none a b,.slice none c d=>a==c && b==d
 |.map none,.map none=>true
 |.chan none,.chan none=>true
 |.nilFunc,.nilFunc=>true
 |.nilIface,.nilIface=>true
 |_,_=>false
def BR:List Value->List Value->Bool
 |[],[]=>true
 |a::l,b::r=>JD a b && BR l r
 |_,_=>false
def Pe:Value->Value->Bool
 |.agg a,.agg b=>BR a.toList b.toList
 |.tuple a,.tuple b=>BR a.toList b.toList
 |a,b=>JD a b
theorem Dg{a b:Value}(h:JD a b=true):a=b:=by
 unfold JD at h;split at h<;>simp_all;rename_i a b;obtain⟨⟨a⟩⟩:=a;obtain⟨⟨b⟩⟩:=b
 simp_all
theorem yc:∀{a b:List Value},BR a b=true->a=b
 |[],[],_=>rfl
 |a::l,b::r,h=>by simp only[BR,Bool.and_eq_true]at h;rw[Dg h.1,yc h.2]
 |[],_::_,h=>by simp[BR]at h
 |_::_,[],h=>by simp[BR]at h
theorem Lx{a b:Value}(h:Pe a b=true):a=b:=by
 unfold Pe at h;split at h
 . have:=yc h;congr 1;exact Array.ext' this
 . have:=yc h;congr 1;exact Array.ext' this
 . exact Dg h
def TI.check(P:Program)(t:Nat)(i:TI):Bool:=
 match P.underlying t,P.info? t with
 |some d,some info=>di P i d && info.size==i.size && info.bytes==i.bytes && (match info.zero with|some z=>Pe z i.zero|none=>false) && i.zero.cells.size==i.size
 |_,_=>false
structure iE(P:Program) where
 tt:Nat->Option TI
 ok:∀t i,tt t=some i->i.check P t=true
 mixed:P.follows .mixedOrders=true
theorem iE.facts{P:Program}(L:iE P){t:Nat}{i:TI}(h:L.tt t=some i):(∃d,P.underlying t=some d/\di P i d=true)/\∃info,P.info? t=some info/\info.size=i.size/\info.bytes=i.bytes/\info.zero=some i.zero/\i.zero.cells.size=i.size:=by
 have:=L.ok t i h;unfold TI.check at this;split at this
 . next d info h1 h2=>
   simp only[Bool.and_eq_true,beq_iff_eq]at this;obtain⟨⟨⟨⟨a,b⟩,c⟩,e⟩,f⟩:=this;refine⟨⟨d,h1,a⟩,info,h2,b,c,?_,f⟩;split at e
   . next z hz=>rw[hz,Lx e]
   . cases e
 . cases this
section
variable{P:Program}(L:iE P){k:ag}{O:ah}{Kp:Value->ag->ah->Prop}{t:Nat}{i:TI}
theorem aj{α:Type}{a:α}{K:α->ag->ah->Prop}(h:K a k O):eE P (pure a:Sem α) k O K Kp:=h
theorem af{α β:Type}{s:Sem α}{f:α->Sem β}{K:β->ag->ah->Prop}(h:eE P s k O (λa k O=>eE P (f a) k O K Kp) Kp):eE P (s >>=f) k O K Kp:=Gn s h
theorem bN{K:Program->ag->ah->Prop}(h:K P k O):eE P program k O K Kp:=h
theorem aB{K:TypeDesc->ag->ah->Prop}(ht:L.tt t=some i)(h:∀d,P.underlying t=some d->di P i d=true->K d k O):eE P (underlying t) k O K Kp:=by obtain⟨⟨d,h1,h2⟩,_⟩:=L.facts ht;unfold underlying;refine af (bN ?_);rw[h1];exact h d h1 h2
theorem cD{K:TypeInfo->ag->ah->Prop}(ht:L.tt t=some i)(h:∀info,P.info? t=some info->info.size=i.size->info.bytes=i.bytes->info.zero=some i.zero->K info k O):eE P (typeInfo t) k O K Kp:=by obtain⟨_,info,h1,h2,h3,h4,_⟩:=L.facts ht;unfold typeInfo;refine af (bN ?_);rw[h1];exact h info h1 h2 h3 h4
theorem ck{K:Nat->ag->ah->Prop}(ht:L.tt t=some i)(h:K i.size k O):eE P (sizeOf t) k O K Kp:=by
 unfold sizeOf;refine af (cD L ht λinfo _ h1 _ _=>?_);refine aj ?_;rw[h1];exact h
theorem cX{K:Value->ag->ah->Prop}(ht:L.tt t=some i)(h:K i.zero k O):eE P (zeroValue t) k O K Kp:=by
 unfold zeroValue;refine af (cD L ht λinfo _ _ _ h1=>?_);rw[h1];exact h
theorem ow{K:Bool->ag->ah->Prop}(ht:L.tt t=some i)(h:K i.agg k O):eE P (isAgg t) k O K Kp:=by
 unfold isAgg;refine af (aB L ht λd _ hd=>?_);unfold TI.agg at h;cases d<;>simp only[di,Bool.and_eq_true,beq_iff_eq]at hd<;>first|(rw[hd]at h;exact h)|(rw[hd.1]at h;exact h)
theorem lZ{α:Type}{K K':α->ag->ah->Prop}{Kp Kp':Value->ag->ah->Prop}(s:Sem α):∀{k:ag}{O:ah},eE P s k O K Kp->(∀a k O,K a k O->K' a k O)->(∀a k O,Kp a k O->Kp' a k O)->eE P s k O K' Kp':=by
 induction s with
 |pure a=>intro k O h hk hp;exact hk _ _ _ h
 |load m a g ih=>intro k O h hk hp;obtain⟨h1,v,h2,h3⟩:=h;exact⟨h1,v,h2,ih v h3 hk hp⟩
 | store m a v g ih=>
   intro k O h hk hp;obtain⟨h1,h2,h3,h4⟩:=h;refine⟨h1,h2,h3,?_⟩;rcases h4 with⟨c,e,a1,a2,a3⟩|⟨e,N,a1,a2,a3,a4⟩
   . exact .inl ⟨c,e,a1,a2,ih a3 hk hp⟩
   . exact .inr ⟨e,N,a1,a2,a3,λhn=>ih (a4 hn) hk hp⟩
 |new o g ih=>intro k O h hk hp;exact⟨h.1,λr hr=>ih r (h.2 r hr) hk hp⟩
 |shape r g ih=>intro k O h hk hp;obtain⟨s,h1,h2⟩:=h;exact⟨s,h1,ih s h2 hk hp⟩
 |freeze a n g ih=>intro k O h hk hp;exact h.elim
 |frozen a g ih=>intro k O h hk hp;exact⟨h.1,ih false h.2 hk hp⟩
 |getObj r g ih=>intro k O h hk hp;obtain⟨o,h1,h2,h3⟩:=h;exact⟨o,h1,h2,ih o h3 hk hp⟩
 |setObj r o g ih=>intro k O h hk hp;exact⟨h.1,h.2.1,ih h.2.2 hk hp⟩
 |choose q g ih=>intro k O h hk hp t;exact ih _ (h t) hk hp
 |sys c g ih=>intro k O h hk hp;exact h.elim
 |program g ih=>intro k O h hk hp;exact ih P h hk hp
 |mark m g ih=>intro k O h hk hp;exact⟨h.1,ih h.2 hk hp⟩
 | halt x=>intro k O h hk hp;cases x with
   |panic v=>exact hp _ _ _ h
   |_=>exact h
end
def l8(k:ag)(O:ah)(R:ag->ah->Prop):Prop:=∃k2 O2,kK k O k2 O2/\R k2 O2
theorem kK.refl(k:ag)(O:ah):kK k O k O:=λw h=>⟨h,.refl k O w⟩
theorem kK.trans{k k1 k2:ag}{O O1 O2:ah}(h:kK k O k1 O1)(h':kK k1 O1 k2 O2):kK k O k2 O2:=λw hw=>let ⟨a,b⟩:=h w hw;let ⟨c,d⟩:=h' w a;⟨c,by simpa using b.trans d⟩
theorem l8.here{k:ag}{O:ah}{R:ag->ah->Prop}(h:R k O):l8 k O R:=⟨k,O,.refl k O,h⟩
def aG(P:Program)(o:Oper)(env:Env)(σ:aa)(K:AV->aa->Prop)(Kp:AV->aa->Prop):Prop:=
 ∀ k O (ρ:Operand->Value),(∀x∈o.op.operands,V k (ρ x) (ap env x))->Rel k O σ ->
   eE P (execOp ρ o) k O (λnx k' O'=>∃v,(nx=.value v\/(nx=.skip/\v=undef))/\l8 k' O' λk2 O2=>k.Le k2/\∃a σ',V k2 v a/\Rel k2 O2 σ'/\K a σ')
    (λv k' O'=>k.Le k'/\∃a σ',V k' v a/\Rel k' O' σ'/\Kp a σ')
def Oper.ok(n:Nat)(o:Oper):Bool:=o.op.operands.all (Operand.ok n) && (match o.dst with|some d=>decide (d<n)|none=>true)
def bd(env:Env)(dst:Option Tmp)(v:AV):Env:=match dst with|some d=>env.upd d v|none=>env
theorem uk{P:Program}{fn:FuncId}{es:Array Event}{e:Event}(h:e∈seen P fn es):e∈es:=by
 unfold seen at h
 have key:∀(l:List Event) (q:Bool) (acc:Array Event),e∈(l.foldl (init:=(q,acc)) λ(q,kept) e=>
  match e.loc with
  |.mark (.extern f)=>((P.funcs[f]?).any (·.norace),kept)
  |_=>(q,if q && !e.sync then kept else kept.push e)).2->e∈acc\/e∈l:=by
  intro l;induction l with
  |nil=>intro q acc h;exact .inl h
  | cons x l ih=>
    intro q acc h;simp only[List.foldl_cons]at h;rcases ih _ _ h with h'|h'
    . split at h'
      . exact .inl h'
      . simp only at h'
        split at h'
        . exact .inl h'
        . rcases Array.mem_push.1 h' with h'|h'
          . exact .inl h'
          . exact .inr (by simp[h'])
    . exact .inr (by simp[h'])
 dsimp only at h;rw[<-Array.foldl_toList]at h;rcases key es.toList _ #[] h with h|h
 . simp at h
 . simpa using h
theorem Eff.sub{k:ag}{O:ah}{w:World}{k':ag}{O':ah}{w':World}{l l':List Event}(h:Eff k O w k' O' w' l)(hl:∀e∈l',e∈l):Eff k O w k' O' w' l':=⟨h.le,h.size,h.keep,h.tail,h.part,h.shape,h.own,h.cell,h.sh,λe he=>h.evs e (hl e he),h.tape,h.output,h.os,λe he=>h.low e (hl e he),h.tok⟩
theorem fg{P:Program}{m:Mo}{Q:ag->ah->Goroutine->Prop}{k:ag}{O:ah}{fr:Frame}{cs:List Frame}{s:Sem Next}
 (h:eE P s k O
   (fun nx k' O'=>k.Le k'->match nx with
     |.value v=>T P m Q k' O' (G (fr.finish v) cs)
     |.skip=>T P m Q k' O' (G (fr.finish undef) cs)
     |.enter f args=>(∀d w r s l,fr.todo≠.call d w r s::l)/\T P m Q k' O' (G (Frame.enter P f args .normal) (fr::cs))
     |.round l f tmps assign body=>T P m Q k' O' (G (Frame.round l f tmps assign body .normal) (fr::cs))
     |.defer d=>T P m Q k' O' (G ({fr with defers:=d::fr.defers}.finish undef) cs)
     |_=>False)
   (λv k' O'=>k.Le k'->T P m Q k' O' (G (fr.raise [⟨v,false,false⟩]) cs))):ya P m Q k O fr cs s:=by
 intro w hw;obtain⟨k',O',w',l,h1,h2,h3,h4⟩:=rL s #[] h hw
 have hsub:∀(es:Array Event),(∀e∈es,e∈(s.runT P w #[]).2)->∀e∈es.toList,e∈l:=λes hes e he=>by
  have:=hes e (by simpa using he);rw[<-Array.mem_toList_iff,h3]at this;simpa using this
 have hk:∀(b:Bool) (es:Array Event),∀e∈seen P fr.fn (if b then #[]else es),e∈es:=λb es e he=>by
  have:=uk he;cases b
  . simpa using this
  . simp at this
 rcases h4 with⟨nx,hr,hK⟩|⟨v,hr,hK⟩
 . have hK:=hK h1.le
   cases nx with
   |value v=>exact⟨_,w',_,k',O',by simp only[stepG.apply,if_true];rw[show(s.runT P w #[]).1=.ok (.value v) w' from hr];rfl,h1.sub (hsub _ (by simpa using hk (fr.kind==.early) (s.runT P w #[]).2)),h2,hK⟩
   |skip=>exact⟨_,w',_,k',O',by simp only[stepG.apply,if_true];rw[show(s.runT P w #[]).1=.ok .skip w' from hr];rfl,h1.sub (hsub _ (by simpa using hk (fr.kind==.early) (s.runT P w #[]).2)),h2,hK⟩
   | enter f args=>
     refine⟨_,w',seen P fr.fn (if fr.kind==.early then #[]else(s.runT P w #[]).2),k',O',?_,h1.sub (hsub _ (by simpa using hk (fr.kind==.early) (s.runT P w #[]).2)),h2,hK.2⟩;obtain⟨fn,tmps,todo,defs,mode,kind,ro⟩:=fr;simp only[stepG.apply,if_true];rw[show(s.runT P w #[]).1=.ok (.enter f args) w' from hr];cases todo with
     |nil=>rfl
     | cons it l=>cases it with
       |call d w r s=>exact absurd rfl (hK.1 d w r s l)
       |_=>rfl
   |round l f tmps assign body=>exact⟨_,w',_,k',O',by simp only[stepG.apply,if_true];rw[show(s.runT P w #[]).1=.ok (.round l f tmps assign body) w' from hr];rfl,h1.sub (hsub _ (by simpa using hk (fr.kind==.early) (s.runT P w #[]).2)),h2,hK⟩
   |defer d=>exact⟨_,w',_,k',O',by simp only[stepG.apply,if_true];rw[show(s.runT P w #[]).1=.ok (.defer d) w' from hr];rfl,h1.sub (hsub _ (by simpa using hk (fr.kind==.early) (s.runT P w #[]).2)),h2,hK⟩
   |_=>exact hK.elim
 . exact⟨_,w',_,k',O',by simp only[stepG.apply,if_true];rw[show(s.runT P w #[]).1=.halt (.panic v) w' from hr];rfl,h1.sub (hsub _ (by simpa using hk (fr.kind==.early) (s.runT P w #[]).2)),h2,hK h1.le⟩
theorem zz.put{n:Nat}{k k':ag}{O O':ah}{fid:FuncId}{tmps:Array Value}{defs:List Deferred}{kind:CallKind}{ro:Option Nat}{cs:List Frame}{s:St}{σ':aa}{ops:Array Oper}{i:Nat}{rest:List Nat}{o:Oper}{kk:List Item}{v:Value}{a:AV}
 (h:zz n k O tmps defs kind cs s) (hk:k.Le k') (ho:ops[i]?=some o) (hv:V k' v a) (hr:Rel k' O' σ'):
 ∃ tmps',Frame.finish ⟨fid,tmps,.inRegion ops (i::rest)::kk,defs,.run,kind,ro⟩ v=⟨fid,tmps',.inRegion ops rest::kk,defs,.run,kind,ro⟩/\
   zz n k' O' tmps' defs kind cs {s with env:=bd s.env o.dst a,σ:=σ'}:=by
 cases hd:o.dst with
 |none=>refine⟨tmps,?_,⟨h.size,h.env.mono hk,hr,h.ds.mono hk,h.rc.mono hk⟩⟩;simp[Frame.finish,ho,hd]
 | some d=>
   refine⟨tmps.setIfInBounds d v,?_,⟨by simp[h.size],(h.env.mono hk).upd hv,hr,h.ds.mono hk,h.rc.mono hk⟩⟩;simp[Frame.finish,ho,hd]
section
variable{P:Program}{m:Mo}{fid n:Nat}{ro:Option Nat}{s:St}{K:Exit->St->Prop}{k:List Item}
def Nh:Value->Bool->Prop
 |.bool x,b=>x≠b
 |.tuple _,_=>True
 |_,_=>False
theorem Go.unwanted{ops:Array Oper}{i:Nat}{rest:List Nat}{o:Oper}{j:Nat}{b:Bool}{x:Value}{d:Tmp}{oj:Oper}(ho:ops[i]?=some o)(hg:o.guard=some (j,b))(hj:ops[j]?=some oj)(hd:oj.dst=some d)(hdn:d<n)
 (he:s.env d=.lit x) (hx:Nh x b) (h:Go P m fid n ro (.inRegion ops rest::k) {s with env:=bd s.env o.dst (.lit (.tuple #[]))} K):Go P m fid n ro (.inRegion ops (i::rest)::k) s K:=
 fun Q kk O tmps defs kind cs h1 h2 h3=>by
  obtain⟨tmps',e1,e2⟩:=h2.put (fid:=fid) (ro:=ro) (rest:=rest) (kk:=k) (v:=undef) (a:=.lit (.tuple #[])) (.refl _) ho (.lit _) h2.rel;refine T.dD rfl (λw=>?_) (h Q kk O tmps' defs kind cs h1 e2 h3)
  have hv:=h2.env d (by rw[h2.size];exact hdn)
  rw[he]at hv;generalize hq:tmps.getD d undef=v at hv;cases hv
  have hy:yielded ops tmps j≠some b:=by
   have:tmps[d]?=some x:=by
    have hlt:d<tmps.size:=by rw[h2.size];exact hdn
    simp[Array.getD,hlt]at hq;simp[hlt,hq]
   unfold Nh at hx;split at hx
   . simpa[yielded,hj,hd,this]using hx
   . simp[yielded,hj,hd,this]
   . exact hx.elim
  have hw:((ops[i]?).map (Region.wanted · (yielded ops tmps))).getD false=false:=by simp[ho,Region.wanted,hg,hy]
  simp only[G,stepG,stepG.exec,hw];simp only[e1];rfl
def bS(ops:Array Oper)(n:Nat)(env:Env)(o:Oper):Prop:=
 match o.guard with
 |none=>True
 |some (j,b)=>∃oj d,ops[j]?=some oj/\oj.dst=some d/\d<n/\env d=.lit (.bool b)
theorem iq{k:ag}{tmps:Array Value}{ops:Array Oper}{env:Env}{o:Oper}(hs:tmps.size=n)(he:fe k tmps env)(h:bS ops n env o):Region.wanted o (yielded ops tmps)=true:=by
 unfold bS at h;unfold Region.wanted;cases hg:o.guard with
 |none=>rfl
 | some p=>
   obtain⟨j,b⟩:=p;simp only[hg]at h;obtain⟨oj,d,h1,h2,h3,h4⟩:=h;have hv:=he d (by rw[hs];exact h3)
   rw[h4]at hv;generalize hq:tmps.getD d undef=v at hv;cases hv
   have:tmps[d]?=some (.bool b):=by
    have hlt:d<tmps.size:=by rw[hs];exact h3
    simp[Array.getD,hlt]at hq;simp[hlt,hq]
   simp[yielded,h1,h2,this]
theorem dT{ops:Array Oper}{i:Nat}{rest:List Nat}{o:Oper}{tmps:Array Value}{defs:List Deferred}{kind:CallKind}{cs:List Frame}(ho:ops[i]?=some o)(hw:Region.wanted o (yielded ops tmps)=true)
 (hdf:ro=none\/∀c,o.op≠.defer c) (w:World):
 stepG P m.main (G ⟨fid,tmps,.inRegion ops (i::rest)::k,defs,.run,kind,ro⟩ cs) w=
  stepG.apply P true ⟨fid,tmps,.inRegion ops (i::rest)::k,defs,.run,kind,ro⟩ cs none (execOp (Frame.eval ⟨fid,tmps,.inRegion ops (i::rest)::k,defs,.run,kind,ro⟩) o) w:=by
 simp only[G,stepG,stepG.exec,stepG.oper,Frame.oper?,ho,hw,Option.map_some,Option.getD_some,if_true];split
 . next c h2 => rcases hdf with h|h
                . cases h
                . exact absurd h2 (h _)
 . rfl
theorem Go.op{ops:Array Oper}{i:Nat}{rest:List Nat}{o:Oper}(ho:ops[i]?=some o)(hw:bS ops n s.env o)(hok:Oper.ok n o=true)(hdf:∀c,o.op≠.defer c)
 (h:aG P o s.env s.σ (λa σ'=>Go P m fid n ro (.inRegion ops rest::k) {s with env:=bd s.env o.dst a,σ:=σ'} K) (λa σ'=>K (.panic a) {s with σ:=σ'})):
 Go P m fid n ro (.inRegion ops (i::rest)::k) s K:=λQ kk O tmps defs kind cs h1 h2 h3=>by
 refine T.ov (λw=>dT ho (iq h2.size h2.env hw) (.inr hdf) w) (fg ?_)
 have hops:∀x∈o.op.operands,V kk (Frame.eval ⟨fid,tmps,.inRegion ops (i::rest)::k,defs,.run,kind,ro⟩ x) (ap s.env x):=λx hx=>by refine V.eval h2.env h2.size x ?_;simp only[Oper.ok,Bool.and_eq_true,Array.all_eq_true_iff_forall_mem]at hok;exact hok.1 x hx
 refine lZ _ (h kk O _ hops h2.rel) (λnx k' O' hx hle=>?_) (λv k' O' hx hle=>?_)
 . obtain⟨v,hv,k2,O2,hgh,hle2,a,σ',ha,hr,hg⟩:=hx
   obtain⟨tmps',e1,e2⟩:=h2.put (fid:=fid) (ro:=ro) (rest:=rest) (kk:=k) hle2 ho ha hr;have ht:=hg Q k2 O2 tmps' defs kind cs h1 e2 (h3.mono hle2)
   rcases hv with rfl|⟨rfl,rfl⟩
   . show T P m Q k' O' _
     rw[e1];exact .ghost hgh ht
   . show T P m Q k' O' _
     rw[e1];exact .ghost hgh ht
 . obtain⟨hle',a,σ',ha,hr,hg⟩:=hx
   exact h3.panic k' O' tmps defs {s with σ:=σ'} _ v a hle' ⟨h2.size,h2.env.mono hle',hr,h2.ds.mono hle',h2.rc.mono hle'⟩ ha hg
end
end Go.aN
