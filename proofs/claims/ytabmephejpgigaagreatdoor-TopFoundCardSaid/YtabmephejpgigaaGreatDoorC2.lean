import Derived.Conc.Beside
import Derived.Test.YtabmephejpgigaaGreatDoorC1
set_option linter.all false
namespace Go.cr
open Go.Conc
abbrev aaG:=ao->ai->Goroutine->Prop
abbrev aaH:=Value->ao->ai->Prop
abbrev abk:=Nat->ai
abbrev abl:=Nat->ao
def dE(P:abm)(W0:World)(k:ao)(O:ai)(g:abd)(gs:aaJ)(w:World)(t:Trace):Prop:=
 ∃ (Shun:Loc->Prop) (q:abg),gs[0]?=some g/\Leavers P t gs q/\Past Shun w.heap.size t/\
   (∀a,Shun (.cell a)->a.block<w.heap.size/\¬aR O a.block a.off/\k.cell a.block a.off=none)/\(∀r,Shun (.obj r)->r<w.heap.size/\∀o,O r≠some (.obj o))/\Sat k O w/\vw W0 w/\∀b x,O b=some x->W0.heap.size<=b
def zX(P:abm)(k:ao)(O:ai)(g:abd)(N:aaG):Prop:=∀W0 gs w sl t,dE P W0 k O g gs w t->∃n a c b d e f g',runNT P n (crowd gs w sl) t=(.next (crowd a c b),d)/\dE P W0 e f g' a c d/\N e f g'
def zY(P:abm)(main:Bool)(k:ao)(O:ai)(g:abd)(N:aaG):Prop:=∀w,Sat k O w->∃g' a es b c,stepG P main g w=.go g' a es/\Eff k O w b c a es.toList/\Sat b c a/\N b c g'
def km(k:ao)(O:ai)(a:ao)(b:ai):Prop:=∀w,Sat k O w->Sat a b w/\Eff k O w a b w []
structure Mo where
 main:Bool
 solo:Bool
 cY:ao->ai->abd->aaG->Prop
inductive T(P:abm)(m:Mo)(Q:aaG):aaG
 |stop {k:ao}{O:ai}{g:abd}:Q k O g->T P m Q k O g
 |step {k:ao}{O:ai}{g:abd}(N:aaG):g.status=.running->(∀k' O' g',N k' O' g'->T P m Q k' O' g')->zY P m.main k O g N->T P m Q k O g
 |ghost {k k2:ao}{O O2:ai}{g:abd}:km k O k2 O2->T P m Q k2 O2 g->T P m Q k O g
 |phase {k:ao}{O:ai}{g:abd}(N:aaG):m.solo=true->(∀k' O' g',N k' O' g'->T P m Q k' O' g')->zX P k O g N->T P m Q k O g
 |cY {k:ao}{O:ai}{g:abd}(N:aaG):g.status=.running->m.cY k O g N->(∀k' O' g',N k' O' g'->T P m Q k' O' g')->T P m Q k O g
inductive kW where
 |any
 |exact
 |tok (b e:Nat)
inductive AV where
 |lit (v:Value)
 |cu
 |agg (l:List AV)
 |cH (l:List AV)
 |sl (k:Nat) (es:List AV) (sp:kW)
 |cp (v:AV) (off:Nat)
 |kp (b:Nat) (l:List AV) (hole:abf) (off:Nat)
 |ref (b off:Nat)
 |gq (b off len cap:Nat)
 |fn (f:Fn) (first captured:List AV)
 |kz (t:TypeId) (v:AV)
 |map (b:Nat)
 |chan (b:Nat)
instance:Inhabited AV:=⟨.cu⟩
def AV.cells:AV->List AV
 |.agg l=>l
 |v=>[v]
def flatten(es:List AV):List AV:=es.flatMap AV.cells
def kW.fits(b off len kk cap:Nat):kW->Prop
 |.any=>True
 |.exact=>cap=len
 |.tok a e=>a=b/\e=off+len*kk
inductive V(k:ao):Value->AV->Prop
 |lit (v:Value):V k v (.lit v)
 |cu (v:Value):V k v .cu
 |agg (c:aaS) (l:List AV):c.size=l.length->(∀(i:Nat) v a,c[i]?=some v->l[i]?=some a->V k v a)->V k (.agg c) (.agg l)
 |cH (c:aaS) (l:List AV):c.size=l.length->(∀(i:Nat) v a,c[i]?=some v->l[i]?=some a->V k v a)->V k (.tuple c) (.cH l)
 | sl (b off cap kk N:Nat) (E:TypeId) (es:List AV) (sp:kW) (c:Nat->Value):es.length<=cap->k.sh b=some (E,N)->off+cap*kk<=N->(∀e∈es,e.cells.length=kk) ->
    (∀j,j<(flatten es).length->k.cell b (off+j)=some (c j)/\flat (c j)=true)->(∀(j:Nat) a,(flatten es)[j]?=some a->V k (c j) a)->sp.fits b off es.length kk cap ->
    V k (.slice (some ⟨b,off,none⟩) es.length cap) (.sl kk es sp)
 |slnil (a:Option Addr) (kk:Nat) (sp:kW):(sp=.any\/(sp=.exact/\a.isSome=true))->V k (.slice a 0 0) (.sl kk [] sp)
 | cp (b base off N:Nat) (E:TypeId) (v:AV) (c:Nat->Value):k.sh b=some (E,N)->base+v.cells.length<=N->(∀j,j<v.cells.length->k.cell b (base+j)=some (c j)/\flat (c j)=true)->(∀(j:Nat) a,v.cells[j]?=some a->V k (c j) a) ->
    V k (.pointer (some ⟨b,base+off,none⟩)) (.cp v off)
 | kp (b off N:Nat) (E:TypeId) (l:List AV) (hole:abf) (c:Nat->Value):k.sh b=some (E,N)->l.length<=N->(∀j,j<l.length->j∉hole->k.cell b j=some (c j)/\flat (c j)=true)->(∀(j:Nat) a,j∉hole->l[j]?=some a->V k (c j) a) ->
    V k (.pointer (some ⟨b,off,none⟩)) (.kp b l hole off)
 |ref (b off:Nat):V k (.pointer (some ⟨b,off,none⟩)) (.ref b off)
 |gq (b off len cap:Nat):V k (.slice (some ⟨b,off,none⟩) len cap) (.gq b off len cap)
 | fn (f:Fn) (c1 c2:aaS) (l1 l2:List AV):c1.size=l1.length->(∀(i:Nat) v a,c1[i]?=some v->l1[i]?=some a->V k v a)->c2.size=l2.length->(∀(i:Nat) v a,c2[i]?=some v->l2[i]?=some a->V k v a) ->
    V k (.func f c1 c2) (.fn f l1 l2)
 |kz (t:TypeId) (v:Value) (a:AV):V k v a->V k (.iface t v) (.kz t a)
 |map (b:Nat):V k (.map (some b)) (.map b)
 |chan (b:Nat):V k (.chan (some b)) (.chan b)
def V.mono{k k'}(i:k.Le k'){v a}(h:V k v a):V k' v a:=by
 induction h with
 |lit v=>exact .lit v
 |cu v=>exact .cu v
 |agg c l d _ e=>exact .agg c l d e
 |cH c l d _ e=>exact .cH c l d e
 |sl b off cap m N E es sp c d u n w r _ x e=>exact .sl b off cap m N E es sp c d (i.sh _ _ u) n w (λj g=>⟨i.cell _ _ _ (r j g).1,(r j g).2⟩) e x
 |slnil a m sp h=>exact .slnil a m sp h
 |cp b base off N E v c o hb d _ e=>exact .cp b base off N E v c (i.sh _ _ o) hb (λj g=>⟨i.cell _ _ _ (d j g).1,(d j g).2⟩) e
 |kp b off N E l hole c o hb d _ e=>exact .kp b off N E l hole c (i.sh _ _ o) hb (λj g s=>⟨i.cell _ _ _ (d j g s).1,(d j g s).2⟩) e
 |ref b off=>exact .ref b off
 |gq b off len cap=>exact .gq b off len cap
 |fn f y z A B d _ n _ p q=>exact .fn f y z A B d p n q
 |kz t v a _ e=>exact .kz t v a e
 |map b=>exact .map b
 |chan b=>exact .chan b
def Vs(k:ao)(c:List Value)(l:List AV):Prop:=c.length=l.length/\∀(i:Nat) v a,c[i]?=some v->l[i]?=some a->V k v a
def Vs.nil{k}:Vs k [] []:=⟨rfl,λi v a h=>by simp at h⟩
def Vs.cons{k v a c l}(h:V k v a)(b:Vs k c l):Vs k (v::c) (a::l):=
 ⟨by simp[b.1],λi f g d e=>by
   cases i with
   |zero=>simp_all
   |succ i=>simp at d e;exact b.2 i f g d e⟩
def Vs.mono{k k'}(b:k.Le k'){c l}(h:Vs k c l):Vs k' c l:=⟨h.1,λi v a d e=>(h.2 i v a d e).mono b⟩
def Vs.append{k c c' l e}(h:Vs k c l)(f:Vs k c' e):Vs k (c++c') (l++e):=
 ⟨by simp[h.1,f.1],λi v a b d=>by
   by_cases g:i<c.length
   . rw[Zn g]at b
     rw[Zn (by rw[<-h.1];exact g)]at d;exact h.2 i v a b d
   rw[YR (by omega)]at b;rw[YR (by rw[<-h.1];omega),<-h.1]at d;exact f.2 _ v a b d⟩
abbrev Env:=Nat->AV
def Env.upd(env:Env)(t:Nat)(v:AV):Env:=λu=>if u=t then v else env u
def eV(k:ao)(tmps:aaS)(env:Env):Prop:=∀t,t<tmps.size->V k (tmps.getD t undef) (env t)
def eV.mono{k k' tmps env}(h:eV k tmps env)(a:k.Le k'):eV k' tmps env:=λt b=>(h t b).mono a
structure Bs where
 state:LoopState
 pending:Option Code
 fn:FuncId
 n:Nat
 env:Env
 params:Array Tmp
 assign:Code
 body:Code
 defers:Nat
inductive sT where
 |cells (l:List AV)
 |tail (n:Nat)
 |part (f:Nat->aaR)
 |map (m:List (AV × AV))
 |loop (l:Bs)
 |raw (o:Obj)
 |gu
 |stay (l:List AV)
abbrev ab:=Nat->Option sT
def ab.set(σ:ab)(b:Nat)(x:sT):ab:=λc=>if c=b then some x else σ c
def ab.del(σ:ab)(b:Nat):ab:=λc=>if c=b then none else σ c
def ab.Le(σ σ':ab):Prop:=∀b x,σ b=some x->σ' b=some x
inductive jY(k:ao):Own->sT->Prop
 |cells (c:aaS) (e:TypeId) (l:List AV):c.size=l.length->(∀(i:Nat) v a,c[i]?=some v->l[i]?=some a->V k v a)->(∀(i:Nat) v,c[i]?=some v->flat v=true)->jY k (.obj (.cells c e (0,0))) (.cells l)
 |tail (n:Nat):jY k (.tail n) (.tail n)
 |part (f:Nat->aaR):jY k (.part f) (.part f)
 |map (es:Array MapEntry) (clock:Nat) (m:List (AV × AV)):es.size=m.length->(∀(i:Nat) e p,es[i]?=some e->m[i]?=some p->V k e.key p.1/\V k e.val p.2)->jY k (.obj (.map es clock)) (.map m)
 |loop (a:Bs) (tmps:aaS):tmps.size=a.n->eV k tmps a.env->jY k (.obj (.loop ⟨a.state,a.pending,a.fn,tmps,a.params,a.assign,a.body,a.defers⟩)) (.loop a)
 |raw (o:Obj):iz o=false->jY k (.obj o) (.raw o)
def jY.mono{k k'}(g:k.Le k'){x a}(h:jY k x a):jY k' x a:=by
 cases h with
 |cells c e l d b r=>exact .cells c e l d (λi v a s t=>(b i v a s t).mono g) r
 |tail n=>exact .tail n
 |part f=>exact .part f
 |map es clock m d b=>exact .map es clock m d λi e p j q=>⟨(b i e p j q).1.mono g,(b i e p j q).2.mono g⟩
 |loop a tmps d b=>exact .loop a tmps d (b.mono g)
 |raw o h=>exact .raw o h
@[simp] def sT.gone:sT->Bool
  |.gu=>true
  |.stay _=>true
  |_=>false
def RA(k:ao)(b:Nat)(l:List AV):Prop:=∀(i:Nat) a,l[i]?=some a->∃v,k.cell b i=some v/\V k v a/\flat v=true
def Rel(k:ao)(O:ai)(σ:ab):Prop:=(∀b a,σ b=some a->a.gone=false->∃x,O b=some x/\jY k x a)/\∀b a,σ b=some a->a.gone=true->O b=none/\(∃s,k.sh b=some s)/\∀l,a=.stay l->RA k b l
def Rel.mono{k k' O σ}(h:Rel k O σ)(c:k.Le k'):Rel k' O σ:=⟨λb a e n=>let ⟨x,d,f⟩:=h.1 b a e n;⟨x,d,f.mono c⟩,λb a e n=>let ⟨d,⟨s,f⟩,g⟩:=h.2 b a e n;⟨d,⟨s,c.sh _ _ f⟩,λl q i x j=>let ⟨v,m,o,p⟩:=g l q i x j;⟨v,c.cell _ _ _ m,o.mono c,p⟩⟩⟩
def Rel.le{k O σ σ'}(h:Rel k O σ)(c:σ'.Le σ):Rel k O σ':=⟨λb a e=>h.1 b a (c b a e),λb a e=>h.2 b a (c b a e)⟩
def jY.IQ{k x a}(h:jY k x a):a.gone=false:=by cases h<;>rfl
def Rel.set{k O σ}(h:Rel k O σ){b x a}(j:jY k x a):Rel k (O.set b x) (σ.set b a):=⟨λc y e f=>by
 by_cases d:c=b
 . subst d
   simp only[ab.set,YD,kn]at e;subst e;exact⟨x,by simp[ai.set],j⟩
 . simp only[ab.set,d,Rp]at e
   obtain⟨z,g,i⟩:=h.1 c y e f;exact⟨z,by simp[ai.set,d,g],i⟩,λc y e f=>by
 by_cases d:c=b
 . subst d
   simp only[ab.set,YD,kn]at e;subst e;rw[j.IQ]at f;cases f
 simp only[ab.set,d,Rp]at e;obtain⟨g,i⟩:=h.2 c y e f;exact⟨by simp[ai.set,d,g],i⟩⟩
def Rel.drop{k O σ}(h:Rel k O σ)  b   x :Rel k (O.set b x) (σ.del b):=⟨λc y e d=>by
 unfold ab.del at e;split at e
 . cases e
 . next a=>obtain⟨z,f,g⟩:=h.1 c y e d;exact⟨z,by simp[ai.set,a,f],g⟩,λc y e d=>by
 unfold ab.del at e;split at e
 . cases e
 next a=>
 obtain⟨f,g⟩:=h.2 c y e d;exact⟨by simp[ai.set,a,f],g⟩⟩
def Rel.isNone{k O σ}(h:Rel k O σ){b}(hb:O b=none)(d:k.sh b=none):σ b=none:=by
 cases e:σ b with
 |none=>rfl
 | some a=>
   cases c:a.gone with
   | true=>
     obtain⟨_,⟨s,f⟩,_⟩:=h.2 b a e c
     simp_all
   |false=>obtain⟨x,g,_⟩:=h.1 b a e c;simp_all
def eV.upd{k tmps env}(h:eV k tmps env){t v a}(c:V k v a):eV k (tmps.setIfInBounds t v) (env.upd t a):=λu d=>by
 have b:u<tmps.size:=by simp_all
 by_cases e:u=t
 . subst e
   have:(tmps.setIfInBounds u v).getD u undef=v:=by simp_all
   rw[this];simpa[Env.upd]using c
 have:(tmps.setIfInBounds t v).getD u undef=tmps.getD u undef:=by
  simp only[aak]
  grind
 rw[this];simpa[Env.upd,e]using h u b
def ak(env:Env):abn->AV
 |.tmp t=>env t
 |.const v=>.lit v
 |.global g=>.ref g 0
 |.func f=>.fn (.func f) [] []
def Operand.ok(n:Nat):abn->Bool
 |.tmp t=>t<n
 |_=>true
def V.eval{k}{fr:Frame}{env}(h:eV k fr.tmps env){n}(b:fr.tmps.size=n)  o  (c:Operand.ok n o=true):V k (fr.eval o) (ak env o):=by
 cases o with
 |tmp t=>exact h t (by simpa[Operand.ok,b]using c)
 |const v=>exact .lit v
 |global g=>exact .ref g 0
 |func f=>exact .fn _ _ _ _ _ rfl (λi v a h=>by simp at h) rfl (λi v a h=>by simp at h)
inductive ye where
 |mark (r:Nat)
 |call (f:Fn) (captured args:List AV)
def sU(k:ao)(d:Deferred):ye->Prop
 |.mark r=>d={target:=.collected r,args:=#[]}
 |.call f cap args=>∃a b,d={target:=.fn f a,args:=b}/\Vs k a.toList cap/\Vs k b.toList args
def yC(k:ao):List Deferred->List ye->Prop
 |[],[]=>True
 |d::ds,a::D=>sU k d a/\yC k ds D
 |_,_=>False
def sU.mono{k k'}(b:k.Le k'){d a}(h:sU k d a):sU k' d a:=by
 cases a with
 |mark r=>exact h
 |call f cap args=>obtain⟨c,e,g,i,j⟩:=h;exact⟨c,e,g,i.mono b,j.mono b⟩
def yC.mono{k k'}(a:k.Le k'):∀{ds D},yC k ds D->yC k' ds D
 |[],[],h=>h
 |_::_,_::_,h=>⟨h.1.mono a,h.2.mono a⟩
 |[],_::_,h=>h.elim
 |_::_,[],h=>h.elim
inductive Rec where
 |no
 |can (v:AV)
 |did
 |told (kind:abi) (cs:aaY) (k0:ao)
structure St where
 env:Env
 σ:ab
 D:List ye
 rc:Rec
def fy:Rec->aaY->aaY
 |.did,c::rest=>(match c.mode with|.panicking (e::a)=>{c with mode:=.panicking ({e with recovered:=true}::a)}|_=>c)::rest
 |_,cs=>cs
def zZ(k:ao)(kind:abi)(cs:aaY):Rec->Prop
 |.can v=>kind=.deferred/\∃c rest b,cs=c::rest/\c.mode=.panicking [⟨b,false,false⟩]/\V k b v
 |.told kd a d=>kind=kd/\cs=a/\d.Le k
 |_=>True
def zZ.mono{k k'}(a:k.Le k'){kind cs r}(h:zZ k kind cs r):zZ k' kind cs r:=by
 cases r with
 |can v=>obtain⟨b,c,rest,d,e,f,g⟩:=h;exact⟨b,c,rest,d,e,f,g.mono a⟩
 |told kd i j=>exact⟨h.1,h.2.1,h.2.2.trans a⟩
 |_=>exact h
inductive Exit where
 |leave (jump:Option Code)
 |panic (v:AV)
def Leaves(todo:abb)(a:Option Code):Prop:=(todo=[]/\a=none)\/(∃k,todo=.code .ret::k/\a=some .ret)\/(∃id k,todo=.code (.exit id)::k/\exitTo id k=none/\a=some (.exit id))
structure Bt  n   k   O  (tmps:aaS)  defs   kind   cs  (s:St):Prop where
 size:tmps.size=n
 env:eV k tmps s.env
 rel:Rel k O s.σ
 ds:yC k defs s.D
 rc:zZ k kind cs s.rc
structure vD  P   m   Q  (fid n:Nat)  ro   kind   cs  (K:Exit->St->Prop) (k:ao):Prop where
 leave:∀k' O' tmps defs s todo jump,k.Le k'->Bt n k' O' tmps defs kind cs s->Leaves todo jump->K (.leave jump) s->T P m Q k' O' (G ⟨fid,tmps,todo,defs,.run,kind,ro⟩ (fy s.rc cs))
 panic:∀k' O' tmps defs s todo cv av,k.Le k'->Bt n k' O' tmps defs kind cs s->V k' cv av->K (.panic av) s->T P m Q k' O' (G ⟨fid,tmps,todo,defs,.panicking [⟨cv,false,false⟩],kind,ro⟩ (fy s.rc cs))
def vD.mono{P m Q fid n ro kind cs K k k'}(b:k.Le k')
 (h:vD P m Q fid n ro kind cs K k):vD P m Q fid n ro kind cs K k':=
 ⟨λ_ _ _ _ _ _ _ a=>h.leave _ _ _ _ _ _ _ (b.trans a),λ_ _ _ _ _ _ _ _ a=>h.panic _ _ _ _ _ _ _ _ (b.trans a)⟩
def Go(P:abm)(m:Mo)(fid n:Nat)(ro:aaX)(todo:abb)(s:St)(K:Exit->St->Prop):Prop:=∀Q k O tmps defs kind cs,kind≠.early->Bt n k O tmps defs kind cs s->vD P m Q fid n ro kind cs K k->T P m Q k O (G ⟨fid,tmps,todo,defs,.run,kind,ro⟩ (fy s.rc cs))
inductive mC where
 |val (v:AV)
 |panic (v:AV)
def kK(c:Frame):Frame:=
 match c.mode with
 | .panicking ({recovered:=true,..}::a)=>
   match a.dropWhile (!·.goexit)with
   |[]=>{c with mode:=.returning}
   |rest=>{c with mode:=.panicking rest}
 |_=>c
def jG(kind:abi)(c:Frame)(rest:aaY)(v:Value):abd:=
 match kind with
 |.normal|.wrapped=>G (c.finish v) rest
 |_=>G (kK c) rest
def aB(P:abm)(m:Mo)(f:FuncId)(args:List AV)(σ:ab)(i:mC->ab->Prop):Prop:=
 ∀ Q k O a c rest kind,kind≠.early->Vs k a args->Rel k O σ ->
   (∀d e g h b,k.Le d->V d g h->Rel d e b->i (.val h) b->T P m Q d e (jG kind c rest g)) ->
   (∀d e g h b,k.Le d->V d g h->Rel d e b->i (.panic h) b->T P m Q d e (G (c.raise [⟨g,false,false⟩]) rest)) ->
   T P m Q k O (G (Frame.enter P f a.toArray kind) (c::rest))
def z5(P:abm)(m:Mo)(Q:aaG)(k:ao)(O:ai)(fr:Frame)(cs:aaY)(s:Sem Next):Prop:=∀w,Sat k O w->∃g' a es b c,stepG.apply P true fr cs none s w=.go g' a es/\Eff k O w b c a es.toList/\Sat b c a/\T P m Q b c g'
def cX(P:abm)(m:Mo)(i:AV)(args:List AV)(σ:ab)(h:mC->ab->Prop):Prop:=
 ∀ Q k O cf a fr cs,V k cf i->Vs k a args->Rel k O σ->fr.mode=.run->fr.kind≠.early->(∀d w r s l,fr.todo≠.call d w r s::l) ->
   (∀c e f g b,k.Le c->V c f g->Rel c e b->h (.val g) b->T P m Q c e (G (fr.finish f) cs)) ->
   (∀c e f g b,k.Le c->V c f g->Rel c e b->h (.panic g) b->T P m Q c e (G (fr.raise [⟨f,false,false⟩]) cs)) ->
   z5 P m Q k O fr cs (do let d <-Deferred.ofValue cf a.toArray;invoke d.target d.args)
section
variable{P:abm}{m:Mo}{Q:aaG}{k:ao}{O:ai}{g g':abd}
def T.cZ(a:g.status=.running)(b:∀w,stepG P m.main g w=.go g' w #[])(h:T P m Q k O g'):T P m Q k O g:=
 .step (λc d x=>c=k/\d=O/\x=g') a (λ_ _ _ ⟨f,i,j⟩=>by simp_all)
  λw e=>⟨g',w,#[],k,O,b w,.refl ..,e,rfl,rfl,rfl⟩
def T.ns{fr cs s}(d:∀w,stepG P m.main (G fr cs) w=stepG.apply P true fr cs none s w)(h:z5 P m Q k O fr cs s):T P m Q k O (G fr cs):=
 .step (λa b x=>T P m Q a b x) rfl (λ_ _ _ h=>h) λw c=>by
  obtain⟨g',e,es,a,b,f,g,i,j⟩:=h w c
  grind
end
section
variable{P:abm}{m:Mo}{fid n:Nat}{ro:aaX}{s:St}{K:Exit->St->Prop}{k:abb}
def Go.cZ{todo a}(b:∀tmps defs kind cs w,stepG P m.main (G ⟨fid,tmps,todo,defs,.run,kind,ro⟩ cs) w=.go (G ⟨fid,tmps,a,defs,.run,kind,ro⟩ cs) w #[])
 (h:Go P m fid n ro a s K):Go P m fid n ro todo s K:=λQ k O tmps defs kind cs c d e=>T.cZ rfl (λw=>b ..) (h Q k O tmps defs kind cs c d e)
def Go.skip(h:Go P m fid n ro k s K):Go P m fid n ro (.code .skip::k) s K:=.cZ (λ_ _ _ _ _=>by simp[G,stepG,stepG.exec]) h
def Go.label{l}(h:Go P m fid n ro k s K):Go P m fid n ro (.code (.label l)::k) s K:=.cZ (λ_ _ _ _ _=>by simp[G,stepG,stepG.exec]) h
def Go.inBlock{id}(h:Go P m fid n ro k s K):Go P m fid n ro (.inBlock id::k) s K:=.cZ (λ_ _ _ _ _=>by simp[G,stepG,stepG.exec]) h
def Go.inScope{c}(h:Go P m fid n ro k s K):Go P m fid n ro (.inScope c::k) s K:=.cZ (λ_ _ _ _ _=>by simp[G,stepG,stepG.exec]) h
def Go.seq{a b}(h:Go P m fid n ro (.code a::.code b::k) s K):Go P m fid n ro (.code (.seq a b)::k) s K:=.cZ (λ_ _ _ _ _=>by simp[G,stepG,stepG.exec]) h
def Go.block{id c}(h:Go P m fid n ro (.code c::.inBlock id::k) s K):Go P m fid n ro (.code (.block id c)::k) s K:=.cZ (λ_ _ _ _ _=>by simp[G,stepG,stepG.exec]) h
def Go.scope{c}(h:Go P m fid n ro (.code c::.inScope c::k) s K):Go P m fid n ro (.code (.scope c)::k) s K:=.cZ (λ_ _ _ _ _=>by simp[G,stepG,stepG.exec]) h
def Go.inLoop{c}(h:Go P m fid n ro (.code c::.inLoop c::k) s K):Go P m fid n ro (.inLoop c::k) s K:=.cZ (λ_ _ _ _ _=>by simp[G,stepG,stepG.exec]) h
def Go.OK{c}(h:Go P m fid n ro (.code c::.inLoop c::k) s K):Go P m fid n ro (.code (.loop c)::k) s K:=.cZ (λ_ _ _ _ _=>by simp[G,stepG,stepG.exec]) h
def Go.exit{id k'}(a:exitTo id k=some k')(h:Go P m fid n ro k' s K):Go P m fid n ro (.code (.exit id)::k) s K:=.cZ (λ_ _ _ _ _=>by simp[G,stepG,stepG.exec,a]) h
def Go.region{id ops}(h:Go P m fid n ro (.inRegion ops (List.range ops.size)::k) s K):Go P m fid n ro (.code (.region id ops false)::k) s K:=.cZ (λ_ _ _ _ _=>by simp[G,stepG,stepG.exec]) h
def Go.yD{ops}(h:Go P m fid n ro k s K):Go P m fid n ro (.inRegion ops []::k) s K:=.cZ (λ_ _ _ _ _=>by simp[G,stepG,stepG.exec]) h
def Go.cond{c a b x}(f:ak s.env c=.lit (.bool x))(g:Operand.ok n c=true)(h:Go P m fid n ro (.code (if x then a else b)::k) s K):Go P m fid n ro (.code (.cond c a b)::k) s K:=
 λQ k O tmps defs kind cs i d j=>by
  have e:=V.eval (fr:=⟨fid,tmps,.code (.cond c a b)::‹_›,defs,.run,kind,ro⟩) d.env d.size c g;rw[f]at e;generalize l:Frame.eval _ c=v at e;cases e;refine T.cZ rfl (λw=>?_) (h Q k O tmps defs kind cs i d j);simp[G,stepG,stepG.exec,l]
def Go.leave{todo a}(b:Leaves todo a)(h:K (.leave a) s):Go P m fid n ro todo s K:=λ_ _ _ _ _ _ _ _ c d=>d.leave _ _ _ _ _ _ _ (.refl _) c b h
def Go.loop{c}(I:Nat->St->Prop)  a  (f:I a s)
 (g:∀e a s,I a s->(∀a' s',a'<a->I a' s'->Go P m fid n ro (.inLoop e::k) s' K)->Go P m fid n ro (.code c::.inLoop e::k) s K):Go P m fid n ro (.code (.loop c)::k) s K:=by
 have key:∀b a s,a<b->I a s->Go P m fid n ro (.code c::.inLoop c::k) s K:=by
  intro b;induction b with
  |zero=>omega
  |succ b h=>exact λa s i j=>g c a s j λa' s' l d=>.inLoop (h a' s' (by omega) d)
 exact .OK (key (a+1) a s (by omega) f)
end
inductive AK where
 |bool|int (k:IntKind)|string|pointer (e:Nat)|slice (e:Nat)|array (n e:Nat)|map (k e:Nat)|chan (e:Nat)|struct|func|iface|other
 deriving DecidableEq
structure TI where
 kind:AK
 size:Nat
 bytes:Nat
 zero:Value
 jx:List (Nat × Nat × Nat)
def TI.agg(i:TI):Bool:=match i.kind with|.struct=>true|.array _ _=>true|_=>false
def dv(P:abm)(i:TI):TypeDesc->Bool
 |.bool=>i.kind==.bool
 |.int k=>i.kind==.int k
 |.string=>i.kind==.string
 |.pointer e=>i.kind==.pointer e
 |.slice e=>i.kind==.slice e
 |.array n e=>i.kind==.array n e
 |.map k e=>i.kind==.map k e
 |.chan _ e=>i.kind==.chan e
 |.struct fs=>i.kind==.struct && (fs.toList.map λf=>(f.offset,(P.info? f.type).map (·.size),f.type))==(i.jx.map λx=>(x.1,some x.2.1,x.2.2))
 |.func _ _ _=>i.kind==.func
 |.interface _=>i.kind==.iface
 |_=>i.kind==.other
def M4:Value->Value->Bool
 |.bool a,.bool b=>a==b
 |.int k a,.int l b=>k==l && a==b
 |.string a,.string b=>a.data.toList==b.data.toList
 |.pointer none,.pointer none=>true
 |.slice none a b,.slice none c d=>a==c && b==d
 |.map none,.map none=>true
 |.chan none,.chan none=>true
 |.nilFunc,.nilFunc=>true
 |.nilIface,.nilIface=>true
 |_,_=>false
def DC:List Value->List Value->Bool
 |[],[]=>true
 |a::l,b::r=>M4 a b && DC l r
 |_,_=>false
def Uf:Value->Value->Bool
 |.agg a,.agg b=>DC a.toList b.toList
 |.tuple a,.tuple b=>DC a.toList b.toList
 |a,b=>M4 a b
def Fs{a b}(h:M4 a b=true):a=b:=by
 unfold M4 at h;split at h<;>simp_all;rename_i a b;obtain⟨⟨a⟩⟩:=a
 simp_all
def z7:∀{a b},DC a b=true->a=b
 |[],[],_=>rfl
 |a::l,b::r,h=>by simp only[DC,za]at h;rw[Fs h.1,z7 h.2]
 |[],_::_,h=>by simp[DC]at h
 |_::_,[],h=>by simp[DC]at h
def Pu{a b}(h:Uf a b=true):a=b:=by
 unfold Uf at h;split at h
 . have:=z7 h;simp_all
 . have:=z7 h;simp_all
 exact Fs h
def TI.check(P:abm)(t:Nat)(i:TI):Bool:=
 match P.underlying t,P.info? t with
 |some d,some info=>dv P i d && info.size==i.size && info.bytes==i.bytes && (match info.zero with|some z=>Uf z i.zero|none=>false) && i.zero.cells.size==i.size
 |_,_=>false
structure iT  P  where
 tt:Nat->Option TI
 ok:∀t i,tt t=some i->i.check P t=true
 mixed:P.follows .mixedOrders=true
def iT.facts{P}(L:iT P){t i}(h:L.tt t=some i):(∃d,P.underlying t=some d/\dv P i d=true)/\∃info,P.info? t=some info/\info.size=i.size/\info.bytes=i.bytes/\info.zero=some i.zero/\i.zero.cells.size=i.size:=by
 have:=L.ok t i h;unfold TI.check at this;split at this
 . next d info g j=>
   simp only[za,ZJ]at this;obtain⟨⟨⟨⟨a,b⟩,c⟩,e⟩,f⟩:=this;refine⟨⟨d,g,a⟩,info,j,b,c,?_,f⟩;split at e
   . next z k=>rw[k,Pu e]
   cases e
 grind
section
variable{P:abm}(L:iT P){k:ao}{O:ai}{Kp:aaH}{t:Nat}{i:TI}
def ag{α a K}(h:K a k O):dD P (pure a:Sem α) k O K Kp:=h
def af{α β s}{f:α->Sem β}{K}(h:dD P s k O (λa k O=>dD P (f a) k O K Kp) Kp):dD P (s >>=f) k O K Kp:=IP s h
def bY{K}(h:K P k O):dD P program k O K Kp:=h
def aD{K}(b:L.tt t=some i)(h:∀d,P.underlying t=some d->dv P i d=true->K d k O):dD P (underlying t) k O K Kp:=by obtain⟨⟨d,a,c⟩,_⟩:=L.facts b;unfold underlying;refine af (bY ?_);rw[a];exact h d a c
def cN{K}(b:L.tt t=some i)(h:∀info,P.info? t=some info->info.size=i.size->info.bytes=i.bytes->info.zero=some i.zero->K info k O):dD P (typeInfo t) k O K Kp:=by obtain⟨_,info,a,c,d,e,_⟩:=L.facts b;unfold typeInfo;refine af (bY ?_);rw[a];exact h info a c d e
def bF{K}(a:L.tt t=some i)(h:K i.size k O):dD P (sizeOf t) k O K Kp:=by
 unfold sizeOf;refine af (cN L a λinfo _ b _ _=>?_);refine ag ?_
 simp_all
def cM{K}(a:L.tt t=some i)(h:K i.zero k O):dD P (zeroValue t) k O K Kp:=by
 unfold zeroValue;refine af (cN L a λinfo _ _ _ b=>?_);rw[b];exact h
def pL{K}(a:L.tt t=some i)(h:K i.agg k O):dD P (isAgg t) k O K Kp:=by
 unfold isAgg;refine af (aD L a λd _ hd=>?_);unfold TI.agg at h;cases d<;>simp only[dv,za,ZJ]at hd<;>first|(rw[hd]at h;exact h)|(rw[hd.1]at h;exact h)
def iU{α K z Kp l}(s:Sem α):∀{k O},dD P s k O K Kp->(∀a k O,K a k O->z a k O)->(∀a k O,Kp a k O->l a k O)->dD P s k O z l:=by
 induction s with
 |pure a=>intro k O h b d;exact b _ _ _ h
 |load m a g f=>intro k O h b d;obtain⟨i,v,j,p⟩:=h;exact⟨i,v,j,f v p b d⟩
 | store m a v g f=>
   intro k O h b d;obtain⟨i,j,p,A⟩:=h;refine⟨i,j,p,?_⟩;rcases A with⟨c,e,u,w,y⟩|⟨e,N,u,w,y,C⟩|⟨D,E,u,w,y⟩
   . exact .inl ⟨c,e,u,w,f y b d⟩
   . grind
   simp_all
 |new o g f=>intro k O h b d;exact⟨h.1,λr B=>f r (h.2 r B) b d⟩
 |shape r g f=>intro k O h b d;obtain⟨s,i,j⟩:=h;exact⟨s,i,f s j b d⟩
 |freeze a n g f=>intro k O h b d;exact h.elim
 |frozen a g f=>intro k O h b d;exact⟨h.1,f false h.2 b d⟩
 |getObj r g f=>intro k O h b d;obtain⟨o,i,j,p⟩:=h;exact⟨o,i,j,f o p b d⟩
 |setObj r o g f=>intro k O h b d;exact⟨h.1,h.2.1,f h.2.2 b d⟩
 |choose q g f=>intro k O h b d t;exact f _ (h t) b d
 |sys c g f=>intro k O h b d;exact h.elim
 |program g f=>intro k O h b d;exact f P h b d
 |mark m g f=>intro k O h b d;exact⟨h.1,f h.2 b d⟩
 | halt x=>intro k O h b d;cases x with
   |panic v=>exact d _ _ _ h
   |_=>exact h
end
def lQ(k:ao)(O:ai)(R:ao->ai->Prop):Prop:=∃a b,km k O a b/\R a b
def km.refl  k   O :km k O k O:=λw h=>⟨h,.refl k O w⟩
def km.trans{k e f O g i}(h:km k O e g)(j:km e g f i):km k O f i:=λw l=>let ⟨a,b⟩:=h w l;let ⟨c,d⟩:=j w a;⟨c,by simpa using b.trans d⟩
def lQ.here{k O R}(h:R k O):lQ k O R:=⟨k,O,.refl k O,h⟩
def aJ(P:abm)(o:Oper)(env:Env)(σ:ab)(K:AV->ab->Prop)(Kp:AV->ab->Prop):Prop:=
 ∀ k O (f:abn->Value),(∀x∈o.op.operands,V k (f x) (ak env x))->Rel k O σ ->
   dD P (execOp f o) k O (λnx c d=>∃v,(nx=.value v\/(nx=.skip/\v=undef))/\lQ c d λe g=>k.Le e/\∃a b,V e v a/\Rel e g b/\K a b)
    (λv c d=>k.Le c/\∃a b,V c v a/\Rel c d b/\Kp a b)
def Oper.ok(n:Nat)(o:Oper):Bool:=o.op.operands.all (Operand.ok n) && (match o.dst with|some d=>decide (d<n)|none=>true)
def bd(env:Env)(dst:aaZ)(v:AV):Env:=match dst with|some d=>env.upd d v|none=>env
def vE{P fn es e}(h:e∈seen P fn es):e∈es:=by
 unfold seen at h
 have key:∀(l:List Event) (q:Bool) (acc:aaU),e∈(l.foldl (init:=(q,acc)) λ(q,kept) e=>
  match e.loc with
  |.mark (.extern f)=>((P.funcs[f]?).any (·.norace),kept)
  |_=>(q,if q && !e.sync then kept else kept.push e)).2->e∈acc\/e∈l:=by
  intro l;induction l with
  |nil=>simp_all
  | cons x l b=>
    intro q acc h;simp only[Zr]at h;rcases b _ _ h with a|a
    . split at a
      . grind
      simp only at a;split at a
      . grind
      grind
    simp_all
 dsimp only at h;rw[<-Array.foldl_toList]at h;rcases key es.toList _ #[] h with h|h
 . simp at h
 simp_all
def Eff.sub{k O w k' O' w' l b}(h:Eff k O w k' O' w' l)(c:∀e∈b,e∈l):Eff k O w k' O' w' b:=⟨h.le,h.size,h.keep,h.tail,h.part,h.shape,h.own,h.cell,h.sh,λe a=>h.evs e (c e a),h.tape,h.output,h.os,λe a=>h.low e (c e a),h.tok⟩
def dF{P m Q k O fr cs s}
 (h:dD P s k O
   (fun nx k' O'=>k.Le k'->match nx with
     |.value v=>T P m Q k' O' (G (fr.finish v) cs)
     |.skip=>T P m Q k' O' (G (fr.finish undef) cs)
     |.enter f args=>(∀d w r s l,fr.todo≠.call d w r s::l)/\T P m Q k' O' (G (Frame.enter P f args .normal) (fr::cs))
     |.round l f tmps assign body=>T P m Q k' O' (G (Frame.round l f tmps assign body .normal) (fr::cs))
     |.defer d=>T P m Q k' O' (G ({fr with defers:=d::fr.defers}.finish undef) cs)
     |_=>False)
   (λv k' O'=>k.Le k'->T P m Q k' O' (G (fr.raise [⟨v,false,false⟩]) cs))):z5 P m Q k O fr cs s:=by
 intro w q;obtain⟨k',O',c,l,i,n,x,t⟩:=sS s #[] h q;have a:∀(es:aaU),(∀e∈es,e∈(s.runT P w #[]).2)->∀e∈es.toList,e∈l:=λes u e p=>by grind
 have o:∀(b:Bool) (es:aaU),∀e∈seen P fr.fn (if b then #[]else es),e∈es:=λb es e p=>by
  have:=vE p
  simp_all
 rcases t with⟨nx,j,g⟩|⟨v,j,g⟩
 . have g:=g i.le
   cases nx with
   |value v=>exact⟨_,c,_,k',O',by simp only[stepG.apply,YD];rw[show(s.runT P w #[]).1=.ok (.value v) c from j];rfl,i.sub (a _ (by simpa using o (fr.kind==.early) (s.runT P w #[]).2)),n,g⟩
   |skip=>exact⟨_,c,_,k',O',by simp only[stepG.apply,YD];rw[show(s.runT P w #[]).1=.ok .skip c from j];rfl,i.sub (a _ (by simpa using o (fr.kind==.early) (s.runT P w #[]).2)),n,g⟩
   | enter f args=>
     refine⟨_,c,seen P fr.fn (if fr.kind==.early then #[]else(s.runT P w #[]).2),k',O',?_,i.sub (a _ (by simpa using o (fr.kind==.early) (s.runT P w #[]).2)),n,g.2⟩;obtain⟨fn,tmps,todo,defs,mode,kind,ro⟩:=fr;simp only[stepG.apply,YD];rw[show(s.runT P w #[]).1=.ok (.enter f args) c from j];cases todo with
     |nil=>rfl
     | cons it l=>cases it with
       |call d w r s=>grind
       |_=>rfl
   |round l f tmps assign body=>exact⟨_,c,_,k',O',by simp only[stepG.apply,YD];rw[show(s.runT P w #[]).1=.ok (.round l f tmps assign body) c from j];rfl,i.sub (a _ (by simpa using o (fr.kind==.early) (s.runT P w #[]).2)),n,g⟩
   |defer d=>exact⟨_,c,_,k',O',by simp only[stepG.apply,YD];rw[show(s.runT P w #[]).1=.ok (.defer d) c from j];rfl,i.sub (a _ (by simpa using o (fr.kind==.early) (s.runT P w #[]).2)),n,g⟩
   |_=>exact g.elim
 exact⟨_,c,_,k',O',by simp only[stepG.apply,YD];rw[show(s.runT P w #[]).1=.halt (.panic v) c from j];rfl,i.sub (a _ (by simpa using o (fr.kind==.early) (s.runT P w #[]).2)),n,g i.le⟩
def Bt.put{n k k' O O' fid tmps defs kind ro cs s σ' ops i rest o kk v a}
 (h:Bt n k O tmps defs kind cs s) (c:k.Le k') (e:ops[i]?=some o) (g:V k' v a) (f:Rel k' O' σ'):
 ∃ b,Frame.finish ⟨fid,tmps,.inRegion ops (i::rest)::kk,defs,.run,kind,ro⟩ v=⟨fid,b,.inRegion ops rest::kk,defs,.run,kind,ro⟩/\
   Bt n k' O' b defs kind cs {s with env:=bd s.env o.dst a,σ:=σ'}:=by
 cases hd:o.dst with
 |none=>refine⟨tmps,?_,⟨h.size,h.env.mono c,f,h.ds.mono c,h.rc.mono c⟩⟩;simp[Frame.finish,e,hd]
 | some d=>
   refine⟨tmps.setIfInBounds d v,?_,⟨by simp[h.size],(h.env.mono c).upd g,f,h.ds.mono c,h.rc.mono c⟩⟩;simp[Frame.finish,e,hd]
section
variable{P:abm}{m:Mo}{fid n:Nat}{ro:aaX}{s:St}{K:Exit->St->Prop}{k:abb}
def RB:Value->Bool->Prop
 |.bool x,b=>x≠b
 |.tuple _,_=>True
 |_,_=>False
def Go.unwanted{ops i rest o j b x d}{p:Oper}(q:ops[i]?=some o)(r:o.guard=some (j,b))(hj:ops[j]?=some p)(hd:p.dst=some d)(e:d<n)
 (t:s.env d=.lit x) (g:RB x b) (h:Go P m fid n ro (.inRegion ops rest::k) {s with env:=bd s.env o.dst (.lit (.tuple #[]))} K):Go P m fid n ro (.inRegion ops (i::rest)::k) s K:=
 fun Q kk O tmps defs kind cs u f y=>by
  obtain⟨c,D,z⟩:=f.put (fid:=fid) (ro:=ro) (rest:=rest) (kk:=k) (v:=undef) (a:=.lit (.tuple #[])) (.refl _) q (.lit _) f.rel;refine T.cZ rfl (λw=>?_) (h Q kk O c defs kind cs u z y);have l:=f.env d (by rw[f.size];exact e);rw[t]at l;generalize E:tmps.getD d undef=v at l;cases l
  have A:yielded ops tmps j≠some b:=by
   have:tmps[d]?=some x:=by
    have B:d<tmps.size:=by rw[f.size];exact e
    simp_all
   unfold RB at g;split at g
   . simpa[yielded,hj,hd,this]using g
   . simp[yielded,hj,hd,this]
   simp_all
  have C:((ops[i]?).map (Region.wanted · (yielded ops tmps))).getD false=false:=by simp[q,Region.wanted,r,A]
  simp only[G,stepG,stepG.exec,C]
  simp_all
def bT(ops:aaW)(n:Nat)(env:Env)(o:Oper):Prop:=
 match o.guard with
 |none=>True
 |some (j,b)=>∃a d,ops[j]?=some a/\a.dst=some d/\d<n/\env d=.lit (.bool b)
def gx{k tmps ops env o}(l:tmps.size=n)(c:eV k tmps env)(h:bT ops n env o):Region.wanted o (yielded ops tmps)=true:=by
 unfold bT at h;unfold Region.wanted;cases e:o.guard with
 |none=>rfl
 | some p=>
   obtain⟨j,b⟩:=p;simp only[e]at h;obtain⟨m,d,f,g,q,i⟩:=h;have a:=c d (by simp_all);rw[i]at a;generalize r:tmps.getD d undef=v at a;cases a;have:tmps[d]?=some (.bool b):=by simp_all
   simp[yielded,f,g,this]
def dH{ops i rest o tmps defs kind cs}(a:ops[i]?=some o)(b:Region.wanted o (yielded ops tmps)=true)
 (d:ro=none\/∀c,o.op≠.defer c)  w :
 stepG P m.main (G ⟨fid,tmps,.inRegion ops (i::rest)::k,defs,.run,kind,ro⟩ cs) w=
  stepG.apply P true ⟨fid,tmps,.inRegion ops (i::rest)::k,defs,.run,kind,ro⟩ cs none (execOp (Frame.eval ⟨fid,tmps,.inRegion ops (i::rest)::k,defs,.run,kind,ro⟩) o) w:=by
 simp only[G,stepG,stepG.exec,stepG.oper,Frame.oper?,a,b,YW,Zt,YD]
 grind
def Go.op{ops i rest o}(B:ops[i]?=some o)(F:bT ops n s.env o)(r:Oper.ok n o=true)(t:∀c,o.op≠.defer c)
 (h:aJ P o s.env s.σ (λa σ'=>Go P m fid n ro (.inRegion ops rest::k) {s with env:=bd s.env o.dst a,σ:=σ'} K) (λa σ'=>K (.panic a) {s with σ:=σ'})):
 Go P m fid n ro (.inRegion ops (i::rest)::k) s K:=λQ kk O tmps defs kind cs G d C=>by
 refine T.ns (λw=>dH B (gx d.size d.env F) (.inr t) w) (dF ?_)
 have g:∀x∈o.op.operands,V kk (Frame.eval ⟨fid,tmps,.inRegion ops (i::rest)::k,defs,.run,kind,ro⟩ x) (ak s.env x):=λx l=>by
  refine V.eval d.env d.size x ?_;simp only[Oper.ok,za,YK]at r
  simp_all
 refine iU _ (h kk O _ g d.rel) (λnx p q l u=>?_) (λv p q l u=>?_)
 . obtain⟨v,H,I,J,j,e,a,σ',y,z,A⟩:=l
   obtain⟨f,D,L⟩:=d.put (fid:=fid) (ro:=ro) (rest:=rest) (kk:=k) e B y z;have E:=A Q I J f defs kind cs G L (C.mono e);rcases H with rfl|⟨rfl,rfl⟩
   . show T P m Q p q _
     rw[D];exact .ghost j E
   show T P m Q p q _;rw[D];exact .ghost j E
 obtain⟨b,a,σ',y,z,A⟩:=l;exact C.panic p q tmps defs {s with σ:=σ'} _ v a b ⟨d.size,d.env.mono b,z,d.ds.mono b,d.rc.mono b⟩ y A
end
def ao.vF(k:ao)(r:Nat)(c:aaS)(n:Nat):ao:={k with cell:=λb j=>if b=r/\j<n then c[j]? else k.cell b j}
def ai.del(O:ai)(r:Nat):ai:=λb=>if b=r then none else O b
def DD  k   O   r  (m:∀f,O r≠some (.part f)):km k O k (O.del r):=λw h=>by
 have hd:∀b x,(O.del r) b=some x->O b=some x:=λb x e=>by unfold ai.del at e;simp_all
 have j:∀b i,aR (O.del r) b i->aR O b i:=λb i l=>by
  rcases l with⟨o,a⟩|⟨n,a,d⟩|⟨f,a,d⟩
  . exact .inl ⟨o,hd _ _ a⟩
  . exact .inr (.inl ⟨n,hd _ _ a,d⟩)
  exact .inr (.inr ⟨f,hd _ _ a,d⟩)
 exact⟨⟨λb i v e g=>h.apart b i v e (j b i g),h.cell,h.sh,λb o e=>h.obj b o (hd b _ e),λb n e=>h.tail b n (hd b _ e),λb f e=>h.part b f (hd b _ e)⟩,
  ⟨.refl k,YF _,λ_ _ _=>rfl,λ_ _ _ _ c _ h=>⟨c,h,rfl,λ_ _=>rfl⟩,λ_ _ _ _ c _ h=>⟨c,h,rfl,λ_ _=>rfl⟩,λ_ _=>rfl,λb x e=>.inl ⟨x,hd b x e,.refl x⟩,λ_ _ _ h=>.inl h,λ_ _ h=>.inl h,by simp,rfl,rfl,rfl,by simp,λb f hb=>⟨f,by unfold ai.del;grind⟩⟩⟩
def nu{k O r n c e}(l:O r=some (.obj (.cells c e (0,0))))(A:k.sh r=some (e,c.size)):km k O (k.vF r c n) (O.set r (.tail n)):=λw h=>by
 have y:=h.obj _ _ l
 have p:∀j,k.cell r j=none:=λj=>by
  cases q:k.cell r j with
  |none=>rfl
  |some v=>exact(h.apart _ _ _ q (.inl ⟨_,l⟩)).elim
 have s:k.Le (k.vF r c n):=⟨λb i v d=>by
  have:¬(b=r/\i<n):=λx=>by simp_all
  simpa[ao.vF,this]using d,λ_ _ h=>h⟩
 refine⟨⟨λb i v d z=>?_,λb i v d=>?_,h.sh,λb o hb=>?_,λb m hb=>?_,λb f hb=>?_⟩,⟨s,YF _,λ_ _ _=>rfl,λ_ _ _ _ c _ h=>⟨c,h,rfl,λ_ _=>rfl⟩,λ_ _ _ _ c _ h=>⟨c,h,rfl,λ_ _=>rfl⟩,λ_ _=>rfl,λb x t=>?_,λb i v d=>?_,λ_ _ h=>.inl h,by simp,rfl,rfl,rfl,by simp,λb f hb=>⟨f,by rw[show(O.set r (.tail n)) b=O b from by simp only[ai.set];grind];exact hb⟩⟩⟩
 . by_cases hb:b=r
   . subst hb
     rcases z with⟨o,g⟩|⟨m,g,B⟩|⟨f,g,B⟩
     . simp[ai.set]at g
     rotate_left
     . simp[ai.set]at g
     simp only[ai.set,YD,kn,Own.tail.injEq]at g;subst g;have:¬(i<n):=by omega
     simp only[ao.vF,this,and_false,Rp,p]at d;cases d
   have u:k.cell b i=some v:=by simpa[ao.vF,hb]using d
   exact h.apart b i v u (by simpa[aR,ai.set,hb]using z)
 . by_cases hb:b=r/\i<n
   . obtain⟨rfl,C⟩:=hb
     simp only[ao.vF,C,and_self,YD]at d;simp[World.cell?,y,d]
   exact h.cell b i v (by simpa only[ao.vF,hb,Rp]using d)
 . by_cases a:b=r
   . subst a;simp[ai.set]at hb
   exact h.obj b o (by simpa[ai.set,a]using hb)
 . by_cases a:b=r
   . subst a;exact⟨c,e,y,A⟩
   exact h.tail b m (by simpa[ai.set,a]using hb)
 . by_cases a:b=r
   . subst a;simp[ai.set]at hb
   exact h.part b f (by simpa[ai.set,a]using hb)
 . by_cases a:b=r
   . subst a
     simp only[ai.set,YD,kn]at t;subst t;exact .inl ⟨_,l,trivial⟩
   exact .inl ⟨x,by simpa[ai.set,a]using t,.refl x⟩
 by_cases hb:b=r/\i<n
 . obtain⟨rfl,_⟩:=hb
   exact .inr (.inl (.inl ⟨_,l⟩))
 exact .inl (by simpa only[ao.vF,hb,Rp]using d)
def ao.Le.put{k:ao}{b i v}(h:k.cell b i=none):k.Le (k.put b i v):=⟨λc j u a=>by
 have:¬(c=b/\j=i):=λx=>by simp_all
 simpa[ao.put,this]using a,λ_ _ h=>h⟩
def ao.Le.made{k:ao}{r o}(h:k.sh r=none):k.Le (k.made r o):=by
 cases o<;>first|exact .refl k|skip
 exact⟨λ_ _ _ h=>h,λb s a=>by
  have:b≠r:=λx=>by simp_all
  simpa[ao.made,ao.dX,this]using a⟩
def ao.Le.vF{k:ao}{r n c}(h:∀j,k.cell r j=none):k.Le (k.vF r c n):=⟨λb i v a=>by
 have:¬(b=r/\i<n):=λx=>by simp_all
 simpa[ao.vF,this]using a,λ_ _ h=>h⟩
def oH(k:ao)(O:ai)(b base:Nat)(l:List AV):Prop:=∀(j:Nat) a,l[j]?=some a->∃v,Reads k O ⟨b,base+j,none⟩ v/\V k v a/\flat v=true
def cI(l:List AV)(off size:Nat)(agg:Bool):Option AV:=if agg then(if off+size<=l.length then some (.agg ((l.drop off).take size))else none)else l[off]?
def ib  b off n :Addr.add ⟨b,off,none⟩ n=⟨b,off+n,none⟩:=by
 unfold Addr.add
 simp_all
section
variable{P:abm}(L:iT P){k:ao}{O:ai}{Kp:aaH}
def Bu{K a v}(h:Reads k O a v)(b:K v k O):dD P (load a) k O K Kp:=⟨rfl,v,h,b⟩
def iV{K b base l}(e:oH k O b base l){off}:
 ∀  n i   acc ,off+i+n<=l.length->(∀vs:List Value,vs.length=n->(∀  j  v a,vs[j]?=some v->l[off+i+j]?=some a->V k v a)->(∀v∈vs,flat v=true)->K (acc++vs.toArray) k O) ->
  dD P (loadCellsFrom ⟨b,base+off,none⟩ i n acc) k O K Kp:=by
 intro n;induction n with
 |zero=>intro i acc _ h;exact ag (by simp_all)
 | succ n f=>
   intro i acc hlen h;have c:off+i<l.length:=by omega
   obtain⟨v,m,o,p⟩:=e (off+i) l[off+i] (by simp[c]);unfold loadCellsFrom;rw[ib];refine af (Bu (v:=v) (by grind) ?_);refine f (i+1) (acc.push v) (by omega) λvs d q g=>?_
   have:=h (v::vs) (by simp[d]) (λj u a r s=>?_) (λu t=>by grind)
   . simp_all
   cases j with
   |zero=>simp_all
   |succ j=>grind
def ua{K b base off l t i a}(e:oH k O b base l)(f:L.tt t=some i)(d:cI l off i.size i.agg=some a)
 (g:∀v,V k v a->K v k O):dD P (loadVar t ⟨b,base+off,none⟩) k O K Kp:=by
 unfold loadVar;refine af (pL L f ?_);unfold cI at d;cases c:i.agg
 . simp only[c]at d
   obtain⟨v,h,m,_⟩:=e off a (by simp_all);simp only[LK,Rp];exact Bu h (g v m)
 simp only[c,YD]at d ⊢;split at d
 . next n=>
   simp only[kn]at d;subst d;refine af (bF L f ?_);unfold loadCells;refine af (iV e _ 0 _ (by omega) λvs o p _=>?_);refine ag (g _ (.agg _ _ ?_ λj v a q r=>?_))
   . grind
   grind
 cases d
def oH.own{b c e fz l}(f:O b=some (.obj (.cells c e fz)))(n:c.size=l.length)(g:∀(i:Nat) v a,c[i]?=some v->l[i]?=some a->V k v a)(h:∀(i:Nat) v,c[i]?=some v->flat v=true):oH k O b 0 l:=λj a m=>by
 have d:j<c.size:=by grind
 refine⟨c[j],⟨rfl,.inr ⟨c,e,fz,f,by simp[d]⟩⟩,g j _ a (by simp[d]) m,h j _ (by simp[d])⟩
def oH.stay{b l σ}(c:Rel k O σ)(hb:σ b=some (.stay l)):oH k O b 0 l:=λj a d=>by obtain⟨v,g,e,f⟩:=(c.2 _ _ hb rfl).2.2 l rfl j a d;exact⟨v,⟨rfl,.inl (by simp_all)⟩,e,f⟩
def oH.known{b base l}{c:Nat->Value}(e:∀j,j<l.length->k.cell b (base+j)=some (c j)/\flat (c j)=true)(f:∀  j  a,l[j]?=some a->V k (c j) a):oH k O b base l:=λj a d=>⟨c j,⟨rfl,.inl (e j (YJ.1 d).1).1⟩,f j a d,(e j (YJ.1 d).1).2⟩
end
def M5(l:List AV)(hole:abf)(off size:Nat)(agg:Bool):Option AV:=if agg then(if off+size<=l.length/\hole.all (λh=>decide (h<off\/off+size<=h))=true then some (.agg ((l.drop off).take size))else none)else if hole.contains off=true then none else l[off]?
def qp(i:TI)(σ:ab):AV->Option AV
 |.cp v off=>cI v.cells off i.size i.agg
 |.kp _ l hole off=>M5 l hole off i.size i.agg
 |.ref b off=>match σ b with|some (.cells l)=>cI l off i.size i.agg|some (.stay l)=>cI l off i.size i.agg|_=>none
 |_=>none
def AV.flat:AV->Bool
 |.lit v=>cr.flat v
 |.cu=>false
 |.agg _=>false
 |.cH _=>false
 |_=>true
def V.flat{k v a}(h:V k v a)(b:a.flat=true):cr.flat v=true:=by cases h<;>first|rfl|exact b|simp[AV.flat]at b
def V.cells{k v a}(h:V k v a)(m:a.cells.all AV.flat=true):v.cells.size=a.cells.length/\(∀(i:Nat) u x,v.cells[i]?=some u->a.cells[i]?=some x->V k u x)/\∀(i:Nat) u,v.cells[i]?=some u->cr.flat u=true:=by
 by_cases b:∃l,a=.agg l
 . obtain⟨l,rfl⟩:=b
   cases h with
   | agg c l f g=>
     refine⟨f,g,λi u j=>?_⟩
     have n:i<l.length:=by rw[<-f];exact(zs.1 j).1
     refine(g i u l[i] j (by simp[n])).flat ?_
     simp only[AV.cells,YE]at m
     simp_all
 have o:a.cells=[a]:=by cases a<;>first|rfl|simp_all
 have d:a.flat=true:=by simp_all
 have e:=h.flat d;have p:v.cells=#[v]:=by cases v<;>first|rfl|cases e
 grind
def aH(l:List AV)(off:Nat)(c:List AV):List AV:=l.take off++c++l.drop (off+c.length)
def qL(i:TI)(σ:ab)(p v:AV):Option ab:=
 match p with
 | .ref b off=>match σ b with
   |some (.cells l)=>if v.cells.length=i.size/\off+i.size<=l.length/\v.cells.all AV.flat=true then some (σ.set b (.cells (aH l off v.cells)))else none
   |_=>none
 |_=>none
section
variable{P:abm}(L:iT P){k:ao}{O:ai}{Kp:aaH}
def oI{K b off e}:∀  vs   i   c   O ,O b=some (.obj (.cells c e (0,0)))->off+i+vs.length<=c.size->(∀v∈vs,flat v=true) ->
 (∀  O'   c' ,O'=O.set b (.obj (.cells c' e (0,0)))->c'.size=c.size->(∀j,c'[j]?=if off+i<=j/\j<off+i+vs.length then vs[j-(off+i)]? else c[j]?)->K () k O') ->
 dD P (storeCells ⟨b,off,none⟩ vs i) k O K Kp:=by
 intro vs;induction vs with
 | nil=>
   intro i c O d hlen f h;refine ag (h O c ?_ rfl λj=>?_)
   . funext x
     by_cases a:x=b
     . subst a;simp[ai.set,d]
     simp[ai.set,a]
   grind
 | cons v vs g=>
   intro i c O d hlen f h;simp only[Zh]at hlen;unfold storeCells;rw[ib];refine af (s:=store ⟨b,off+i,none⟩ v) ⟨rfl,f v (by simp),rfl,.inl ⟨c,e,d,by simp;omega,?_⟩⟩;refine g (i+1) (c.setIfInBounds (off+i) v) _ (by simp[ai.set]) (by simp;omega) (λu l=>f u (by simp[l])) λO' c' m n o=>?_
   refine h O' c' ?_ (by grind) λj=>?_
   . rw[m];funext x;by_cases a:x=b<;>simp[ai.set,a]
   rw[o j];by_cases p:j=off+i
   . grind
   rw[YC (zj p)];by_cases q:off+(i+1)<=j/\j<off+(i+1)+vs.length
   . rw[YG q,YG (by simp;omega)]
     have:j-(off+i)=(j-(off+(i+1)))+1:=by omega
     rw[this,aax]
   grind
def vG{l c off}(h:off+c.length<=l.length)  j :(aH l off c)[j]?=if off<=j/\j<off+c.length then c[j-off]? else l[j]?:=by
 unfold aH;have a:(l.take off).length=off:=by simp;omega
 grind
def mD{l c off}(h:off+c.length<=l.length):(aH l off c).length=l.length:=by unfold aH;simp;omega
def z8{K σ σ' p a v ad t i}(o:Rel k O σ)(q:V k (.pointer (some ad)) p)(r:V k v a)(s:L.tt t=some i)(d:qL i σ p a=some σ')
 (w:∀O',Rel k O' σ'->K () k O'):dD P (storeVar t ad v) k O K Kp:=by
 unfold qL at d;cases p<;>simp only[]at d<;>try cases d
 rename_i b off;cases q;cases hb:σ b with
 |none=>simp_all
 | some x=>
   rw[hb]at d;cases x with
   | cells l=>
     simp only[]at d;split at d
     . next f=>
       obtain⟨H,I,z⟩:=f;simp only[kn]at d;subst d;obtain⟨y,A,B⟩:=o.1 b _ hb (by simp);cases B with
       | cells c e l C J M=>
         obtain⟨N,Q,D⟩:=r.cells z;unfold storeVar;refine af (bF L s ?_);have h:¬v.cells.size≠i.size:=by omega
         simp only[YA h];refine af (ag ?_);refine oI v.cells.toList 0 c O A (by simp_all) (λu g=>by obtain⟨j,R,rfl⟩:=Za.1 g;exact D j _ (by simp_all)) λO' E F m n=>?_
         subst F;have hlen:off+a.cells.length<=l.length:=by omega
         refine w _ (o.set (.cells E e _ (by rw[m,mD hlen];exact C) (λj u x g G=>?_) λj u g=>?_))
         . rw[n]at g
           rw[vG hlen]at G
           grind
         grind
     cases d
   |_=>cases d
def Bv{σ p ad i a}(t:Rel k O σ)(q:V k (.pointer (some ad)) p)(d:qp i σ p=some a):∃b base off l,ad=⟨b,base+off,none⟩/\oH k O b base l/\cI l off i.size i.agg=some a:=by
 unfold qp at d;cases p<;>simp only[]at d<;>try cases d
 . rename_i v off
   cases q with
   |cp b base off N E v c _ _ n o=>exact⟨b,base,off,v.cells,rfl,.known n o,d⟩
 . rename_i b l hole off
   cases q with
   | kp _ _ N E _ _ c _ _ n o=>
     unfold M5 at d;split at d
     . next f=>
       split at d
       . next u=>
         simp only[kn]at d;subst d;have hlen:((l.drop off).take i.size).length=i.size:=by simp;omega
         refine⟨b,off,0,(l.drop off).take i.size,by simp,λj a C=>?_,by simp[cI,f,hlen,List.take_take]⟩
         have D:j<i.size:=by grind
         have h:l[off+j]?=some a:=by grind
         have g:off+j∉hole:=λF=>by grind
         obtain⟨r,s⟩:=n (off+j) (YJ.1 h).1 g;exact⟨c (off+j),⟨rfl,.inl r⟩,o _ a g h,s⟩
       cases d
     next f=>
     split at d
     . cases d
     next u=>
     have g:off∉hole:=by simp_all
     refine⟨b,off,0,[a],by simp,λj y m=>?_,by simp[cI,f]⟩
     match j with
     |0=>simp at m;subst m;obtain⟨r,s⟩:=n off (YJ.1 d).1 g;exact⟨c off,⟨rfl,.inl r⟩,o _ _ g d,s⟩
     |j+1=>simp at m
 rename_i b off;cases q;cases hb:σ b with
 |none=>simp_all
 | some x=>
   rw[hb]at d;cases x with
   | cells l=>
     obtain⟨y,w,m⟩:=t.1 b _ hb (by simp)
     cases m with
     |cells c e l z A B=>exact⟨b,0,off,l,by simp,.own w z A B,d⟩
   |stay l=>exact⟨b,0,off,l,by simp,.stay t hb,d⟩
   |_=>cases d
end
def V.IS{k v p}(h:V k v p)(a:(∃x off,p=.cp x off)\/(∃b off,p=.ref b off)\/∃b l hole off,p=.kp b l hole off):∃ad,v=.pointer (some ad):=by rcases a with⟨x,off,rfl⟩|⟨b,off,rfl⟩|⟨b,l,hole,off,rfl⟩<;>cases h<;>exact⟨_,rfl⟩
def yE{i σ p a}(h:qp i σ p=some a):(∃x off,p=.cp x off)\/(∃b off,p=.ref b off)\/∃b l hole off,p=.kp b l hole off:=by cases p<;>first|exact .inl ⟨_,_,rfl⟩|exact .inr (.inl ⟨_,_,rfl⟩)|exact .inr (.inr ⟨_,_,_,_,rfl⟩)|cases h
def DF{i σ σ' p a}(h:qL i σ p a=some σ'):(∃x off,p=.cp x off)\/(∃b off,p=.ref b off)\/∃b l hole off,p=.kp b l hole off:=by cases p<;>first|exact .inl ⟨_,_,rfl⟩|exact .inr (.inl ⟨_,_,rfl⟩)|cases h
section
variable{P:abm}(L:iT P){o:Oper}{env:Env}{σ:ab}{K:AV->ab->Prop}{Kp:AV->ab->Prop}
def aJ.val{s:(abn->Value)->Sem Value}(d:∀ρ,execOp ρ o=(do pure (.value (<-s ρ))))
 (h:∀k O  ρ ,(∀x∈o.op.operands,V k (ρ x) (ak env x))->Rel k O σ ->
   dD P (s ρ) k O (λv k' O'=>lQ k' O' λb e=>k.Le b/\∃a σ',V b v a/\Rel b e σ'/\K a σ') (λv k' O'=>k.Le k'/\∃a σ',V k' v a/\Rel k' O' σ'/\Kp a σ')):aJ P o env σ K Kp:=λk O ρ f g=>by
 rw[d];refine af (iU _ (h k O ρ f g) (λv k' O' c=>?_) (λv k' O' c=>c));exact ag ⟨v,.inl rfl,c⟩
def vb{x}(a:o.op=.move x\/o.op=.assign x)(c:K (ak env x) σ):aJ P o env σ K Kp:=λk O b d e=>by
 have:execOp b o=pure (.value (b x)):=by rcases a with a|a<;>simp[execOp,a]
 rw[this];refine ag ⟨b x,.inl rfl,.here ⟨.refl k,_,_,d x ?_,e,c⟩⟩
 rcases a with a|a<;>simp[a,Op.operands]
def Ft{c a b x}(d:o.op=.pick c a b)(h:ak env c=.lit (.bool x))(i:K (if x then ak env a else ak env b) σ):aJ P o env σ K Kp:=λk O e f j=>by
 have g:=f c (by simp[d,Op.operands]);have m:=f a (by simp[d,Op.operands]);have n:=f b (by simp[d,Op.operands]);rw[h]at g;generalize l:e c=v at g;cases g;have:execOp e o=pure (.value (if x then e a else e b)):=by simp[execOp,d,l,asBool]
 rw[this];refine ag ⟨_,.inl rfl,.here ⟨.refl k,_,_,?_,j,i⟩⟩
 grind
def z9{t:Nat}{p i a}(h:o.op=.load t p)(n:L.tt t=some i)(j:qp i σ (ak env p)=some a)(q:K a σ):aJ P o env σ K Kp:=
 aJ.val (s:=λd=>Instr.loadAt t (d p)) (λd=>by simp[execOp,h]) λk O d f m=>by
  have g:=f p (by simp[h,Op.operands]);obtain⟨u,e⟩:=g.IS (yE j);rw[e]at g;obtain⟨b,base,off,l,rfl,c,r⟩:=Bv m g j;simp only[Instr.loadAt,e,Instr.sureAddr];exact af (ag (ua L c n r λv f=>.here ⟨.refl k,a,σ,f,m,q⟩))
def Bw{t:Nat}{p x i σ'}(a:o.op=.store t p x)(h:L.tt t=some i)(d:qL i σ (ak env p) (ak env x)=some σ')(j:K (.lit undef) σ'):aJ P o env σ K Kp:=λk O f g l=>by
 have b:=g p (by simp[a,Op.operands]);have m:=g x (by simp[a,Op.operands]);obtain⟨n,e⟩:=b.IS (DF d);rw[e]at b;have:execOp f o=(do storeVar t n (f x);pure .skip):=by simp[execOp,a,Instr.storeAt,e,Instr.sureAddr]
 rw[this];exact af (z8 L l b m h d λq c=>ag ⟨undef,.inr ⟨rfl,rfl⟩,.here ⟨.refl k,.lit undef,σ',.lit _,c,j⟩⟩)
end
def AV.W(a a':AV):Prop:=∀k v,V k v a->V k v a'
def AV.W.refl(a:AV):a.W a:=λ_ _ h=>h
abbrev AV.nil:AV:=.lit (.slice none 0 0)
def V.Vz{k}  kk :V k (.slice none 0 0) (.sl kk [] .any):=.slnil none kk .any (.inl rfl)
def lR  kk :AV.nil.W (.sl kk [] .any):=λk v h=>by cases h;exact .Vz kk
def jH  kk   es   sp :(AV.sl kk es sp).W (.sl kk es .any):=λk v h=>by
 cases h with
 |sl b off cap _ N E _ _ c d e f g i j l=>exact .sl b off cap kk N E es .any c d e f g i j trivial
 |slnil a=>exact .slnil a kk .any (.inl rfl)
def kX:Value->AV
 |.agg c=>.agg (c.toList.map .lit)
 |v=>.lit v
def V.kX(k:ao)(v:Value):V k v (kX v):=by
 cases v<;>first|exact .lit _|skip
 rename_i c;refine .agg _ _ (by simp) λi v a d b=>?_
 simp only[YY]at b;rw[show c.toList[i]?=c[i]? from by simp,d]at b;simp at b;subst b;exact .lit v
def flatten_cons  a   es :flatten (a::es)=a.cells++flatten es:=rfl
def flatten_append  es fs :flatten (es++fs)=flatten es++flatten fs:=by simp[flatten]
def bG{kk}:∀{es},(∀e∈es,e.cells.length=kk)->(flatten es).length=es.length*kk
 |[],_=>by simp[flatten]
 |a::es,h=>by rw[flatten_cons,YL,bG (λe b=>h e (by simp[b])),h a (by simp),Zh,Nat.succ_mul,Nat.add_comm]
def lS{kk}:∀{es}(_:∀e∈es,e.cells.length=kk){i a}(_:es[i]?=some a)  j  (_:j<kk),(flatten es)[i*kk+j]?=a.cells[j]?
 |[],_,i,a,b,_,_=>by simp at b
 |x::es,h,0,a,b,j,c=>by simp at b;subst b;rw[flatten_cons,Nat.zero_mul,ZP,Zn (by simp_all)]
 | x::es,h,i+1,a,b,j,c=>by
   rw[flatten_cons,YR (by grind),h x (by simp)];have:(i+1)*kk+j-kk=i*kk+j:=by grind
   rw[this];exact lS (λe d=>h e (by simp[d])) (by simp_all) j c
section
variable{P:abm}(L:iT P){k:ao}{O:ai}{Kp:aaH}
def Rel.Gv{σ}(h:Rel k O σ){r}(i:O r=none){k'}(g:k.Le k'){x y}:Rel k' (((O.set r x).set r y).del r) σ:=⟨λb a e c=>by
 obtain⟨z,d,f⟩:=h.1 b a e c;have:b≠r:=λq=>by simp_all
 exact⟨z,by simp[ai.del,ai.set,this,d],f.mono g⟩,λb a e c=>by
 obtain⟨d,f⟩:=(h.mono g).2 b a e c;refine⟨?_,f⟩;by_cases q:b=r
 . simp[ai.del,q]
 simp[ai.del,ai.set,q,d]⟩
def mL{K E c}
 (l:∀r k' O',Fp k O r->(lQ k' O' λd m=>k.Le d/\(∀j v,c[j]?=some v->d.cell r j=some v)/\d.sh r=some (E,c.size)/\(∀σ,Rel k O σ->Rel d m σ))->K ⟨r,0,none⟩ k' O'):dD P (newRow E c) k O K Kp:=by
 refine af (s:=newObj (.cells c E)) ⟨rfl,λr g=>ag (l r _ _ g ?_)⟩;obtain⟨f1,o,p⟩:=g;have a:k.Le (k.made r (.cells c E)):=.made p;have b:∀j,(k.made r (.cells c E)).cell r j=none:=o;refine⟨_,_,(nu (n:=c.size) (c:=c) (e:=E) (r:=r) (by simp[ai.set]) (by simp[ao.made,ao.dX])).trans (DD _ _ r (by simp[ai.set])),a.trans (.vF b),λj v i=>?_,by simp[ao.vF,ao.made,ao.dX],λσ h=>h.Gv f1 (a.trans (.vF b))⟩;have f:j<c.size:=(zs.1 i).1;simp only[ao.vF,true_and,f,YD];exact i
def iW{K E c σ}(h:Rel k O σ){l}(d:c.size=l.length)(e:∀(i:Nat) v a,c[i]?=some v->l[i]?=some a->V k v a)(f:∀(i:Nat) v,c[i]?=some v->flat v=true)
 (g:∀r k' O',σ r=none->k.Le k'->Rel k' O' (σ.set r (.cells l))->K ⟨r,0,none⟩ k' O'):dD P (newRow E c) k O K Kp:=by
 refine af (s:=newObj (.cells c E)) ⟨rfl,λr b=>ag (g r _ _ (h.isNone b.1 b.2.2) (.made b.2.2) ?_)⟩;exact(h.mono (.made b.2.2)).set (.cells c E l d (λi v a j m=>(e i v a j m).mono (.made b.2.2)) f)
end
section
variable{P:abm}(L:iT P){o:Oper}{env:Env}{σ:ab}{K:AV->ab->Prop}{Kp:AV->ab->Prop}
def Bx{t:Nat}{i}(c:o.op=.alloc t)(d:L.tt t=some i)(e:(kX i.zero).cells.all AV.flat=true)(f:∀b,σ b=none->K (.ref b 0) (σ.set b (.cells (kX i.zero).cells))):aJ P o env σ K Kp:=
 aJ.val (s:=λ_=>Instr.alloc t true (.tuple #[])) (λg=>by simp[execOp,c]) λk O g q h=>by
  unfold Instr.alloc;refine af (cM L d ?_);obtain⟨j,l,m⟩:=(V.kX k i.zero).cells e;refine af (iW h j l m λr u v n p a=>ag ?_);exact .here ⟨p,_,_,.ref r 0,a,f r n⟩
def vH{t:Nat}{x}(d:o.op=.box t x)(e:(ak env x).cells.all AV.flat=true)(f:∀b,σ b=none->K (.ref b 0) (σ.set b (.cells (ak env x).cells))):aJ P o env σ K Kp:=
 aJ.val (s:=λa=>Instr.box t (a x)) (λa=>by simp[execOp,d]) λk O a g h=>by
  unfold Instr.box;obtain⟨i,j,l⟩:=(g x (by simp[d,Op.operands])).cells e;refine af (iW h i j l λr p q m n c=>ag ?_);exact .here ⟨n,_,_,.ref r 0,c,f r m⟩
def IT{t:Nat}{x}(e:o.op=.box t x)(h:(ak env x).cells.all AV.flat=true)(i:K (.cp (ak env x) 0) σ):aJ P o env σ K Kp:=
 aJ.val (s:=λc=>Instr.box t (c x)) (λc=>by simp[execOp,e]) λk O c l m=>by
  unfold Instr.box;obtain⟨A,n,p⟩:=(l x (by simp[e,Op.operands])).cells h;refine af (mL λr B C D q=>ag ?_);obtain⟨u,v,g,f,w,y,d⟩:=q;refine⟨u,v,g,f,_,σ,?_,d σ m,i⟩;refine V.cp r 0 0 _ _ _ (λj=>(c x).cells.getD j undef) y (by omega) (λj E=>?_) (λj a z=>?_)
  . have b:j<(c x).cells.size:=by omega
    rw[ZP,w j ((c x).cells[j]) (by simp[b])];have:=p j ((c x).cells[j]) (by simp[b])
    simp_all
  have b:j<(c x).cells.size:=by grind
  have:=(n j ((c x).cells[j]) a (by simp[b]) z).mono f;simpa[Array.getD,b]using this
end
inductive IU(k:ao):Value->Nat->List AV->kW->Prop
 |nil (a:Option Addr) (kk:Nat) (sp:kW):(sp=.any\/(sp=.exact/\a.isSome=true))->IU k (.slice a 0 0) kk [] sp
 | row (b off cap kk N:Nat) (E:TypeId) (es:List AV) (sp:kW):es.length<=cap->k.sh b=some (E,N)->off+cap*kk<=N->(∀e∈es,e.cells.length=kk) ->
    (∀O,oH k O b off (flatten es))->sp.fits b off es.length kk cap->IU k (.slice (some ⟨b,off,none⟩) es.length cap) kk es sp
def V.Gw{k v kk es sp}(h:V k v (.sl kk es sp)):IU k v kk es sp:=by
 cases h with
 |sl b off cap _ N E _ _ c d e f g i j l=>exact .row b off cap kk N E es sp d e f g (λO=>.known i j) l
 |slnil a _ _ h=>exact .nil a kk sp h
def IU.len{k v kk es sp}(h:IU k v kk es sp):∃a c,v=.slice a es.length c:=by
 cases h
 . simp_all
 simp_all
def V.ofRow{k b off cap kk N E es sp}(c:es.length<=cap)(d:k.sh b=some (E,N))(f:off+cap*kk<=N)(g:∀e∈es,e.cells.length=kk)
 (h:∀  j  a,(flatten es)[j]?=some a->∃v,k.cell b (off+j)=some v/\V k v a/\cr.flat v=true) (i:sp.fits b off es.length kk cap):V k (.slice (some ⟨b,off,none⟩) es.length cap) (.sl kk es sp):=by
 refine .sl b off cap kk N E es sp (λj=>(k.cell b (off+j)).getD undef) c d f g (λj l=>?_) (λj a m=>?_) i
 . obtain⟨v,n,_,o⟩:=h j (flatten es)[j] (by simp[l])
   simp_all
 grind
def V.kA{k v kk es sp}(h:V k v (.sl kk es sp)):(∃a,v=.slice a 0 0/\es=[]/\(sp=.any\/(sp=.exact/\a.isSome=true)))\/
 ∃b off cap N E,v=.slice (some ⟨b,off,none⟩) es.length cap/\es.length<=cap/\k.sh b=some (E,N)/\off+cap*kk<=N/\(∀e∈es,e.cells.length=kk)/\(∀  j  a,(flatten es)[j]?=some a->∃v,k.cell b (off+j)=some v/\V k v a/\cr.flat v=true)/\sp.fits b off es.length kk cap:=by
 cases h with
 |sl b off cap _ N E _ _ c g i l m f n o=>exact .inr ⟨b,off,cap,N,E,rfl,g,i,l,m,λj a d=>⟨c j,(f j (YJ.1 d).1).1,n j a d,(f j (YJ.1 d).1).2⟩,o⟩
 |slnil a _ _ h=>simp_all
def V.IV{k b off cap kk N es sp}(h:V k (.slice (some ⟨b,off,none⟩) N cap) (.sl kk es sp)):∀  j  a,(flatten es)[j]?=some a->∃v,k.cell b (off+j)=some v/\V k v a/\cr.flat v=true:=by
 intro j a d;cases h with
 |sl _ _ _ _ N E _ _ c e f g i l m n=>grind
 |slnil=>simp[flatten]at d
section
variable{P:abm}(L:iT P){o:Oper}{env:Env}{σ:ab}{K:AV->ab->Prop}{Kp:AV->ab->Prop}
def bM{i d e}(h:dv P i d=true)(a:i.kind=.slice e):d=.slice e:=by cases d<;>simp_all [dv]
def nv{i d n e}(h:dv P i d=true)(a:i.kind=.array n e):d=.array n e:=by cases d<;>simp_all [dv]
def Aa{x b t e i kk es sp}(j:o.op=.call ⟨.builtin .len,#[x],b⟩)(l:b[0]?=some t)(m:L.tt t=some i)(n:i.kind=.slice e)
 (f:ak env x=.sl kk es sp\/(ak env x=.nil/\es=[])) (p:K (.lit (.int .i64 es.length)) σ):aJ P o env σ K Kp:=
 fun k O g q r=>by
  have h:=q x (by simp[j,Op.operands,Call.operands])
  have s:∃a c,g x=.slice a es.length c:=by
   rcases f with f|⟨f,rfl⟩
   . rw[f]at h;exact h.Gw.len
   rw[f]at h;generalize g x=v at h;cases h
   simp_all
  obtain⟨a,c,u⟩:=s;have:execOp g o=(do pure (Next.value (<-Builtin.len_ b o.type #[g x]))):=by simp[execOp,j,resolve,invoke,builtin]
  rw[this];refine af ?_;unfold Builtin.len_;simp only[l,aac,ZX];refine af (aD L m λd _ hd=>?_);rw[bM hd n,u];exact ag (ag ⟨_,.inl rfl,.here ⟨.refl k,_,σ,.lit _,r,p⟩⟩)
def yF{x f t e i b off len cap}(j:o.op=.call ⟨.builtin .len,#[x],f⟩)(l:f[0]?=some t)(m:L.tt t=some i)(n:i.kind=.slice e)
 (p:ak env x=.gq b off len cap) (q:K (.lit (.int .i64 len)) σ):aJ P o env σ K Kp:=
 fun k O g r s=>by
  have h:=r x (by simp[j,Op.operands,Call.operands])
  have u:∃a c,g x=.slice a len c:=by
   rw[p]at h;generalize g x=v at h;cases h
   simp_all
  obtain⟨a,c,w⟩:=u;have:execOp g o=(do pure (Next.value (<-Builtin.len_ f o.type #[g x]))):=by simp[execOp,j,resolve,invoke,builtin]
  rw[this];refine af ?_;unfold Builtin.len_;simp only[l,aac,ZX];refine af (aD L m λd _ hd=>?_);rw[bM hd n,w];exact ag (ag ⟨_,.inl rfl,.here ⟨.refl k,_,σ,.lit _,s,q⟩⟩)
def c8{k v kd n}(h:V k v (.lit (.int kd n))):v=.int kd n:=by cases h;rfl
def vI{t e:Nat}{x i it f es sp n kd a}(m:o.op=.indexAddr t x i)(z:L.tt t=some it)(A:it.kind=.slice e)(D:L.tt e=some f)
 (F:ak env x=.sl f.size es sp) (hi:ak env i=.lit (.int kd n)) (G:0<=n) (g:es[n.toNat]?=some a) (H:K (.cp a 0) σ):aJ P o env σ K Kp:=
 aJ.val (s:=λh=>Instr.indexAt t (h x) (h i)) (λh=>by simp[execOp,m]) λk O h B I=>by
  have l:=B x (by simp[m,Op.operands]);have C:=B i (by simp[m,Op.operands]);rw[F]at l;rw[hi]at C;rw[c8 C];have p:n.toNat<es.length:=(YJ.1 g).1;generalize h x=v at l;have c:=l;cases l.Gw with
  |nil=>simp at p
  | row b off cap _ N E _ _ X J Y q Z g6=>
    unfold Instr.indexAt;refine af (ag ?_);refine af (aD L z λd _ hd=>?_);rw[bM hd A];dsimp only;refine af (ag ?_);dsimp only;refine af (aD L z λd2 _ r=>?_);rw[bM r A];dsimp only;rw[YG ⟨G,by omega⟩];refine af (bF L D (ag (.here ⟨.refl k,_,σ,?_,I,H⟩)));rw[ib];have M:a.cells.length=f.size:=q a (List.mem_iff_getElem?.2 ⟨_,g⟩)
    have w:off+n.toNat*f.size+a.cells.length<=N:=by
     have hn:n.toNat<es.length:=(YJ.1 g).1;have:=Zw f.size (show n.toNat+1<=cap by omega)
     grind
    refine V.cp b (off+n.toNat*f.size) 0 N E a (λj=>(k.cell b (off+n.toNat*f.size+j)).getD undef) J w (λj Q=>?_) (λj y R=>?_)
    . have S:=lS q g j (by omega)
      obtain⟨u,T,_,U⟩:=c.IV (n.toNat*f.size+j) a.cells[j] (by simp_all)
      grind
    have Q:j<a.cells.length:=(YJ.1 R).1;have S:=lS q g j (by omega);obtain⟨u,T,W,_⟩:=c.IV (n.toNat*f.size+j) y (by simp_all)
    grind
end
section
variable{P:abm}(L:iT P){o:Oper}{env:Env}{σ:ab}{K:AV->ab->Prop}{Kp:AV->ab->Prop}
def ub{k O Kp}{t:Nat}{info K}(h:P.info? t=some info)(a:K info.size k O):dD P (sizeOf t) k O K Kp:=by unfold sizeOf typeInfo;refine af (af (bY ?_));rw[h];exact ag a
def uf{i d}(h:dv P i d=true)(b:i.kind=.struct){j:Nat}{x}(c:i.jx[j]?=some x):∃fs f info,d=.struct fs/\fs[j]?=some f/\f.offset=x.1/\P.info? f.type=some info/\info.size=x.2.1/\f.type=x.2.2:=by
 cases d with
 | struct fs=>
   simp only[dv,za,ZJ]at h;have a:=congrArg (λl=>l[j]?) h.2;simp only[YY,c,YW]at a;obtain⟨f,g,e⟩:=YI.1 a;simp only[zG]at e
   simp_all
 |_=>simp[dv,b]at h
def rq(a:AV)(n:Nat):Option AV:=
 match a with
 |.cp v off=>some (.cp v (off+n))
 |.kp b l hole off=>some (.kp b l hole (off+n))
 |.ref b off=>some (.ref b (off+n))
 |_=>none
def V.rq{k:ao}{v:Value}{a a':AV}{n:Nat}(h:V k v a)(d:rq a n=some a'):∃b off,v=.pointer (some ⟨b,off,none⟩)/\V k (.pointer (some ⟨b,off+n,none⟩)) a':=by
 cases a<;>simp only[cr.rq,reduceCtorEq,kn]at d
 . subst d
   cases h with
   |cp b base _ N E _ c e f g i=>exact⟨b,_,rfl,by rw[Nat.add_assoc];exact .cp b base _ N E _ c e f g i⟩
 . subst d
   cases h with
   |kp _ _ N E _ _ c e f g i=>exact⟨_,_,rfl,.kp _ _ N E _ _ c e f g i⟩
 subst d;cases h;exact⟨_,_,rfl,.ref _ _⟩
def ru{s j:Nat}{x i f a'}(h:o.op=.fieldAddr s x j)(l:L.tt s=some i)(m:i.kind=.struct)(n:i.jx[j]?=some f)(p:f.2.1≠0)
 (q:rq (ak env x) f.1=some a') (r:K a' σ):aJ P o env σ K Kp:=
 aJ.val (s:=λa=>Instr.fieldAt s (a x) j) (λa=>by simp[execOp,h]) λk O a t u=>by
  obtain⟨b,off,e,c⟩:=(t x (by simp[h,Op.operands])).rq q;unfold Instr.fieldAt;refine af (aD L l λd _ hd=>?_);obtain⟨fs,g,info,rfl,v,w,y,z,_⟩:=uf hd m n;dsimp only;rw[v,e];dsimp only;refine af (ag ?_);unfold fieldPlace;refine af (af (ub y ?_));rw[z,YA p];refine ag (ag (.here ⟨.refl k,_,σ,?_,u,r⟩));rw[ib,w];exact c
def ug{t n e:Nat}{x a it i z kd a'}(f:o.op=.indexAddr t x a)(j:L.tt t=some it)(l:it.kind=.array n e)(q:L.tt e=some i)
 (hi:ak env a=.lit (.int kd z)) (r:0<=z/\z<n) (u:rq (ak env x) (z.toNat*i.size)=some a') (v:K a' σ):aJ P o env σ K Kp:=
 aJ.val (s:=λc=>Instr.indexAt t (c x) (c a)) (λc=>by simp[execOp,f]) λk O c m w=>by
  obtain⟨b,off,y,g⟩:=(m x (by simp[f,Op.operands])).rq u;have p:=m a (by simp[f,Op.operands]);rw[hi]at p;rw[c8 p,y];unfold Instr.indexAt;refine af (ag ?_);refine af (aD L j λd _ hd=>?_);rw[nv hd l];dsimp only;refine af (ag ?_);refine af (ag ?_);dsimp only;refine af (aD L j λA _ h=>?_);rw[nv h l];dsimp only;rw[YG r];refine af (bF L q (ag (.here ⟨.refl k,_,σ,?_,w,v⟩)));rw[ib];exact g
def uh{t e:Nat}{x c it i b off len cap z kd}(f:o.op=.indexAddr t x c)(j:L.tt t=some it)(l:it.kind=.slice e)(p:L.tt e=some i)
 (q:ak env x=.gq b off len cap) (hi:ak env c=.lit (.int kd z)) (r:0<=z/\z<len) (u:K (.ref b (off+z.toNat*i.size)) σ):aJ P o env σ K Kp:=
 aJ.val (s:=λa=>Instr.indexAt t (a x) (a c)) (λa=>by simp[execOp,f]) λk O a m w=>by
  have g:=m x (by simp[f,Op.operands]);have n:=m c (by simp[f,Op.operands]);rw[q]at g;rw[hi]at n;rw[c8 n];generalize a x=v at g;cases g;unfold Instr.indexAt;refine af (ag ?_);refine af (aD L j λd _ hd=>?_);rw[bM hd l];dsimp only;refine af (ag ?_);dsimp only;refine af (aD L j λy _ h=>?_);rw[bM h l];dsimp only;rw[YG r];refine af (bF L p (ag (.here ⟨.refl k,_,σ,?_,w,u⟩)));rw[ib];exact .ref _ _
def V.part{k:ao}{O:ai}{Kp:aaH}{t off:Nat}{i:TI}{c:aaS}{l:List AV}{a:AV}{K:aaH}(n:c.size=l.length)(g:∀(j:Nat) v a,c[j]?=some v->l[j]?=some a->V k v a)
 (e:L.tt t=some i) (b:cI l off i.size i.agg=some a) (f:∀v,V k v a->K v k O):dD P (part t c off) k O K Kp:=by
 unfold Go.part;refine af (pL L e ?_);unfold cI at b;cases d:i.agg
 . simp only[d,LK,Rp]at b ⊢
   have h:off<l.length:=(YJ.1 b).1;rw[show c[off]?=some c[off]from by simp_all];exact f _ (g off _ a (by simp_all) b)
 simp only[d,YD]at b ⊢;split at b
 . next m=>
   simp only[kn]at b;subst b;refine af (bF L e (ag (f _ (.agg _ _ ?_ λj v a o p=>?_))))
   . grind
   grind
 cases b
def By{s j:Nat}{x i h f l a}(p:o.op=.field s x j)(q:L.tt s=some i)(r:i.kind=.struct)(t:i.jx[j]?=some f)(m:L.tt f.2.2=some h)
 (u:ak env x=.agg l) (w:cI l f.1 h.size h.agg=some a) (y:K a σ):aJ P o env σ K Kp:=
 aJ.val (s:=λe=>Instr.field s (e x) j) (λe=>by simp[execOp,p]) λk O e n z=>by
  have b:=n x (by simp[p,Op.operands]);rw[u]at b;generalize e x=v at b;cases b with
  | agg c l A B=>
    unfold Instr.field;refine af (aD L q λd _ hd=>?_);obtain⟨fs,g,info,rfl,b,C,E,F,D⟩:=uf hd r t;dsimp only;rw[b];dsimp only;refine af (ag ?_);rw[C,D];exact V.part L A B m w λv n=>.here ⟨.refl k,a,σ,n,z,y⟩
def Bz{t n e:Nat}{x f it g z kd l a}(i:o.op=.index t x f)(q:L.tt t=some it)(r:it.kind=.array n e)(m:L.tt e=some g)
 (u:ak env x=.agg l) (hi:ak env f=.lit (.int kd z)) (w:0<=z/\z<n) (y:cI l (z.toNat*g.size) g.size g.agg=some a) (A:K a σ):aJ P o env σ K Kp:=
 aJ.val (s:=λb=>Instr.index t (b x) (b f)) (λb=>by simp[execOp,i]) λk O b h B=>by
  have j:=h x (by simp[i,Op.operands]);have p:=h f (by simp[i,Op.operands]);rw[u]at j;rw[hi]at p;rw[c8 p];generalize b x=v at j;cases j with
  | agg c l C D=>
    unfold Instr.index;refine af (ag ?_);refine af (aD L q λd _ hd=>?_);rw[nv hd r];dsimp only;rw[YG w];refine af (bF L m ?_);exact V.part L C D m y λv h=>.here ⟨.refl k,a,σ,h,B,A⟩
def oA(op:BinOp)(k:IntKind)(x y:Int):aaR:=
 match op with
 |.add=>some (.int k (k.wrap (x+y)))
 |.sub=>some (.int k (k.wrap (x-y)))
 |.mul=>some (.int k (k.wrap (x*y)))
 |.quo=>if y=0 then none else some (.int k (k.wrap (x.tdiv y)))
 |.rem=>if y=0 then none else some (.int k (x.tmod y))
 |.and=>some (.int k (k.wrap ((BitVec.ofInt k.bits x &&& BitVec.ofInt k.bits y).toNat)))
 |.or=>some (.int k (k.wrap ((BitVec.ofInt k.bits x|||BitVec.ofInt k.bits y).toNat)))
 |.xor=>some (.int k (k.wrap ((BitVec.ofInt k.bits x ^^^ BitVec.ofInt k.bits y).toNat)))
 |.eql=>some (.bool (x==y))
 |.neq=>some (.bool (x !=y))
 |.lss=>some (.bool (x<y))
 |.leq=>some (.bool (x<=y))
 |.gtr=>some (.bool (x>y))
 |.geq=>some (.bool (x>=y))
 |_=>none
def cR{op}{t l:Nat}{x y kd a b v}(g:o.op=.binOp op t x y l)(m:ak env x=.lit (.int kd a))(n:ak env y=.lit (.int kd b))(d:oA op kd a b=some v)(p:K (.lit v) σ):
 aJ P o env σ K Kp:=λk O c f q=>by
 have i:=f x (by simp[g,Op.operands]);have j:=f y (by simp[g,Op.operands]);rw[m]at i;rw[n]at j;have r:=c8 i;have s:=c8 j
 have key:(do eqGuard op t x y (c x) (c y);binOp op t (c x) (c y))=(pure v:Sem Value):=by
  rw[r,s]
  cases op<;>simp only[oA,reduceCtorEq,kn]at d<;>
   first
    |(subst d;simp[eqGuard,binOp,Op.intArith,Op.intBits,Op.intCmp];done)
    | (split at d
       . cases d
       next h=>simp only[kn]at d;subst d;simp[eqGuard,binOp,Op.intDiv,h])
 have:execOp c o=pure (.value v):=by
  have e:execOp c o=(do let v <-(do eqGuard op t x y (c x) (c y);binOp op t (c x) (c y));pure (.value v)):=by simp[execOp,g]
  simp_all
 rw[this];exact ag ⟨v,.inl rfl,.here ⟨.refl k,_,σ,.lit v,q,p⟩⟩
def wrap_i64{n}(h:-9223372036854775808<=n/\n<=9223372036854775807):IntKind.i64.wrap n=n:=by simp only[IntKind.wrap,IntKind.bits,IntKind.signed];simp;omega
def mM{op}{t e:Nat}{x y a b r}(f:o.op=.binOp op t x y e)(g:ak env x=.lit (.int .i64 a))(h:ak env y=.lit (.int .i64 b))
 (d:(op=.add/\r=a+b)\/(op=.sub/\r=a-b)\/(op=.mul/\r=a*b)) (c:-9223372036854775808<=r/\r<=9223372036854775807) (i:K (.lit (.int .i64 r)) σ):aJ P o env σ K Kp:=by
 have j:=wrap_i64 c;rcases d with⟨rfl,rfl⟩|⟨rfl,rfl⟩|⟨rfl,rfl⟩<;>exact cR f g h (by simp only[oA,j]) i
def rv{op}{t j:Nat}{x y kd l a b v}(f:o.op=.binOp op t x y j)(m:ak env x=.lit (.int kd a))(n:ak env y=.lit (.int l b))(hb:0<=b)
 (g:(op=.shl/\v=.int kd (kd.wrap (a*2 ^ (min b.toNat kd.bits))))\/(op=.shr/\v=.int kd (a.fdiv (2 ^ (min b.toNat kd.bits))))) (p:K (.lit v) σ):
 aJ P o env σ K Kp:=λk O c d q=>by
 have h:=d x (by simp[f,Op.operands]);have i:=d y (by simp[f,Op.operands]);rw[m]at h;rw[n]at i;have r:=c8 h;have s:=c8 i;have u:¬b<0:=by omega
 have key:(do eqGuard op t x y (c x) (c y);binOp op t (c x) (c y))=(pure v:Sem Value):=by
  rw[r,s];rcases g with⟨rfl,rfl⟩|⟨rfl,rfl⟩<;>simp[eqGuard,binOp,Op.shift,u]
 have:execOp c o=pure (.value v):=by
  have e:execOp c o=(do let v <-(do eqGuard op t x y (c x) (c y);binOp op t (c x) (c y));pure (.value v)):=by simp[execOp,f]
  simp_all
 rw[this];exact ag ⟨v,.inl rfl,.here ⟨.refl k,_,σ,.lit v,q,p⟩⟩
def qM{k v b}(h:V k v (.lit (.bool b))):v=.bool b:=by cases h;rfl
def IW{t:Nat}{x b}(c:o.op=.unOp .not t x)(e:ak env x=.lit (.bool b))(f:K (.lit (.bool !b)) σ):aJ P o env σ K Kp:=λk O g a h=>by
 have d:=a x (by simp[c,Op.operands]);rw[e]at d;have:execOp g o=pure (.value (.bool !b)):=by simp[execOp,c,qM d,Op.unary]
 rw[this];exact ag ⟨_,.inl rfl,.here ⟨.refl k,_,σ,.lit _,h,f⟩⟩
def vJ{s t:Nat}{x is it kd f b a}(g:o.op=.convert s t x)(j:L.tt s=some is)(l:L.tt t=some it)(m:is.kind=.int f)(n:it.kind=.int kd)(p:ak env x=.lit (.int b a))(q:K (.lit (.int kd (kd.wrap a))) σ):aJ P o env σ K Kp:=
 aJ.val (s:=λc=>convert s t (c x)) (λc=>by simp[execOp,g]) λk O c e r=>by
  have h:=e x (by simp[g,Op.operands])
  rw[p]at h;rw[c8 h];unfold convert;refine af (aD L j λd _ hd=>af (aD L l λi _ u=>?_))
  have v:i=.int kd:=by cases i<;>simp_all [dv]
  have w:d=.int f:=by cases d<;>simp_all [dv]
  subst w v;exact ag (.here ⟨.refl k,_,σ,.lit _,r,q⟩)
def pM{b c x y kd p q}(d:o.op=.call ⟨.builtin b,#[x,y],c⟩)(g:ak env x=.lit (.int kd p))(h:ak env y=.lit (.int kd q))
 {r}(hb:(b=.min/\r=if q<p then q else p)\/(b=.max/\r=if q>p then q else p)) (i:K (.lit (.int kd r)) σ):aJ P o env σ K Kp:=λk O j a l=>by
 have e:=a x (by simp[d,Op.operands,Call.operands])
 have f:=a y (by simp[d,Op.operands,Call.operands])
 rw[g]at e;rw[h]at f;have m:=c8 e;have n:=c8 f
 have:execOp j o=pure (.value (.int kd r)):=by
  rcases hb with⟨rfl,rfl⟩|⟨rfl,rfl⟩<;>
  simp[execOp,d,resolve,invoke,builtin,m,n,Builtin.min_,Builtin.max_,Builtin.min2,Builtin.max2]
 rw[this];exact ag ⟨_,.inl rfl,.here ⟨.refl k,_,σ,.lit _,l,i⟩⟩
def mN{t:Nat}{x i}(l:o.op=.makeInterface t x)(m:L.tt t=some i)(n:i.kind≠.iface)(p:K (.kz t (ak env x)) σ):aJ P o env σ K Kp:=
 aJ.val (s:=λf=>Instr.makeInterface t (f x)) (λf=>by simp[execOp,l]) λk O f g q=>by
  unfold Instr.makeInterface;refine af (aD L m λd _ hd=>?_)
  have:∀ms,d≠.interface ms:=λms e=>by subst e;simp[dv]at hd;exact n hd
  have fin:dD P (pure (Value.iface t (f x)):Sem Value) k O (λv c h=>lQ c h λj r=>k.Le j/\∃a b,V j v a/\Rel j r b/\K a b) (λv c h=>k.Le c/\∃a b,V c v a/\Rel c h b/\Kp a b):=ag (.here ⟨.refl k,_,σ,.kz _ _ _ (g x (by simp[l,Op.operands])),q,p⟩)
  simp_all
def Vs.ofArray{k ρ env}{xs:Array abn}(h:∀x∈xs,V k (ρ x) (ak env x)):(xs.map ρ).size=(xs.toList.map (ak env)).length/\∀(i:Nat) v a,(xs.map ρ)[i]?=some v->(xs.toList.map (ak env))[i]?=some a->V k v a:=by
 refine⟨by simp,λi v a b c=>?_⟩
 grind
def ui{fn fs cs}(b:o.op=.makeFunc fn fs cs)(d:K (.fn fn (fs.toList.map (ak env)) (cs.toList.map (ak env))) σ):aJ P o env σ K Kp:=λk O ρ a e=>by
 have:execOp ρ o=pure (.value (.func fn (fs.map ρ) (cs.map ρ))):=by simp[execOp,b,Instr.makeFunc]
 rw[this];obtain⟨f,g⟩:=Vs.ofArray (k:=k) (ρ:=ρ) (env:=env) (xs:=fs) λx c=>a x (by simp[b,Op.operands,c])
 obtain⟨h,i⟩:=Vs.ofArray (k:=k) (ρ:=ρ) (env:=env) (xs:=cs) λx c=>a x (by simp[b,Op.operands,c])
 exact ag ⟨_,.inl rfl,.here ⟨.refl k,_,σ,.fn _ _ _ _ _ f g h i,e,d⟩⟩
def vK{x j l a}(e:o.op=.extract x j)(h:ak env x=.cH l)(i:l[j]?=some a)(m:K a σ):aJ P o env σ K Kp:=λk O f b n=>by
 have d:=b x (by simp[e,Op.operands]);rw[h]at d;generalize p:f x=v at d;cases d with
 | cH c l r q=>
   have g:j<c.size:=by grind
   have:execOp f o=pure (.value c[j]):=by simp[execOp,e,Instr.extract,p,g]
   rw[this];exact ag ⟨_,.inl rfl,.here ⟨.refl k,_,σ,q j _ a (by simp[g]) i,n,m⟩⟩
def qt{x}{z t:Nat}{i}{d:Nat}{y}(A:o.op=.typeAssert x z t true)(B:L.tt t=some i)(E:i.kind≠.iface)(F:ak env x=.kz d y)
 (n:K (if d=t then .cH [y,.lit (.bool true)]else .cH [kX i.zero,.lit (.bool false)]) σ):aJ P o env σ K Kp:=
 aJ.val (s:=λm=>Instr.typeAssert (m x) z t true) (λm=>by simp[execOp,A]) λk O m p C=>by
  have g:=p x (by simp[A,Op.operands]);rw[F]at g;generalize m x=v at g;cases g with
  | kz _ v _ G=>
    unfold Instr.typeAssert;refine af (aD L B λdd _ hd=>?_);have H:∀ms,dd≠.interface ms:=λms e=>by subst e;simp[dv]at hd;exact E hd
    have pair:∀{u:Value}{b:Bool}{a:AV},V k u a->V k (.tuple #[u,.bool b]) (.cH [a,.lit (.bool b)]):=λ{u b a} h=>.cH _ _ rfl λj w c g D=>by
     match j with
     |0=>simp_all
     |1=>simp at g D;subst g;subst D;exact .lit _
     |j+2=>simp at g
    have fin:dD P (if d=t then(pure (.tuple #[v,.bool true]):Sem Value)else(do pure (.tuple #[<-zeroValue t,.bool false]))) k O (λv l q=>lQ l q λr I=>k.Le r/\∃a f,V r v a/\Rel r I f/\K a f) (λv l q=>k.Le l/\∃a f,V l v a/\Rel l q f/\Kp a f):=by
     split at n
     . next e=>rw[YG e];exact ag (.here ⟨.refl k,_,σ,pair G,C,n⟩)
     next e=>rw[YA e];exact af (cM L B (ag (.here ⟨.refl k,_,σ,pair (.kX k _),C,n⟩)))
    simp_all
def eS{x}(g:o.op=.nilCheck x)(h:(∃v off,ak env x=.cp v off)\/(∃b off,ak env x=.ref b off)\/(∃f l r,ak env x=.fn (.func f) l r)\/∃b l hole off,ak env x=.kp b l hole off)(i:K (ak env x) σ):aJ P o env σ K Kp:=λk O c d j=>by
 have a:=d x (by simp[g,Op.operands])
 have:execOp c o=pure (.value (c x)):=by rcases h with⟨v,off,e⟩|⟨b,off,e⟩|⟨f,l,r,e⟩|⟨b,l,hole,off,e⟩<;>rw[e]at a<;>generalize m:c x=w at a<;>cases a<;>simp[execOp,g,m]
 rw[this];exact ag ⟨_,.inl rfl,.here ⟨.refl k,_,σ,a,j,i⟩⟩
def BA{x}{t:Nat}{y}(c:o.op=.panic x)(e:ak env x=.kz t y)(f:Kp (.kz t y) σ):aJ P o env σ K Kp:=λk O d a g=>by
 have b:=a x (by simp[c,Op.operands])
 rw[e]at b;generalize h:d x=w at b;cases b with
 | kz _ v _ i=>
   have:execOp d o=Sem.halt (.panic (.iface t v)):=by simp[execOp,c,h,Instr.panic,goPanic];rfl
   rw[this];exact⟨.refl k,_,σ,.kz _ _ _ i,g,f⟩
def BB{op}{t F e:Nat}{x y i kk es sp isNil}(r:o.op=.binOp op t x y F)(G:L.tt t=some i)(H:i.kind=.slice e)(I:ak env y=.nil)
 (J:(ak env x=.nil/\isNil=true)\/(ak env x=.sl kk es sp/\es≠[]/\isNil=false)\/(ak env x=.sl kk es sp/\sp≠.any/\isNil=false)){b}(l:(op=.eql/\b=isNil)\/(op=.neq/\b=!isNil)) (M:K (.lit (.bool b)) σ):aJ P o env σ K Kp:=
 aJ.val (s:=λf=>do eqGuard op t x y (f x) (f y);binOp op t (f x) (f y)) (λf=>by simp[execOp,r]) λk O f m N=>by
  have j:=m x (by simp[r,Op.operands])
  have u:=m y (by simp[r,Op.operands])
  rw[I]at u;have Q:f y=.slice none 0 0:=by generalize f y=w at u;cases u;rfl
  have z:∃a n c,f x=.slice a n c/\a.isNone=isNil:=by
   rcases J with⟨e,rfl⟩|⟨e,A,rfl⟩|⟨e,A,rfl⟩<;>rw[e]at j
   . generalize f x=w at j;cases j;simp_all
   . generalize f x=w at j
     cases j.Gw with
     |nil=>simp_all
     |row=>simp_all
   generalize f x=w at j;cases j.Gw with
   |nil a _ _ h=>simp_all
   |row=>simp_all
  obtain⟨a,n,c,z,E⟩:=z;rw[z,Q];have S:eqGuard op t x y (.slice a n c) (.slice none 0 0)=pure ():=by rcases l with⟨rfl,_⟩|⟨rfl,_⟩<;>simp[eqGuard]
  rw[S];refine af (ag ?_)
  have fin:∀{s:Sem Value},s=(do pure (.bool b))->dD P s k O (λv p B=>lQ p B λC T=>k.Le C/\∃a g,V C v a/\Rel C T g/\K a g) (λv p B=>k.Le p/\∃a g,V p v a/\Rel p B g/\Kp a g):=λe=>by rw[e];exact ag (.here ⟨.refl k,_,σ,.lit _,N,M⟩)
  have q:∀(R:Bool->ao->ai->Prop) (D:aaH),R isNil k O->dD P (Op.equal t (.slice a n c) (.slice none 0 0)) k O R D:=λR D U=>by
   show dD P (Op.equalIn (9999+1) t (.slice a n c) (.slice none 0 0)) k O R D;rw[Op.equalIn];refine af (aD L G λd _ hd=>?_)
   rw[bM hd H];cases a<;>simp at E<;>subst E<;>exact ag U
  rcases l with⟨rfl,rfl⟩|⟨rfl,rfl⟩
  . exact af (s:=Op.equal t (.slice a n c) (.slice none 0 0)) (q _ _ (fin rfl))
  exact af (s:=Op.equal t (.slice a n c) (.slice none 0 0)) (q _ _ (fin rfl))
end
def DG(a:AV)(kk:Nat)(es:List AV):Prop:=(a=.nil/\es=[])\/∃sp,a=.sl kk es sp
def Tok(σ0 σ:ab)(a:AV)(kk:Nat)(es:List AV):Prop:=σ0.Le σ/\((a=.nil/\es=[])\/a=.sl kk es .exact\/∃b e,σ0 b=none/\a=.sl kk es (.tok b e)/\σ b=some (.tail e))
def Tok.Pv{σ0 σ a kk es}(h:Tok σ0 σ a kk es):DG a kk es:=by
 rcases h.2 with h|h|⟨b,e,_,h,_⟩
 . exact .inl h
 . exact .inr ⟨_,h⟩
 exact .inr ⟨_,h⟩
def DG.W{a kk es}(h:DG a kk es):a.W (.sl kk es .any):=by
 rcases h with⟨rfl,rfl⟩|⟨sp,rfl⟩
 . exact lR kk
 exact jH kk es sp
def Tok.W{σ0 σ a kk es}(h:Tok σ0 σ a kk es):a.W (.sl kk es .any):=h.Pv.W
def Tok.nil  σ   kk :Tok σ σ .nil kk []:=⟨λ_ _ h=>h,.inl ⟨rfl,rfl⟩⟩
def Tok.exact  σ   kk   es :Tok σ σ (.sl kk es .exact) kk es:=⟨λ_ _ h=>h,.inr (.inl rfl)⟩
section
variable{P:abm}(L:iT P){k:ao}{O:ai}{Kp:aaH}
def yf{K b off N E}:∀  vs   i   k   O ,O b=some (.tail (off+i))->k.sh b=some (E,N)->off+i+vs.length<=N->(∀v∈vs,flat v=true) ->
 (∀k' O',k.Le k'->(∀  j  v,vs[j]?=some v->k'.cell b (off+i+j)=some v)->O'=O.set b (.tail (off+i+vs.length))->K () k' O')->dD P (storeCells ⟨b,off,none⟩ vs i) k O K Kp:=by
 intro vs;induction vs with
 | nil=>
   intro i k O e f hlen g h;refine ag (h k O (.refl k) (λj v d=>by simp at d) ?_);funext x;by_cases a:x=b
   . subst a;simp[ai.set,e]
   simp[ai.set,a]
 | cons v vs l=>
   intro i k O e f hlen g h;simp only[Zh]at hlen;unfold storeCells;rw[ib];refine af (s:=store ⟨b,off+i,none⟩ v) ⟨rfl,g v (by simp),rfl,.inr (.inl ⟨E,N,e,f,by grind,λm=>?_⟩)⟩;refine l (i+1) _ _ (by simp[ai.set];omega) f (by omega) (λu n=>g u (by simp[n])) λk' O' c p o=>?_
   refine h k' O' ((ao.Le.put m).trans c) (λj u d=>?_) ?_
   . cases j with
     |zero=>simp at d;subst d;exact c.cell _ _ _ (by simp[ao.put])
     |succ j=>grind
   rw[o];funext x;by_cases a:x=b
   . subst a;simp[ai.set];omega
   simp[ai.set,a]
def nextslicecap_le{ig c}(h:c<ig):Builtin.nextslicecap ig c<=4*ig+2000:=by
 have g:∀(r c b:Nat),c<=b->Builtin.growBy ig r c<=max b ((ig+(ig+768) / 4)):=by
  intro r;induction r with
  |zero=>intro c b hb;simp only[Builtin.growBy];omega
  | succ r a=>
    intro c b hb;simp only[Builtin.growBy];split
    . omega
    grind
 unfold Builtin.nextslicecap;split
 . omega
 split
 . omega
 refine YO (g 4 c ig (by omega)) (by omega)
def pN{K v a kk es n}(g:V k v a)(i:DG a kk es)(l:n<=es.length)
 (h:∀c ,c.size=n*kk->(∀(j:Nat) u x,c[j]?=some u->(flatten es)[j]?=some x->V k u x)->(∀(j:Nat) u,c[j]?=some u->flat u=true)->K c k O):dD P (Builtin.firstCells kk n v) k O K Kp:=by
 rcases i with⟨rfl,rfl⟩|⟨sp,rfl⟩
 . cases g
   have:n=0:=by simp_all
   subst this;exact ag (h #[] (by simp) (λj u x d=>by simp at d) (λj u d=>by simp at d))
 cases g.Gw with
 | nil a=>
   have:n=0:=by simp_all
   subst this;have e:Builtin.firstCells kk 0 (.slice a 0 0)=pure #[]:=by cases a<;>simp[Builtin.firstCells,loadCells,loadCellsFrom]
   rw[e];exact ag (h #[] (by simp) (λj u x d=>by simp at d) (λj u d=>by simp at d))
 | row b off cap _ N E _ _ t w y m o z=>
   unfold Builtin.firstCells loadCells;have f:=bG m;have p:n*kk<=(flatten es).length:=by rw[f];exact Zw kk l
   rw[show(⟨b,off,none⟩:Addr)=⟨b,off+0,none⟩by rfl]
   refine iV (o O) (n*kk) 0 #[] (by omega) λvs q r s=>?_
   grind
def IX{K v a kk es}(b:V k v a)(e:DG a kk es)(d:K es.length k O):dD P (Builtin.lenOf v) k O K Kp:=by
 rcases e with⟨rfl,rfl⟩|⟨sp,rfl⟩
 . cases b;exact ag d
 obtain⟨x,c,rfl⟩:=b.Gw.len;exact ag d
end
def uP{P k O Kp K E c n}(t:n<=c.size)
 (i:∀r k' O',Fp k O r->(lQ k' O' λf l=>k.Le f/\(∀j v,j<n->c[j]?=some v->f.cell r j=some v)/\f.sh r=some (E,c.size)/\(∀σ,Rel k O σ->Rel f l (σ.set r (.tail n))))->K ⟨r,0,none⟩ k' O'):dD P (newRow E c) k O K Kp:=by
 refine af (s:=newObj (.cells c E)) ⟨rfl,λr g=>ag (i r _ _ g ?_)⟩
 obtain⟨f1,m,o⟩:=g;have a:k.Le (k.made r (.cells c E)):=.made o;have d:∀j,(k.made r (.cells c E)).cell r j=none:=m;refine⟨_,_,nu (n:=n) (c:=c) (e:=E) (r:=r) (by simp[ai.set]) (by simp[ao.made,ao.dX]),a.trans (.vF d),λj v p q=>by simp only[ao.vF,true_and,p,YD];exact q,by simp[ao.vF,ao.made,ao.dX],λσ h=>?_⟩
 have:((O.set r (.obj (.cells c E))).set r (.tail n))=O.set r (.tail n):=by funext b;by_cases hb:b=r<;>simp[ai.set,hb]
 rw[this];exact(h.mono (a.trans (.vF d))).set (.tail n)
section
variable{P:abm}(L:iT P){o:Oper}{env:Env}{σ:ab}{K:AV->ab->Prop}{Kp:AV->ab->Prop}
def oJ{k O Kp K n}(h:K () k O):dD P (askRoom n) k O K Kp:=by
 unfold askRoom;split
 . exact⟨rfl,h⟩
 exact h
def aQ{s x I t t2 e e2 it a8 g σ0 es xs}(ho:o.op=.call ⟨.builtin .append,#[s,x],I⟩)(h0:I[0]?=some t)(h1:I[1]?=some t2)(ht:L.tt t=some it)(hk:it.kind=.slice e)
 (aC:L.tt t2=some a8) (aE:a8.kind=.slice e2) (he:L.tt e=some g) (hb:g.bytes<=1024) (hlen:es.length+xs.length<=1073741824) (hs:Tok σ0 σ (ak env s) g.size es) (J:DG (ak env x) g.size xs)
 (hK:∀a' σ',Tok σ0 σ' a' g.size (es++xs)->K a' σ'):aJ P o env σ K Kp:=λk O ρ hv S=>by
 have D:=hv s (by simp[ho,Op.operands,Call.operands])
 have w:=hv x (by simp[ho,Op.operands,Call.operands])
 have:execOp ρ o=(do pure (Next.value (<-Builtin.append_ I o.type #[ρ s,ρ x]))):=by simp[execOp,ho,resolve,invoke,builtin]
 rw[this];refine af ?_;have aL:g.zero.cells.size=g.size:=by obtain⟨_,_,_,_,_,_,h⟩:=L.facts he;exact h
 have aO:∃base cap,ρ s=.slice base es.length cap/\((((ak env s=.nil/\base=none)\/(ak env s=.sl g.size [] .exact/\∃a,base=some a))/\cap=0/\es=[])\/
  ∃ b off N E sp,base=some ⟨b,off,none⟩/\ak env s=.sl g.size es sp/\es.length<=cap/\k.sh b=some (E,N)/\off+cap*g.size<=N/\(∀e∈es,e.cells.length=g.size)/\
    (∀(j:Nat) a,(flatten es)[j]?=some a->∃v,k.cell b (off+j)=some v/\V k v a/\cr.flat v=true)/\sp.fits b off es.length g.size cap/\(sp=.exact\/∃e,σ0 b=none/\sp=.tok b e/\σ b=some (.tail e))):=by
  rcases hs.2 with⟨h,rfl⟩|h|⟨b,en,a9,h,F⟩<;>rw[h]at D
  . generalize ρ s=v at D;cases D;simp_all
  . rcases D.kA with⟨a0,q0,rfl,q⟩|⟨b,off,cap,N,E,q1,q2,q3,q4,q5,q6,q7⟩
    . rcases q with q|⟨_,q⟩
      . cases q
      cases a0 with
      |none=>cases q
      |some a0=>grind
    grind
  rcases D.kA with⟨_,_,_,q⟩|⟨b',off,cap,N,E,q1,q2,q3,q4,q5,q6,q7⟩
  . simp_all
  obtain⟨rfl,_⟩:=id q7
  grind
 obtain⟨base,cap,ad,M⟩:=aO;have l:=hs.1;unfold Builtin.append_;simp only[h0,h1,aac,ZX,aax];refine af (aD L ht λd _ hd=>?_)
 rw[bM hd hk,ad];dsimp only;refine af (bF L he ?_);refine af (aD L aC λd2 _ T=>?_)
 rw[bM T aE];refine af (ag ?_);dsimp only;simp only[LK,Rp,Bool.not_false,YD];refine af (IX w J ?_)
 by_cases m:es.length+xs.length<=cap
 ·
  rw[YG m];refine af (pN w J (YF _) λc U W Q=>?_)
  rcases M with⟨⟨B,rfl⟩|⟨B,a0,rfl⟩,rfl,rfl⟩|⟨b,off,N,E,sp,rfl,B,g1,g2,g3,g4,g5,g6,rfl|⟨en,a9,rfl,F⟩⟩
  . have A:xs=[]:=by simp_all
    subst A;dsimp only;refine ag ?_;refine ag ⟨_,.inl rfl,.here ⟨.refl k,.nil,σ,?_,S,hK _ _ ⟨l,.inl ⟨rfl,rfl⟩⟩⟩⟩
    simp_all
  . have A:xs=[]:=by simp_all
    subst A
    have X:c.toList=[]:=by simp_all
    dsimp only;rw[X];refine af (ag ?_);refine ag (ag ⟨_,.inl rfl,.here ⟨.refl k,.sl g.size [] .exact,σ,?_,S,hK _ _ ⟨l,.inr (.inl (by simp))⟩⟩⟩)
    simp_all
  . have bw:cap=es.length:=g6
    have A:xs=[]:=by cases xs with|nil=>rfl|cons _ _=>grind
    subst A
    have X:c.toList=[]:=by simp_all
    dsimp only;rw[X];refine af (ag ?_);refine ag (ag ⟨_,.inl rfl,.here ⟨.refl k,.sl g.size es .exact,σ,?_,S,hK _ _ ⟨l,.inr (.inl (by simp))⟩⟩⟩)
    simp_all
  obtain⟨_,bB⟩:=g6;obtain⟨y,hO,hy⟩:=S.1 b _ F (by simp)
  cases hy;dsimp only;rw[ib]
  have c5:(flatten xs).length=c.size/\∀e∈xs,e.cells.length=g.size:=by
   rcases J with⟨_,rfl⟩|⟨sp,J⟩
   . exact⟨by simp[flatten];simp_all,by simp⟩
   rw[J]at w
   rcases w.kA with⟨_,_,rfl,_⟩|⟨_,_,_,_,_,_,_,_,_,q5,_⟩
   . exact⟨by simp[flatten];simp_all,by simp⟩
   exact⟨by rw[bG q5,U],q5⟩
  have hmul:off+(es.length+xs.length)*g.size<=N:=YO (Nat.add_le_add_left (Zw _ m) off) g3;rw[aav]at hmul;refine af (yf c.toList 0 k O (by simp_all) g2 (by grind) (λu hu=>?_) λk' O' i p b0=>?_)
  . obtain⟨j,hj,rfl⟩:=Za.1 hu
    exact Q j _ (by simp_all)
  refine ag (ag ⟨_,.inl rfl,.here ⟨i,.sl g.size (es++xs) (.tok b (off+(es++xs).length*g.size)),σ.set b (.tail (off+(es++xs).length*g.size)),?_,?_,hK _ _ ⟨?_,.inr (.inr ⟨b,_,a9,rfl,by simp[ab.set]⟩)⟩⟩⟩)
  . rw[show es.length+xs.length=(es++xs).length by simp]
    refine V.ofRow (by simp_all) (i.sh _ _ g2) g3 (λz hz=>?_) (λj a B=>?_) ⟨rfl,rfl⟩
    . grind
    rw[flatten_append]at B
    by_cases hj:j<(flatten es).length
    . rw[Zn hj]at B
      obtain⟨u,hu,b1,b2⟩:=g5 j a B;exact⟨u,i.cell _ _ _ hu,b1.mono i,b2⟩
    rw[YR (by omega)]at B
    have G:j-(flatten es).length<c.size:=by grind
    have C:c[j-(flatten es).length]?=some c[j-(flatten es).length]:=by simp[G]
    refine⟨_,?_,(W _ _ a C B).mono i,Q _ _ C⟩;have:=p (j-(flatten es).length) _ (by rw[aaE];exact C)
    rw[<-this];congr 1;have b3:=bG g4;omega
  . rw[b0]
    have:off+es.length*g.size+0+c.toList.length=off+(es++xs).length*g.size:=by grind
    rw[this];exact(S.mono i).set (.tail _)
  intro b' y hy;have:b'≠b:=λq=>by simp_all
  simp[ab.set,this,l b' y hy]
 rw[YA m]
 have al:¬((es.length+xs.length:Nat):Int)>IntKind.i64.max:=by have:IntKind.i64.max=9223372036854775807:=rfl;omega
 refine af (cN L he λinfo _ _ c6 _=>?_)
 rw[YA (λq=>al q.1)]
 refine af (cN L he λY _ _ av _=>?_)
 have Z:=nextslicecap_le (Nat.lt_of_not_le m)
 have a7:¬(Builtin.nextslicecap (es.length+xs.length) cap*Y.bytes>2 ^ 48):=by rw[av];have h1:Builtin.nextslicecap (es.length+xs.length) cap*g.bytes<=(4*(es.length+xs.length)+2000)*1024:=Nat.mul_le_mul Z hb;omega
 rw[YA a7];refine af (s:=choose _) (λt=>?_)
 have H:(Question.appendCap (es.length+xs.length) cap e).forced=false:=rfl;rw[H];simp only[LK,Rp];have b4:∃f,(Question.appendCap (es.length+xs.length) cap e).cut t=f/\es.length+xs.length<=f:=⟨_,rfl,by simp only[Question.cut];omega⟩
 obtain⟨f,ax,bx⟩:=b4;rw[ax];refine ag ?_;refine af (cN L he λb5 _ _ _ _=>?_)
 refine af (oJ ?_);refine af (pN (a:=ak env s) (by grind) hs.Pv (YF _) λc U W Q=>?_)
 refine af (pN w J (YF _) λd b6 T b7=>?_)
 refine af (cM L he ?_)
 have b8:∀e∈es,e.cells.length=g.size:=by grind
 have A:∀e∈xs,e.cells.length=g.size:=by
  rcases J with⟨_,rfl⟩|⟨sp,J⟩
  . simp
  rw[J]at w
  rcases w.kA with⟨_,_,rfl,_⟩|⟨_,_,_,_,_,_,_,_,_,q5,_⟩
  . simp
  exact q5
 have b9:(Builtin.zeroCells g.zero.cells (f-(es.length+xs.length))).size=(f-(es.length+xs.length))*g.size:=by simp[Builtin.zeroCells,aL]
 refine af (uP (n:=(es.length+xs.length)*g.size) ?_ λr k' O' R ht=>ag (ag ⟨_,.inl rfl,?_⟩))
 . grind
 obtain⟨k2,O2,hg,i,p,bm,bA⟩:=ht;refine⟨k2,O2,hg,i,.sl g.size (es++xs) (.tok r ((es++xs).length*g.size)),σ.set r (.tail ((es++xs).length*g.size)),?_,?_,hK _ _ ⟨?_,.inr (.inr ⟨r,_,?_,rfl,by simp[ab.set]⟩)⟩⟩
 . rw [show es.length+xs.length=(es++xs).length by simp]
   refine V.ofRow (by grind) bm ?_ (λz hz=>?_) (λj a B=>?_) ⟨rfl,by omega⟩
   . simp only[Array.size_append,U,b6,b9]
     have:f*g.size=(es.length+xs.length)*g.size+(f-(es.length+xs.length))*g.size:=by rw[<-Nat.add_mul];grind
     grind
   . grind
   rw[flatten_append]at B;have b3:=bG b8;have c7:=bG A;rw[ZP]
   by_cases hj:j<(flatten es).length
   . rw[Zn hj]at B
     have G:j<c.size:=by omega
     have C:c[j]?=some c[j]:=by simp[G]
     refine⟨c[j],p j _ ?_ ?_,(W j _ a C B).mono i,Q j _ C⟩
     . grind
     grind
   rw[YR (by omega)]at B
   have G:j-(flatten es).length<d.size:=by grind
   have ay:d[j-(flatten es).length]?=some d[j-(flatten es).length]:=by simp[G]
   refine⟨_,p j _ ?_ ?_,(T _ _ a ay B).mono i,b7 _ _ ay⟩
   . grind
   grind
 . grind
 . intro b' y hy
   have h1:=l b' y hy;have:b'≠r:=λq=>by rw[q,S.isNone R.1 R.2.2]at h1;cases h1
   simp[ab.set,this,h1]
 cases q:σ0 r with
 |none=>rfl
 |some y=>have:=l r y q;rw[S.isNone R.1 R.2.2]at this;cases this
end
