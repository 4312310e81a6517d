import Derived.Conc.Beside
import Derived.Test.YtggpckcdfilkoaaGreatDoorC1
set_option linter.all false
namespace Go.bu
open Go.Conc
abbrev ZD:=az->au->Goroutine->Prop
abbrev FU:=Value->az->au->Prop
abbrev ZF:=Nat->au
abbrev Zz:=Nat->az
def iz(P:Rg)(W0:World)(k:az)(O:au)(g:YB)(gs:Da)(w:World)(t:Trace):Prop:=
 ∃ (na:Loc->Prop) (q:Ct),gs[0]?=some g/\Leavers P t gs q/\Past na w.heap.size t/\
   (∀a,na (.cell a)->a.block<w.heap.size/\¬bS O a.block a.off/\k.cell a.block a.off=none)/\(∀r,na (.obj r)->r<w.heap.size/\∀o,O r≠some (.obj o))/\Sat k O w/\vP W0 w/\∀b x,O b=some x->W0.heap.size<=b
def Ha(P:Rg)(k:az)(O:au)(g:YB)(N:ZD):Prop:=∀W0 gs w sl t,iz P W0 k O g gs w t->∃n a c b d e f g',runNT P n (crowd gs w sl) t=(.next (crowd a c b),d)/\iz P W0 e f g' a c d/\N e f g'
def Hb(P:Rg)(γ:Bool)(k:az)(O:au)(g:YB)(N:ZD):Prop:=∀w,Sat k O w->∃g' a es b c,stepG P γ g w=.go g' a es/\Eff k O w b c a es.toList/\Sat b c a/\N b c g'
def qp(k:az)(O:au)(a:az)(b:au):Prop:=∀w,Sat k O w->Sat a b w/\Eff k O w a b w []
structure Mo where
 main:Bool
 solo:Bool
 fY:az->au->YB->ZD->Prop
inductive T(P:Rg)(m:Mo)(Q:ZD):ZD
 |stop {k:az}{O:au}{g:YB}:Q k O g->T P m Q k O g
 |step {k:az}{O:au}{g:YB}(N:ZD):g.status=.running->(∀k' O' g',N k' O' g'->T P m Q k' O' g')->Hb P m.main k O g N->T P m Q k O g
 |ghost {k k2:az}{O O2:au}{g:YB}:qp k O k2 O2->T P m Q k2 O2 g->T P m Q k O g
 |phase {k:az}{O:au}{g:YB}(N:ZD):m.solo=true->(∀k' O' g',N k' O' g'->T P m Q k' O' g')->Ha P k O g N->T P m Q k O g
 |fY {k:az}{O:au}{g:YB}(N:ZD):g.status=.running->m.fY k O g N->(∀k' O' g',N k' O' g'->T P m Q k' O' g')->T P m Q k O g
inductive tH where
 |any
 |exact
 |tok (b e:Nat)
inductive AV where
 |lit (v:Value)
 |eT
 |agg (l:List AV)
 |cx (l:List AV)
 |sl (k:Nat) (es:List AV) (sp:tH)
 |cp (v:AV) (off:Nat)
 |kp (b:Nat) (l:List AV) (hole:ZB) (off:Nat)
 |ref (b off:Nat)
 |mJ (b off len cap:Nat)
 |fn (f:Fn) (first captured:List AV)
 |pH (t:TypeId) (v:AV)
 |map (b:Nat)
 |chan (b:Nat)
instance:Inhabited AV:=⟨.eT⟩
def AV.cells:AV->List AV
 |.agg l=>l
 |v=>[v]
def RP(es:List AV):List AV:=es.flatMap AV.cells
def tH.fits(b off len kk cap:Nat):tH->Prop
 |.any=>True
 |.exact=>cap=len
 |.tok a e=>a=b/\e=off+len*kk
inductive V(k:az):Value->AV->Prop
 |lit (v:Value):V k v (.lit v)
 |eT (v:Value):V k v .eT
 |agg (c:E7) (l:List AV):c.size=l.length->(∀(i:Nat) v a,c[i]?=some v->l[i]?=some a->V k v a)->V k (.agg c) (.agg l)
 |cx (c:E7) (l:List AV):c.size=l.length->(∀(i:Nat) v a,c[i]?=some v->l[i]?=some a->V k v a)->V k (.tuple c) (.cx l)
 | sl (b off cap kk N:Nat) (E:TypeId) (es:List AV) (sp:tH) (c:Nat->Value):es.length<=cap->k.sh b=some (E,N)->off+cap*kk<=N->(∀e∈es,e.cells.length=kk) ->
    (∀j,j<(RP es).length->k.cell b (off+j)=some (c j)/\flat (c j)=true)->(∀(j:Nat) a,(RP es)[j]?=some a->V k (c j) a)->sp.fits b off es.length kk cap ->
    V k (.slice (some ⟨b,off,none⟩) es.length cap) (.sl kk es sp)
 |slnil (a:Option Addr) (kk:Nat) (sp:tH):(sp=.any\/(sp=.exact/\a.isSome=true))->V k (.slice a 0 0) (.sl kk [] sp)
 | cp (b base off N:Nat) (E:TypeId) (v:AV) (c:Nat->Value):k.sh b=some (E,N)->base+v.cells.length<=N->(∀j,j<v.cells.length->k.cell b (base+j)=some (c j)/\flat (c j)=true)->(∀(j:Nat) a,v.cells[j]?=some a->V k (c j) a) ->
    V k (.pointer (some ⟨b,base+off,none⟩)) (.cp v off)
 | kp (b off N:Nat) (E:TypeId) (l:List AV) (hole:ZB) (c:Nat->Value):k.sh b=some (E,N)->l.length<=N->(∀j,j<l.length->j∉hole->k.cell b j=some (c j)/\flat (c j)=true)->(∀(j:Nat) a,j∉hole->l[j]?=some a->V k (c j) a) ->
    V k (.pointer (some ⟨b,off,none⟩)) (.kp b l hole off)
 |ref (b off:Nat):V k (.pointer (some ⟨b,off,none⟩)) (.ref b off)
 |mJ (b off len cap:Nat):V k (.slice (some ⟨b,off,none⟩) len cap) (.mJ b off len cap)
 | fn (f:Fn) (c1 c2:E7) (l1 l2:List AV):c1.size=l1.length->(∀(i:Nat) v a,c1[i]?=some v->l1[i]?=some a->V k v a)->c2.size=l2.length->(∀(i:Nat) v a,c2[i]?=some v->l2[i]?=some a->V k v a) ->
    V k (.func f c1 c2) (.fn f l1 l2)
 |pH (t:TypeId) (v:Value) (a:AV):V k v a->V k (.iface t v) (.pH t a)
 |map (b:Nat):V k (.map (some b)) (.map b)
 |chan (b:Nat):V k (.chan (some b)) (.chan b)
def V.mono{k k'}(g:k.Le k'){v a}(h:V k v a):V k' v a:=by
 induction h with
 |lit v=>exact .lit v
 |eT v=>exact .eT v
 |agg c l d _ e=>exact .agg c l d e
 |cx c l d _ e=>exact .cx c l d e
 |sl b off cap m N E es sp c d s n u r _ w e=>exact .sl b off cap m N E es sp c d (g.sh _ _ s) n u (λj i=>⟨g.cell _ _ _ (r j i).1,(r j i).2⟩) e w
 |slnil a m sp h=>exact .slnil a m sp h
 |cp b base off N E v c o hb d _ e=>exact .cp b base off N E v c (g.sh _ _ o) hb (λj i=>⟨g.cell _ _ _ (d j i).1,(d j i).2⟩) e
 |kp b off N E l hole c o hb d _ e=>exact .kp b off N E l hole c (g.sh _ _ o) hb (λj i B=>⟨g.cell _ _ _ am,am⟩) e
 |ref b off=>exact .ref b off
 |mJ b off len cap=>exact .mJ b off len cap
 |fn f x y z A d _ n _ p q=>exact .fn f x y z A d p n q
 |pH t v a _ e=>exact .pH t v a e
 |map b=>exact .map b
 |chan b=>exact .chan b
def Vs(k:az)(c:EI)(l:List AV):Prop:=c.length=l.length/\∀(i:Nat) v a,c[i]?=some v->l[i]?=some a->V k v a
theorem Vs.nil{k}:Vs k [] []:=⟨rfl,λi v a h=>by simp at h⟩
def Vs.cons{k v a c l}(h:V k v a)(b:Vs k c l):Vs k (v::c) (a::l):=
 ⟨by simp[b.1],λi d e f g=>by
   cases i with
   |zero=>grind
   |succ i=>exact b.2 i d e f g⟩
def Vs.mono{k k'}(b:k.Le k'){c l}(h:Vs k c l):Vs k' c l:=⟨h.1,λi v a d e=>(h.2 i v a d e).mono b⟩
def Vs.append{k c c' l e}(h:Vs k c l)(f:Vs k c' e):Vs k (c++c') (l++e):=
 ⟨by simp[h.1,f.1],λi v a b d=>by
   by_cases g:i<c.length
   . rw[KX g]at b
     rw[KX (by rw[<-h.1];omega)]at d;exact h.2 i v a b d
   . rw[Fi ac]at b
     rw[Fi (by rw[<-h.1];omega),<-h.1]at d;exact f.2 _ v a b d⟩
abbrev Env:=Nat->AV
def Env.upd(ε:Env)(t:Nat)(v:AV):Env:=λu=>if u=t then v else ε u
def kz(k:az)(τ:E7)(ε:Env):Prop:=∀t,t<τ.size->V k (τ.getD t undef) (ε t)
def kz.mono{k k' τ ε}(h:kz k τ ε)(a:k.Le k'):kz k' τ ε:=λt b=>(h t b).mono a
structure BC where
 state:LoopState
 pending:Option Code
 fn:FuncId
 n:Nat
 env:Env
 params:Array Tmp
 assign:Code
 body:Code
 defers:Nat
inductive uK where
 |cells (l:List AV)
 |tail (n:Nat)
 |part (f:Nat->FP)
 |map (m:List (AV × AV))
 |loop (l:BC)
 |raw (o:Obj)
 |mC
 |stay (l:List AV)
abbrev af:=Nat->Option uK
def af.set(σ:af)(b:Nat)(x:uK):af:=λc=>if c=b then some x else σ c
def af.del(σ:af)(b:Nat):af:=λc=>if c=b then none else σ c
def af.Le(σ σ':af):Prop:=∀b x,σ b=some x->σ' b=some x
inductive qf(k:az):Own->uK->Prop
 |cells (c:E7) (e:TypeId) (l:List AV):c.size=l.length->(∀(i:Nat) v a,c[i]?=some v->l[i]?=some a->V k v a)->(∀(i:Nat) v,c[i]?=some v->flat v=true)->qf k (.obj (.cells c e (0,0))) (.cells l)
 |tail (n:Nat):qf k (.tail n) (.tail n)
 |part (f:Nat->FP):qf k (.part f) (.part f)
 |map (es:Array MapEntry) (clock:Nat) (m:List (AV × AV)):es.size=m.length->(∀(i:Nat) e p,es[i]?=some e->m[i]?=some p->V k e.key p.1/\V k e.val p.2)->qf k (.obj (.map es clock)) (.map m)
 |loop (a:BC) (τ:E7):τ.size=a.n->kz k τ a.env->qf k (.obj (.loop ⟨a.state,a.pending,a.fn,τ,a.params,a.assign,a.body,a.defers⟩)) (.loop a)
 |raw (o:Obj):mZ o=false->qf k (.obj o) (.raw o)
def qf.mono{k k'}(g:k.Le k'){x a}(h:qf k x a):qf k' x a:=by
 cases h with
 |cells c e l d b r=>exact .cells c e l d (λi v a s t=>(b i v a s t).mono g) r
 |tail n=>exact .tail n
 |part f=>exact .part f
 |map es clock m d b=>exact .map es clock m d λi e p j q=>⟨(b i e p j q).1.mono g,(b i e p j q).2.mono g⟩
 |loop a τ d b=>exact .loop a τ d (b.mono g)
 |raw o h=>exact .raw o h
@[simp] def uK.gone:uK->Bool
  |.mC=>true
  |.stay _=>true
  |_=>false
def Yy(k:az)(b:Nat)(l:List AV):Prop:=∀(i:Nat) a,l[i]?=some a->∃v,k.cell b i=some v/\V k v a/\flat v=true
def Rel(k:az)(O:au)(σ:af):Prop:=(∀b a,σ b=some a->a.gone=false->∃x,O b=some x/\qf k x a)/\∀b a,σ b=some a->a.gone=true->O b=none/\(∃s,k.sh b=some s)/\∀l,a=.stay l->Yy k b l
def Rel.mono{k k' O σ}(h:Rel k O σ)(c:k.Le k'):Rel k' O σ:=⟨λb a e n=>let ⟨x,d,f⟩:=h.1 b a e n;⟨x,d,f.mono c⟩,λb a e n=>let ⟨d,⟨s,f⟩,g⟩:=h.2 b a e n;⟨d,⟨s,c.sh _ _ f⟩,λl q i x j=>let ⟨v,m,o,p⟩:=g l q i x j;⟨v,c.cell _ _ _ m,o.mono c,p⟩⟩⟩
def Rel.le{k O σ σ'}(h:Rel k O σ)(c:σ'.Le σ):Rel k O σ':=⟨λb a e=>h.1 b a (c b a e),λb a e=>h.2 b a (c b a e)⟩
def qf.Rr{k x a}(h:qf k x a):a.gone=false:=by cases h<;>rfl
def Rel.set{k O σ}(h:Rel k O σ){b x a}(j:qf k x a):Rel k (O.set b x) (σ.set b a):=⟨λc y e f=>by
 by_cases d:c=b
 . subst d
   simp  [af.set]at e;subst e;exact⟨x,by simp[au.set],j⟩
 . simp  [af.set,d]at e
   obtain⟨z,g,i⟩:=h.1 c y e f;exact⟨z,by simp[au.set,d,g],i⟩,λc y e f=>by
 by_cases d:c=b
 . subst d
   simp  [af.set]at e;subst e;rw[j.Rr]at f;grind
 . simp  [af.set,d]at e
   obtain⟨g,i⟩:=h.2 c y e f;exact⟨by simp[au.set,d,g],i⟩⟩
def Rel.drop{k O σ}(h:Rel k O σ)  b   x :Rel k (O.set b x) (σ.del b):=⟨λc y e d=>by
 unfold af.del at e;split at e
 . cases e
 . next a=>obtain⟨z,f,g⟩:=h.1 c y e d;exact⟨z,by simp[au.set,a,f],g⟩,λc y e d=>by
 unfold af.del at e;split at e
 . cases e
 . next a=>obtain⟨f,g⟩:=h.2 c y e d;exact⟨by simp[au.set,a,f],g⟩⟩
def Rel.isNone{k O σ}(h:Rel k O σ){b}(hb:O b=none)(d:k.sh b=none):σ b=none:=by
 cases e:σ b with
 |none=>rfl
 | some a=>
   cases c:a.gone with
   | true=>
     obtain⟨_,⟨s,f⟩,_⟩:=h.2 b a e c
     grind
   |false=>obtain⟨x,g,_⟩:=h.1 b a e c;grind
def kz.upd{k τ ε}(h:kz k τ ε){t v a}(c:V k v a):kz k (τ.setIfInBounds t v) (ε.upd t a):=λu d=>by
 have b:u<τ.size:=am
 by_cases e:u=t
 . subst e
   have:(τ.setIfInBounds u v).getD u undef=v:=aq
   rw[this];simpa[Env.upd]using c
 . have:(τ.setIfInBounds t v).getD u undef=τ.getD u undef:=by
    simp
    grind
   rw[this];simpa[Env.upd,e]using h u b
def aA(ε:Env):I8->AV
 |.tmp t=>ε t
 |.const v=>.lit v
 |.global g=>.ref g 0
 |.func f=>.fn (.func f) [] []
def Operand.ok(n:Nat):I8->Bool
 |.tmp t=>t<n
 |_=>true
def V.eval{k}{fr:Frame}{ε}(h:kz k fr.tmps ε){n}(a:fr.tmps.size=n)  o  (b:Operand.ok n o=true):V k (fr.eval o) (aA ε o):=by
 cases o with
 |tmp t=>exact h t (by simpa[Operand.ok,a]using b)
 |const v=>exact .lit v
 |global g=>exact .ref g 0
 |func f=>exact .fn _ _ _ _ _ rfl am rfl am
inductive Fg where
 |mark (r:Nat)
 |call (f:Fn) (captured args:List AV)
def AF(k:az)(d:Deferred):Fg->Prop
 |.mark r=>d={target:=.collected r,args:=#[]}
 |.call f cap args=>∃a b,d={target:=.fn f a,args:=b}/\Vs k a.toList cap/\Vs k b.toList args
def FW(k:az):List Deferred->List Fg->Prop
 |[],[]=>True
 |d::ds,a::D=>AF k d a/\FW k ds D
 |_,_=>False
def AF.mono{k k'}(b:k.Le k'){d a}(h:AF k d a):AF k' d a:=by
 cases a with
 |mark r=>exact h
 |call f cap args=>obtain⟨c,e,g,i,j⟩:=h;exact⟨c,e,g,i.mono b,j.mono b⟩
def FW.mono{k k'}(a:k.Le k'):∀{ds D},FW k ds D->FW k' ds D
 |[],[],h=>h
 |_::_,_::_,h=>⟨h.1.mono a,h.2.mono a⟩
 |[],_::_,h=>h.elim
 |_::_,[],h=>h.elim
inductive Rec where
 |no
 |can (v:AV)
 |did
 |told (ν:FB) (cs:E8) (k0:az)
structure St where
 env:Env
 σ:af
 D:List Fg
 rc:Rec
def oV:Rec->E8->E8
 |.did,c::μ=>(match c.mode with|.panicking (e::a)=>{c with mode:=.panicking ({e with recovered:=true}::a)}|_=>c)::μ
 |_,cs=>cs
def Hc(k:az)(ν:FB)(cs:E8):Rec->Prop
 |.can v=>ν=.deferred/\∃c μ b,cs=c::μ/\c.mode=.panicking [⟨b,false,false⟩]/\V k b v
 |.told kd a d=>ν=kd/\cs=a/\d.Le k
 |_=>True
def Hc.mono{k k'}(a:k.Le k'){ν cs r}(h:Hc k ν cs r):Hc k' ν cs r:=by
 cases r with
 |can v=>obtain⟨b,c,μ,d,e,f,g⟩:=h;exact⟨b,c,μ,d,e,f,g.mono a⟩
 |told kd i j=>exact⟨h.1,h.2.1,h.2.2.trans a⟩
 |_=>exact h
inductive Exit where
 |leave (jump:Option Code)
 |panic (v:AV)
def Leaves(todo:AJ)(a:Option Code):Prop:=(todo=[]/\a=none)\/(∃k,todo=.code .ret::k/\a=some .ret)\/(∃id k,todo=.code (.exit id)::k/\exitTo id k=none/\a=some (.exit id))
structure IT  n   k   O  (τ:E7)  ξ   ν   cs  (s:St):Prop where
 size:τ.size=n
 env:kz k τ s.env
 rel:Rel k O s.σ
 ds:FW k ξ s.D
 rc:Hc k ν cs s.rc
structure CY  P   m   Q  (φ n:Nat)  ro   ν   cs  (K:Exit->St->Prop) (k:az):Prop where
 leave:∀k' O' τ ξ s todo jump,k.Le k'->IT n k' O' τ ξ ν cs s->Leaves todo jump->K (.leave jump) s->T P m Q k' O' (G ⟨φ,τ,todo,ξ,.run,ν,ro⟩ (oV s.rc cs))
 panic:∀k' O' τ ξ s todo cv av,k.Le k'->IT n k' O' τ ξ ν cs s->V k' cv av->K (.panic av) s->T P m Q k' O' (G ⟨φ,τ,todo,ξ,.panicking [⟨cv,false,false⟩],ν,ro⟩ (oV s.rc cs))
def CY.mono{P m Q φ n ro ν cs K k k'}(b:k.Le k')
 (h:CY P m Q φ n ro ν cs K k):CY P m Q φ n ro ν cs K k':=
 ⟨λ_ _ _ _ _ _ _ a=>h.leave _ _ _ _ _ _ _ (b.trans a),λ_ _ _ _ _ _ _ _ a=>h.panic _ _ _ _ _ _ _ _ (b.trans a)⟩
def Go(P:Rg)(m:Mo)(φ n:Nat)(ro:Dm)(todo:AJ)(s:St)(K:Exit->St->Prop):Prop:=∀Q k O τ ξ ν cs,ν≠.early->IT n k O τ ξ ν cs s->CY P m Q φ n ro ν cs K k->T P m Q k O (G ⟨φ,τ,todo,ξ,.run,ν,ro⟩ (oV s.rc cs))
inductive fQ where
 |val (v:AV)
 |panic (v:AV)
def AG(c:Frame):Frame:=
 match c.mode with
 | .panicking ({recovered:=true,..}::a)=>
   match a.dropWhile (!·.goexit)with
   |[]=>{c with mode:=.returning}
   |μ=>{c with mode:=.panicking μ}
 |_=>c
def qz(ν:FB)(c:Frame)(μ:E8)(v:Value):YB:=
 match ν with
 |.normal|.wrapped=>G (c.finish v) μ
 |_=>G (AG c) μ
def ar(P:Rg)(m:Mo)(f:FuncId)(args:List AV)(σ:af)(KF:fQ->af->Prop):Prop:=
 ∀ Q k O a c μ ν,ν≠.early->Vs k a args->Rel k O σ ->
   (∀d e g h b,k.Le d->V d g h->Rel d e b->KF (.val h) b->T P m Q d e (qz ν c μ g)) ->
   (∀d e g h b,k.Le d->V d g h->Rel d e b->KF (.panic h) b->T P m Q d e (G (c.raise [⟨g,false,false⟩]) μ)) ->
   T P m Q k O (G (Frame.enter P f a.toArray ν) (c::μ))
def Hd(P:Rg)(m:Mo)(Q:ZD)(k:az)(O:au)(fr:Frame)(cs:E8)(s:Sem Next):Prop:=∀w,Sat k O w->∃g' a es b c,stepG.apply P true fr cs none s w=.go g' a es/\Eff k O w b c a es.toList/\Sat b c a/\T P m Q b c g'
def cQ(P:Rg)(m:Mo)(h:AV)(args:List AV)(σ:af)(KF:fQ->af->Prop):Prop:=
 ∀ Q k O cf a fr cs,V k cf h->Vs k a args->Rel k O σ->fr.mode=.run->fr.kind≠.early->(∀d w r s l,fr.todo≠.call d w r s::l) ->
   (∀c e f g b,k.Le c->V c f g->Rel c e b->KF (.val g) b->T P m Q c e (G (fr.finish f) cs)) ->
   (∀c e f g b,k.Le c->V c f g->Rel c e b->KF (.panic g) b->T P m Q c e (G (fr.raise [⟨f,false,false⟩]) cs)) ->
   Hd P m Q k O fr cs (do let d <-Deferred.ofValue cf a.toArray;invoke d.target d.args)
section
variable{P:Rg}{m:Mo}{Q:ZD}{k:az}{O:au}{g g':YB}
def T.fZ(a:g.status=.running)(b:∀w,stepG P m.main g w=.go g' w #[])(h:T P m Q k O g'):T P m Q k O g:=
 .step (λc d x=>c=k/\d=O/\x=g') a am
  λw e=>⟨g',w,#[],k,O,b w,.refl ..,e,rfl,rfl,rfl⟩
def T.uL{fr cs s}(d:∀w,stepG P m.main (G fr cs) w=stepG.apply P true fr cs none s w)(h:Hd P m Q k O fr cs s):T P m Q k O (G fr cs):=
 .step (λa b x=>T P m Q a b x) rfl am λw c=>by
  obtain⟨g',e,es,a,b,f,g,i,j⟩:=h w c
  grind
end
section
variable{P:Rg}{m:Mo}{φ n:Nat}{ro:Dm}{s:St}{K:Exit->St->Prop}{k:AJ}
def Go.fZ{todo a}(e:∀τ ξ ν cs w,stepG P m.main (G ⟨φ,τ,todo,ξ,.run,ν,ro⟩ cs) w=.go (G ⟨φ,τ,a,ξ,.run,ν,ro⟩ cs) w #[])
 (h:Go P m φ n ro a s K):Go P m φ n ro todo s K:=λQ k O τ ξ ν cs b c d=>T.fZ rfl am (h Q k O τ ξ ν cs b c d)
def Go.skip(h:Go P m φ n ro k s K):Go P m φ n ro (.code .skip::k) s K:=.fZ (λ_ _ _ _ _=>by simp[G,stepG,stepG.exec]) h
def Go.label{l}(h:Go P m φ n ro k s K):Go P m φ n ro (.code (.label l)::k) s K:=.fZ (λ_ _ _ _ _=>by simp[G,stepG,stepG.exec]) h
def Go.inBlock{id}(h:Go P m φ n ro k s K):Go P m φ n ro (.inBlock id::k) s K:=.fZ (λ_ _ _ _ _=>by simp[G,stepG,stepG.exec]) h
def Go.inScope{c}(h:Go P m φ n ro k s K):Go P m φ n ro (.inScope c::k) s K:=.fZ (λ_ _ _ _ _=>by simp[G,stepG,stepG.exec]) h
def Go.seq{a b}(h:Go P m φ n ro (.code a::.code b::k) s K):Go P m φ n ro (.code (.seq a b)::k) s K:=.fZ (λ_ _ _ _ _=>by simp[G,stepG,stepG.exec]) h
def Go.block{id c}(h:Go P m φ n ro (.code c::.inBlock id::k) s K):Go P m φ n ro (.code (.block id c)::k) s K:=.fZ (λ_ _ _ _ _=>by simp[G,stepG,stepG.exec]) h
def Go.scope{c}(h:Go P m φ n ro (.code c::.inScope c::k) s K):Go P m φ n ro (.code (.scope c)::k) s K:=.fZ (λ_ _ _ _ _=>by simp[G,stepG,stepG.exec]) h
def Go.inLoop{c}(h:Go P m φ n ro (.code c::.inLoop c::k) s K):Go P m φ n ro (.inLoop c::k) s K:=.fZ (λ_ _ _ _ _=>by simp[G,stepG,stepG.exec]) h
def Go.Yz{c}(h:Go P m φ n ro (.code c::.inLoop c::k) s K):Go P m φ n ro (.code (.loop c)::k) s K:=.fZ (λ_ _ _ _ _=>by simp[G,stepG,stepG.exec]) h
def Go.exit{id k'}(a:exitTo id k=some k')(h:Go P m φ n ro k' s K):Go P m φ n ro (.code (.exit id)::k) s K:=.fZ (λ_ _ _ _ _=>by simp[G,stepG,stepG.exec,a]) h
def Go.region{id ο}(h:Go P m φ n ro (.inRegion ο (List.range ο.size)::k) s K):Go P m φ n ro (.code (.region id ο false)::k) s K:=.fZ (λ_ _ _ _ _=>by simp[G,stepG,stepG.exec]) h
def Go.FX{ο}(h:Go P m φ n ro k s K):Go P m φ n ro (.inRegion ο []::k) s K:=.fZ (λ_ _ _ _ _=>by simp[G,stepG,stepG.exec]) h
def Go.cond{c a b x}(f:aA s.env c=.lit (.bool x))(g:Operand.ok n c=true)(h:Go P m φ n ro (.code (if x then a else b)::k) s K):Go P m φ n ro (.code (.cond c a b)::k) s K:=
 λQ k O τ ξ ν cs i d j=>by
  have e:=V.eval (fr:=⟨φ,τ,.code (.cond c a b)::‹_›,ξ,.run,ν,ro⟩) d.env d.size c g;rw[f]at e;generalize l:Frame.eval _ c=v at e;cases e;refine T.fZ rfl (λw=>?_) (h Q k O τ ξ ν cs i d j);simp[G,stepG,stepG.exec,l]
def Go.leave{todo a}(b:Leaves todo a)(h:K (.leave a) s):Go P m φ n ro todo s K:=λ_ _ _ _ _ _ _ _ c d=>d.leave _ _ _ _ _ _ _ (.refl _) c b h
def Go.loop{c}(I:Nat->St->Prop)  a  (e:I a s)
 (f:∀d a s,I a s->(∀a' s',a'<a->I a' s'->Go P m φ n ro (.inLoop d::k) s' K)->Go P m φ n ro (.code c::.inLoop d::k) s K):Go P m φ n ro (.code (.loop c)::k) s K:=by
 have key:∀b a s,a<b->I a s->Go P m φ n ro (.code c::.inLoop c::k) s K:=by
  intro b;induction b with
  |zero=>omega
  |succ b j=>exact λa s g h=>f c a s h λa' s' l i=>.inLoop am
 exact .Yz (key (a+1) a s ac e)
end
inductive abg where
 |bool|int (k:IntKind)|string|pointer (e:Nat)|slice (e:Nat)|array (n e:Nat)|map (k e:Nat)|chan (e:Nat)|struct|func|iface|other
 deriving DecidableEq
structure TI where
 kind:abg
 size:Nat
 bytes:Nat
 zero:Value
 o6:List (Nat × Nat × Nat)
def TI.agg(i:TI):Bool:=match i.kind with|.struct=>true|.array _ _=>true|_=>false
def iA(P:Rg)(i:TI):TypeDesc->Bool
 |.bool=>i.kind==.bool
 |.int k=>i.kind==.int k
 |.string=>i.kind==.string
 |.pointer e=>i.kind==.pointer e
 |.slice e=>i.kind==.slice e
 |.array n e=>i.kind==.array n e
 |.map k e=>i.kind==.map k e
 |.chan _ e=>i.kind==.chan e
 |.struct fs=>i.kind==.struct && (fs.toList.map λf=>(f.offset,(P.info? f.type).map (·.size),f.type))==(i.o6.map λx=>(x.1,some x.2.1,x.2.2))
 |.func _ _ _=>i.kind==.func
 |.interface _=>i.kind==.iface
 |_=>i.kind==.other
def Wr:Value->Value->Bool
 |.bool a,.bool b=>a==b
 |.int k a,.int l b=>k==l && a==b
 |.string a,.string b=>a.data.toList==b.data.toList
 |.pointer none,.pointer none=>true
 |.slice none a b,.slice none c d=>a==c && b==d
 |.map none,.map none=>true
 |.chan none,.chan none=>true
 |.nilFunc,.nilFunc=>true
 |.nilIface,.nilIface=>true
 |_,_=>false
def Lx:EI->EI->Bool
 |[],[]=>true
 |a::l,b::r=>Wr a b && Lx l r
 |_,_=>false
def Nh:Value->Value->Bool
 |.agg a,.agg b=>Lx a.toList b.toList
 |.tuple a,.tuple b=>Lx a.toList b.toList
 |a,b=>Wr a b
theorem Nw{a b}(h:Wr a b=true):a=b:=by
 unfold Wr at h;split at h<;>simp_all;rename_i a b;obtain⟨⟨a⟩⟩:=a
 simp_all
def He:∀{a b},Lx a b=true->a=b
 |[],[],_=>rfl
 |a::l,b::r,h=>by simp  [Lx]at h;rw[Nw h.1,He h.2]
 |[],_::_,h=>by simp[Lx]at h
 |_::_,[],h=>by simp[Lx]at h
theorem Zr{a b}(h:Nh a b=true):a=b:=by
 unfold Nh at h;split at h
 . have:=He h;simp_all
 . have:=He h;simp_all
 grind [Nw]
def TI.check(P:Rg)(t:Nat)(i:TI):Bool:=
 match P.underlying t,P.info? t with
 |some d,some info=>iA P i d && info.size==i.size && info.bytes==i.bytes && (match info.zero with|some z=>Nh z i.zero|none=>false) && i.zero.cells.size==i.size
 |_,_=>false
structure lz  P  where
 tt:Nat->Option TI
 ok:∀t i,tt t=some i->i.check P t=true
 mixed:P.follows .mixedOrders=true
def lz.facts{P}(L:lz P){t i}(h:L.tt t=some i):(∃d,P.underlying t=some d/\iA P i d=true)/\∃info,P.info? t=some info/\info.size=i.size/\info.bytes=i.bytes/\info.zero=some i.zero/\i.zero.cells.size=i.size:=by
 have:=L.ok t i h;unfold TI.check at this;split at this
 . next d info a b=>grind [Zr]
 grind
section
variable{P:Rg}(L:lz P){k:az}{O:au}{Kp:FU}{t:Nat}{i:TI}
theorem an{α a K}(h:K a k O):jm P (pure a:Sem α) k O K Kp:=h
theorem ag{α β s}{f:α->Sem β}{K}(h:jm P s k O (λa k O=>jm P (f a) k O K Kp) Kp):jm P (s >>=f) k O K Kp:=ab3 s h
theorem cO{K}(h:K P k O):jm P program k O K Kp:=h
def aY{K}(b:L.tt t=some i)(h:∀d,P.underlying t=some d->iA P i d=true->K d k O):jm P (underlying t) k O K Kp:=by obtain⟨⟨d,a,c⟩,_⟩:=L.facts b;refine ag (cO ?_);rw[a];exact h d a c
theorem fB{K}(b:L.tt t=some i)(h:∀info,P.info? t=some info->info.size=i.size->info.bytes=i.bytes->info.zero=some i.zero->K info k O):jm P (typeInfo t) k O K Kp:=by obtain⟨_,info,a,c,d,e,_⟩:=L.facts b;refine ag (cO ?_);rw[a];exact h info a c d e
def de{K}(a:L.tt t=some i)(h:K i.size k O):jm P (sizeOf t) k O K Kp:=by
 unfold sizeOf
 grind [ag,fB,an]
def fA{K}(a:L.tt t=some i)(h:K i.zero k O):jm P (zeroValue t) k O K Kp:=by
 refine ag (fB L a λinfo _ _ _ b=>?_);rw[b];exact h
theorem xe{K}(a:L.tt t=some i)(h:K i.agg k O):jm P (isAgg t) k O K Kp:=by
 refine ag (aY L a λd _ hd=>?_);unfold TI.agg at h;cases d<;>simp  [iA,vc]at hd<;>first|(rw[hd]at h;exact h)|(rw[hd.1]at h;exact h)
def mK{α K z Kp l}(s:Sem α):∀{k O},jm P s k O K Kp->(∀a k O,K a k O->z a k O)->(∀a k O,Kp a k O->l a k O)->jm P s k O z l:=by
 induction s with
 |pure a=>intro k O h b d;exact b _ _ _ h
 |load m a g f=>intro k O h b d;obtain⟨i,v,j,p⟩:=h;exact⟨i,v,j,f v p b d⟩
 | store m a v g f=>
   intro k O h b d;obtain⟨i,j,p,A⟩:=h;refine⟨i,j,p,?_⟩;rcases A with⟨c,e,u,w,y⟩|⟨e,N,u,w,y,C⟩|⟨D,E,u,w,y⟩
   . exact .inl ⟨c,e,u,w,f y b d⟩
   . grind
   grind
 |new o g f=>intro k O h b d;exact⟨h.1,λr B=>f r (h.2 r B) b d⟩
 |shape r g f=>intro k O h b d;obtain⟨s,i,j⟩:=h;exact⟨s,i,f s j b d⟩
 |freeze a n g f=>intro k O h b d;exact h.elim
 |frozen a g f=>intro k O h b d;exact⟨h.1,f false h.2 b d⟩
 |getObj r g f=>intro k O h b d;obtain⟨o,i,j,p⟩:=h;exact⟨o,i,j,f o p b d⟩
 |setObj r o g f=>intro k O h b d;exact⟨h.1,h.2.1,f h.2.2 b d⟩
 |choose q g f=>intro k O h b d t;exact f _ (h t) b d
 |sys c g f=>intro k O h b d;exact h.elim
 |program g f=>intro k O h b d;exact f P h b d
 |mark m g f=>intro k O h b d;exact⟨h.1,f h.2 b d⟩
 | halt x=>intro k O h b d;cases x with
   |panic v=>exact d _ _ _ h
   |_=>exact h
end
def sF(k:az)(O:au)(R:az->au->Prop):Prop:=∃a b,qp k O a b/\R a b
theorem qp.refl  k   O :qp k O k O:=λw h=>⟨h,.refl k O w⟩
theorem qp.trans{k e f O g i}(h:qp k O e g)(j:qp e g f i):qp k O f i:=λw l=>let ⟨a,b⟩:=h w l;let ⟨c,d⟩:=j w a;⟨c,by simpa using b.trans d⟩
def sF.here{k O R}(h:R k O):sF k O R:=⟨k,O,.refl k O,h⟩
def bt(P:Rg)(o:Oper)(ε:Env)(σ:af)(K:AV->af->Prop)(Kp:AV->af->Prop):Prop:=
 ∀ k O (f:I8->Value),(∀x∈o.op.operands,V k (f x) (aA ε x))->Rel k O σ ->
   jm P (execOp f o) k O (λnx c d=>∃v,(nx=.value v\/(nx=.skip/\v=undef))/\sF c d λe g=>k.Le e/\∃a b,V e v a/\Rel e g b/\K a b)
    (λv c d=>k.Le c/\∃a b,V c v a/\Rel c d b/\Kp a b)
def Oper.ok(n:Nat)(o:Oper):Bool:=o.op.operands.all (Operand.ok n) && (match o.dst with|some d=>decide (d<n)|none=>true)
def cG(ε:Env)(dst:Io)(v:AV):Env:=match dst with|some d=>ε.upd d v|none=>ε
theorem CZ{P fn es e}(h:e∈seen P fn es):e∈es:=by
 unfold seen at h
 have key:∀(l:List Event) (q:Bool) (acc:KP),e∈(l.foldl (init:=(q,acc)) λ(q,kept) e=>
  match e.loc with
  |.mark (.extern f)=>((P.funcs[f]?).any (·.norace),kept)
  |_=>(q,if q && !e.sync then kept else kept.push e)).2->e∈acc\/e∈l:=by
  intro l;induction l with
  |nil=>grind
  | cons x l b=>
    intro q acc h;simp only[HW]at h;rcases b _ _ h with a|a
    . split at a
      . grind
      . split at a
        . grind
        grind
    grind
 dsimp only at h;rw[<-Array.foldl_toList]at h;rcases key es.toList _ #[] h with h|h
 . grind
 grind
def Eff.sub{k O w k' O' w' l b}(h:Eff k O w k' O' w' l)(c:∀e∈b,e∈l):Eff k O w k' O' w' b:=⟨h.le,h.size,h.keep,h.tail,h.part,h.shape,h.own,h.cell,h.sh,λe a=>h.evs e (c e a),h.tape,h.output,h.os,λe a=>h.low e (c e a),h.tok⟩
def iB{P m Q k O fr cs s}
 (h:jm P s k O
   (fun nx k' O'=>k.Le k'->match nx with
     |.value v=>T P m Q k' O' (G (fr.finish v) cs)
     |.skip=>T P m Q k' O' (G (fr.finish undef) cs)
     |.enter f args=>(∀d w r s l,fr.todo≠.call d w r s::l)/\T P m Q k' O' (G (Frame.enter P f args .normal) (fr::cs))
     |.round l f τ assign body=>T P m Q k' O' (G (Frame.round l f τ assign body .normal) (fr::cs))
     |.defer d=>T P m Q k' O' (G ({fr with defers:=d::fr.defers}.finish undef) cs)
     |_=>False)
   (λv k' O'=>k.Le k'->T P m Q k' O' (G (fr.raise [⟨v,false,false⟩]) cs))):Hd P m Q k O fr cs s:=by
 intro w p;obtain⟨k',O',c,l,i,n,u,q⟩:=AE s #[] h p;have a:∀(es:KP),(∀e∈es,e∈(s.runT P w #[]).2)->∀e∈es.toList,e∈l:=am
 have o:∀(b:Bool) (es:KP),∀e∈seen P fr.fn (if b then #[]else es),e∈es:=λb es e t=>by
  have:=CZ t
  grind
 rcases q with⟨nx,j,g⟩|⟨v,j,g⟩
 . have g:=g i.le
   cases nx with
   |value v=>exact⟨_,c,_,k',O',by simp only[stepG.apply,ZC];rw[show(s.runT P w #[]).1=.ok (.value v) c from j];rfl,i.sub (a _ (by simpa using o (fr.kind==.early) (s.runT P w #[]).2)),n,g⟩
   |skip=>exact⟨_,c,_,k',O',by simp only[stepG.apply,ZC];rw[show(s.runT P w #[]).1=.ok .skip c from j];rfl,i.sub (a _ (by simpa using o (fr.kind==.early) (s.runT P w #[]).2)),n,g⟩
   | enter f args=>
     refine⟨_,c,seen P fr.fn (if fr.kind==.early then #[]else(s.runT P w #[]).2),k',O',?_,i.sub (a _ (by simpa using o (fr.kind==.early) (s.runT P w #[]).2)),n,g.2⟩;obtain⟨fn,τ,todo,ξ,mode,ν,ro⟩:=fr;simp only[stepG.apply,ZC];rw[show(s.runT P w #[]).1=.ok (.enter f args) c from j];cases todo with
     |nil=>rfl
     | cons it l=>cases it with
       |call d w r s=>grind
       |_=>rfl
   |round l f τ assign body=>exact⟨_,c,_,k',O',by simp only[stepG.apply,ZC];rw[show(s.runT P w #[]).1=.ok (.round l f τ assign body) c from j];rfl,i.sub (a _ (by simpa using o (fr.kind==.early) (s.runT P w #[]).2)),n,g⟩
   |defer d=>exact⟨_,c,_,k',O',by simp only[stepG.apply,ZC];rw[show(s.runT P w #[]).1=.ok (.defer d) c from j];rfl,i.sub (a _ (by simpa using o (fr.kind==.early) (s.runT P w #[]).2)),n,g⟩
   |_=>exact g.elim
 . exact⟨_,c,_,k',O',by simp only[stepG.apply,ZC];rw[show(s.runT P w #[]).1=.halt (.panic v) c from j];rfl,i.sub (a _ (by simpa using o (fr.kind==.early) (s.runT P w #[]).2)),n,g i.le⟩
def IT.put{n k k' O O' φ τ ξ ν ro cs s σ' ο i μ o kk v a}
 (h:IT n k O τ ξ ν cs s) (c:k.Le k') (e:ο[i]?=some o) (g:V k' v a) (f:Rel k' O' σ'):
 ∃ b,Frame.finish ⟨φ,τ,.inRegion ο (i::μ)::kk,ξ,.run,ν,ro⟩ v=⟨φ,b,.inRegion ο μ::kk,ξ,.run,ν,ro⟩/\
   IT n k' O' b ξ ν cs {s with env:=cG s.env o.dst a,σ:=σ'}:=by
 cases hd:o.dst with
 |none=>refine⟨τ,?_,⟨h.size,h.env.mono c,f,h.ds.mono c,h.rc.mono c⟩⟩;simp[Frame.finish,e,hd]
 | some d=>
   refine⟨τ.setIfInBounds d v,?_,⟨by simp[h.size],(h.env.mono c).upd g,f,h.ds.mono c,h.rc.mono c⟩⟩;simp[Frame.finish,e,hd]
section
variable{P:Rg}{m:Mo}{φ n:Nat}{ro:Dm}{s:St}{K:Exit->St->Prop}{k:AJ}
def Lz:Value->Bool->Prop
 |.bool x,b=>x≠b
 |.tuple _,_=>True
 |_,_=>False
def Go.unwanted{ο i μ o j b x d}{g:Oper}(l:ο[i]?=some o)(p:o.guard=some (j,b))(hj:ο[j]?=some g)(hd:g.dst=some d)(q:d<n)
 (r:s.env d=.lit x) (e:Lz x b) (h:Go P m φ n ro (.inRegion ο μ::k) {s with env:=cG s.env o.dst (.lit (.tuple #[]))} K):Go P m φ n ro (.inRegion ο (i::μ)::k) s K:=
 fun Q kk O τ ξ ν cs t c u=>by
  obtain⟨a,B,y⟩:=c.put (φ:=φ) (ro:=ro) (μ:=μ) (kk:=k) (v:=undef)  (.refl _) l (.lit _) c.rel;refine T.fZ rfl (λw=>?_) (h Q kk O a ξ ν cs t y u);have f:=c.env d (by rw[c.size];omega);rw[r]at f;generalize C:τ.getD d undef=v at f;cases f
  have z:yielded ο τ j≠some b:=by
   have:τ[d]?=some x:=by
    have A:d<τ.size:=by rw[c.size];omega
    simp_all
   unfold Lz at e;split at e
   . simpa[yielded,hj,hd,this]using e
   . simp[yielded,hj,hd,this]
   grind
  have D:((ο[i]?).map (Region.wanted · (yielded ο τ))).getD false=false:=by simp[l,Region.wanted,p,z]
  simp  [G,stepG,stepG.exec]
  grind
def dC(ο:Cx)(n:Nat)(ε:Env)(o:Oper):Prop:=
 match o.guard with
 |none=>True
 |some (j,b)=>∃a d,ο[j]?=some a/\a.dst=some d/\d<n/\ε d=.lit (.bool b)
def lU{k τ ο ε o}(l:τ.size=n)(c:kz k τ ε)(h:dC ο n ε o):Region.wanted o (yielded ο τ)=true:=by
 unfold dC at h;unfold Region.wanted;cases e:o.guard with
 |none=>rfl
 | some p=>
   obtain⟨j,b⟩:=p;simp only[e]at h;obtain⟨m,d,f,g,q,i⟩:=h;have a:=c d am;rw[i]at a;generalize r:τ.getD d undef=v at a;cases a;have:τ[d]?=some (.bool b):=aq
   simp[yielded,f,g,this]
def iI{ο i μ o τ ξ ν cs}(b:ο[i]?=some o)(d:Region.wanted o (yielded ο τ)=true)
 (a:ro=none\/∀c,o.op≠.defer c)  w :
 stepG P m.main (G ⟨φ,τ,.inRegion ο (i::μ)::k,ξ,.run,ν,ro⟩ cs) w=
  stepG.apply P true ⟨φ,τ,.inRegion ο (i::μ)::k,ξ,.run,ν,ro⟩ cs none (execOp (Frame.eval ⟨φ,τ,.inRegion ο (i::μ)::k,ξ,.run,ν,ro⟩) o) w:=by
 simp  [G,stepG,stepG.exec,stepG.oper,Frame.oper?]
 grind
def Go.op{ο i μ o}(B:ο[i]?=some o)(G:dC ο n s.env o)(p:Oper.ok n o=true)(q:∀c,o.op≠.defer c)
 (h:bt P o s.env s.σ (λa σ'=>Go P m φ n ro (.inRegion ο μ::k) {s with env:=cG s.env o.dst a,σ:=σ'} K) (λa σ'=>K (.panic a) {s with σ:=σ'})):
 Go P m φ n ro (.inRegion ο (i::μ)::k) s K:=λQ C O τ ξ ν cs H d D=>by
 refine T.uL (λw=>iI B (lU d.size d.env G) (.inr q) w) (iB ?_)
 have g:∀x∈o.op.operands,V C (Frame.eval ⟨φ,τ,.inRegion ο (i::μ)::k,ξ,.run,ν,ro⟩ x) _:=λx l=>by
  refine V.eval d.env d.size x ?_;simp only[Oper.ok,vc,HV]at p
  grind
 refine mK _ (h C O _ g d.rel) (λnx r t l u=>?_) (λv r t l u=>?_)
 . obtain⟨v,I,J,L,j,e,a,σ',y,z,A⟩:=l
   obtain⟨f,E,M⟩:=d.put     e B y z;have F:=A Q J L f ξ ν cs H M (D.mono e);rcases I with rfl|⟨rfl,rfl⟩
   . show T P m Q r t _
     rw[E];exact .ghost j F
   . rw[E]
     exact .ghost j F
 . obtain⟨b,a,σ',y,z,A⟩:=l
   exact D.panic r t τ ξ {s with σ:=σ'} _ v a b ⟨d.size,d.env.mono b,z,d.ds.mono b,d.rc.mono b⟩ y A
end
def az.C0(k:az)(r:Nat)(c:E7)(n:Nat):az:={k with cell:=λb j=>if b=r/\j<n then c[j]? else k.cell b j}
def au.del(O:au)(r:Nat):au:=λb=>if b=r then none else O b
def opw  k   O   r  (l:∀f,O r≠some (.part f)):qp k O k (O.del r):=λw h=>by
 have hd:∀b x,(O.del r) b=some x->O b=some x:=λb x e=>by unfold au.del at e;grind
 have g:∀b i,bS _ b i->bS O b i:=λb i j=>by
  rcases j with⟨o,a⟩|⟨n,a,c⟩|⟨f,a,c⟩
  . exact .inl ⟨o,hd _ _ a⟩
  . exact .inr (.inl ⟨n,hd _ _ a,c⟩)
  . exact .inr (.inr ⟨f,hd _ _ a,c⟩)
 exact⟨⟨λb i v e d=>h.apart b i v e (g b i d),h.cell,h.sh,λb o e=>h.obj b o (hd b _ e),λb n e=>h.tail b n (hd b _ e),λb f e=>h.part b f (hd b _ e)⟩,
  ⟨.refl k,AK _,am,am,am,am,λb x e=>.inl ⟨x,hd b x e,.refl x⟩,am,am,ap,rfl,rfl,rfl,ap,λb f hb=>⟨f,by unfold au.del;grind⟩⟩⟩
def uM{k O r n c e}(l:O r=some (.obj (.cells c e (0,0))))(z:k.sh r=some (e,c.size)):qp k O (k.C0 r c n) (O.set r (.tail n)):=λw h=>by
 have u:=h.obj _ _ l
 have p:∀j,k.cell r j=none:=λj=>by
  cases q:k.cell r j with
  |none=>rfl
  |some v=>exact(h.apart _ _ _ q (.inl ⟨_,l⟩)).elim
 have s:k.Le (k.C0 r c n):=⟨λb i v d=>by
  have:¬(b=r/\i<n):=am;simpa[az.C0,this]using d,λ_ _ h=>h⟩
 refine⟨⟨λb i v d y=>?_,λb i v d=>?_,h.sh,λb o hb=>?_,λb m hb=>?_,λb f hb=>?_⟩,⟨s,AK _,am,am,am,am,λb x A=>?_,λb i v d=>?_,λ_ _ h=>.inl h,ap,rfl,rfl,rfl,ap,λb f hb=>⟨f,by rw[show(O.set r (.tail n)) b=O b from by simp only[au.set];grind];omega⟩⟩⟩
 . by_cases hb:b=r
   . subst hb
     rcases y with⟨o,g⟩|⟨m,g,B⟩|⟨f,g,B⟩
     . simp[au.set]at g
     rotate_left
     . simp[au.set]at g
     . simp only[au.set,ZC,td,Own.tail.injEq]at g
       subst g;have:¬(i<n):=ac
       simp only[az.C0,this,and_false,LK,p]at d
       grind
   . have t:k.cell b i=some v:=by simpa[az.C0,hb]using d
     exact h.apart b i v t (by simpa[bS,au.set,hb]using y)
 . by_cases hb:b=r/\i<n
   . obtain⟨rfl,C⟩:=hb
     simp only[az.C0,C,and_self,ZC]at d;simp[World.cell?,u,d]
   . exact h.cell b i v (by simpa only[az.C0,hb,LK]using d)
 . by_cases a:b=r
   . subst a;simp[au.set]at hb
   . exact h.obj b o (by simpa[au.set,a]using hb)
 . by_cases a:b=r
   . subst a;exact⟨c,e,u,z⟩
   . exact h.tail b m (by simpa[au.set,a]using hb)
 . by_cases a:b=r
   . subst a;simp[au.set]at hb
   . exact h.part b f (by simpa[au.set,a]using hb)
 . by_cases a:b=r
   . subst a
     exact .inl ⟨_,l,trivial⟩
   . exact .inl ⟨x,by simpa[au.set,a]using A,.refl x⟩
 . by_cases hb:b=r/\i<n
   . obtain⟨rfl,_⟩:=hb
     exact .inr (.inl (.inl ⟨_,l⟩))
   . exact .inl (by simpa only[az.C0,hb,LK]using d)
def az.Le.put{k:az}{b i v}(h:k.cell b i=none):k.Le (k.put b i v):=⟨λc j u a=>by
 have:¬(c=b/\j=i):=am;simpa[az.put,this]using a,λ_ _ h=>h⟩
def az.Le.made{k:az}{r o}(h:k.sh r=none):k.Le (k.made r o):=by
 cases o<;>first|exact .refl k|skip
 exact⟨λ_ _ _ h=>h,λb s a=>by
  have:b≠r:=am;simpa[az.made,az.jP,this]using a⟩
def az.Le.C0{k:az}{r n c}(h:∀j,k.cell r j=none):k.Le (k.C0 r c n):=⟨λb i v a=>by
 have:¬(b=r/\i<n):=am;simpa[az.C0,this]using a,λ_ _ h=>h⟩
def tJ(k:az)(O:au)(b base:Nat)(l:List AV):Prop:=∀(j:Nat) a,l[j]?=some a->∃v,Reads k O ⟨b,base+j,none⟩ v/\V k v a/\flat v=true
def eh(l:List AV)(off size:Nat)(agg:Bool):Option AV:=if agg then(if off+size<=l.length then some (.agg ((l.drop off).take size))else none)else l[off]?
theorem mL  b off n :Addr.add ⟨b,off,none⟩ n=⟨b,off+n,none⟩:=by
 unfold Addr.add
 grind
section
variable{P:Rg}(L:lz P){k:az}{O:au}{Kp:FU}
theorem IU{K a v}(h:Reads k O a v)(b:K v k O):jm P (load a) k O K Kp:=⟨rfl,v,h,b⟩
def oc{K b base l}(c:tJ k O b base l){off}:
 ∀  n i   acc ,off+i+n<=l.length->(∀vs:EI,vs.length=n->(∀  j  v a,vs[j]?=some v->l[off+i+j]?=some a->V k v a)->(∀v∈vs,flat v=true)->K (acc++vs.toArray) k O) ->
  jm P (loadCellsFrom ⟨b,base+off,none⟩ i n acc) k O K Kp:=by
 intro n;induction n with
 |zero=>intro i acc _ h;exact an aq
 | succ n d=>
   intro i acc hlen h;obtain⟨v,g,m,o⟩:=c (off+i) l[off+i] am;unfold loadCellsFrom;rw[mL];refine ag (IU (v:=v) am ?_);refine d _ _ ac λvs e p f=>?_
   have:=h (v::vs) am (λj u a q r=>?_) am
   . simp_all
   . cases j with
     |zero=>grind
     |succ j=>grind
def sG{K b base off l t i a}(e:tJ k O b base l)(f:L.tt t=some i)(c:eh l off i.size i.agg=some a)
 (g:∀v,V k v a->K v k O):jm P (loadVar t ⟨b,base+off,none⟩) k O K Kp:=by
 refine ag (xe L f ?_);unfold eh at c;cases d:i.agg
 . obtain⟨v,n,o,_⟩:=e off a am
   grind [IU]
 . simp only[d,ZC]at c ⊢
   split at c
   . next h=>
     simp   at c;subst c;refine ag (de L f ?_);refine ag (oc e _ 0 _ ac λvs m p _=>?_);refine an (g _ (.agg _ _ ?_ λj v a q r=>?_))
     . grind
     grind
   grind
def tJ.own{b c e fz l}(f:O b=some (.obj (.cells c e fz)))(g:c.size=l.length)(h:∀(i:Nat) v a,c[i]?=some v->l[i]?=some a->V k v a)(d:∀(i:Nat) v,c[i]?=some v->flat v=true):tJ k O b 0 l:=λj a m=>by
 have n:j<c.size:=am
 refine⟨c[j],⟨rfl,am⟩,am,d j _ am⟩
def tJ.stay{b l σ}(c:Rel k O σ)(hb:σ b=some (.stay l)):tJ k O b 0 l:=λj a d=>by obtain⟨v,g,e,f⟩:=(c.2 _ _ hb rfl).2.2 l rfl j a d;exact⟨v,⟨rfl,am⟩,e,f⟩
def tJ.known{b base l}{c:Nat->Value}(e:∀j,j<l.length->k.cell b (base+j)=some (c j)/\flat (c j)=true)(f:∀  j  a,l[j]?=some a->V k (c j) a):tJ k O b base l:=λj a d=>⟨c j,⟨rfl,.inl (e j (IK.1 d).1).1⟩,f j a d,am⟩
end
def Wt(l:List AV)(hole:ZB)(off size:Nat)(agg:Bool):Option AV:=if agg then(if off+size<=l.length/\hole.all (λh=>decide (h<off\/off+size<=h))=true then some (.agg ((l.drop off).take size))else none)else if hole.contains off=true then none else l[off]?
def xR(i:TI)(σ:af):AV->Option AV
 |.cp v off=>eh v.cells off i.size i.agg
 |.kp _ l hole off=>Wt l hole off i.size i.agg
 |.ref b off=>match σ b with|some (.cells l)=>eh l off i.size i.agg|some (.stay l)=>eh l off i.size i.agg|_=>none
 |_=>none
def AV.flat:AV->Bool
 |.lit v=>bu.flat v
 |.eT=>false
 |.agg _=>false
 |.cx _=>false
 |_=>true
def V.flat{k v a}(h:V k v a)(b:a.flat=true):bu.flat v=true:=by cases h<;>first|rfl|exact b|simp[AV.flat]at b
def V.cells{k v a}(h:V k v a)(m:a.cells.all AV.flat=true):v.cells.size=a.cells.length/\(∀(i:Nat) u x,v.cells[i]?=some u->a.cells[i]?=some x->V k u x)/\∀(i:Nat) u,v.cells[i]?=some u->bu.flat u=true:=by
 by_cases b:∃l,a=.agg l
 . obtain⟨l,rfl⟩:=b
   cases h with
   | agg c l f g=>
     refine⟨f,g,λi u j=>?_⟩
     have n:i<l.length:=by rw[<-f];exact(CS.1 j).1
     refine(g i u l[i] j am).flat ?_
     simp  [AV.cells]at m
     grind
 . have o:a.cells=[a]:=by cases a<;>first|rfl|grind
   have d:a.flat=true:=am
   have e:=h.flat d;have p:v.cells=#[v]:=by cases v<;>first|rfl|cases e
   grind
def aI(l:List AV)(off:Nat)(c:List AV):List AV:=l.take off++c++l.drop (off+c.length)
def vX(i:TI)(σ:af)(p v:AV):Option af:=
 match p with
 | .ref b off=>match σ b with
   |some (.cells l)=>if v.cells.length=i.size/\off+i.size<=l.length/\v.cells.all AV.flat=true then some (σ.set b (.cells (aI l off v.cells)))else none
   |_=>none
 |_=>none
section
variable{P:Rg}(L:lz P){k:az}{O:au}{Kp:FU}
def vY{K b off e}:∀  vs   i   c   O ,O b=some (.obj (.cells c e (0,0)))->off+i+vs.length<=c.size->(∀v∈vs,flat v=true) ->
 (∀  O'   c' ,O'=O.set b (.obj (.cells c' e (0,0)))->c'.size=c.size->(∀j,c'[j]?=if off+i<=j/\j<off+i+vs.length then vs[j-(off+i)]? else c[j]?)->K () k O') ->
 jm P (storeCells ⟨b,off,none⟩ vs i) k O K Kp:=by
 intro vs;induction vs with
 | nil=>
   intro i c O d hlen f h;refine an (h O c ?_ rfl λj=>?_)
   . funext x
     by_cases a:x=b
     . subst a;simp[au.set,d]
     . simp[au.set,a]
   grind
 | cons v vs g=>
   intro i c O d hlen f h;simp only[Ds]at hlen;unfold storeCells;rw[mL];refine ag (s:=store ⟨b,off+i,none⟩ v) ⟨rfl,am,rfl,.inl ⟨c,e,d,am,?_⟩⟩;refine g (i+1) (c.setIfInBounds (off+i) v) _ (by simp[au.set]) am am λO' c' l m n=>?_
   refine h O' c' ?_ am λj=>?_
   . rw[l];funext x;by_cases a:x=b<;>simp[au.set,a]
   . rw [n j]
     by_cases o:j=off+i
     . grind
     . rw[It (vj o)]
       by_cases p:off+(i+1)<=j/\j<off+(i+1)+vs.length
       . rw[wS p,wS am]
         have:j-(off+i)=(j-(off+(i+1)))+1:=ac
         rw[this,OP]
       grind
theorem C1{l c off}(h:off+c.length<=l.length)  j :(aI l off c)[j]?=if off<=j/\j<off+c.length then c[j-off]? else l[j]?:=by
 unfold aI;have a:(l.take off).length=off:=am
 grind
theorem tu{l c off}(h:off+c.length<=l.length):(aI l off c).length=l.length:=by unfold aI;grind
def yK{K σ σ' p a v ad t i}(m:Rel k O σ)(n:V k (.pointer (some ad)) p)(o:V k v a)(q:L.tt t=some i)(d:vX i σ p a=some σ')
 (r:∀O',Rel k O' σ'->K () k O'):jm P (storeVar t ad v) k O K Kp:=by
 unfold vX at d;cases p<;>simp only[]at d<;>try cases d
 rename_i b off;cases n;cases hb:σ b with
 |none=>grind
 | some x=>
   rw[hb]at d;cases x with
   | cells l=>
     simp only[]at d;split at d
     . next f=>
       obtain⟨F,G,s⟩:=f;simp only[td]at d;subst d;obtain⟨y,w,z⟩:=m.1 b _ hb ap;cases z with
       | cells c e l H I J=>
         obtain⟨M,N,A⟩:=o.cells s;unfold storeVar;refine ag (de L q ?_);have g:¬v.cells.size≠i.size:=ac
         simp only[wN g];refine ag (an ?_);refine vY v.cells.toList 0 c O w am (λu h=>by obtain⟨j,Q,rfl⟩:=FG.1 h;exact A j _ am) λO' B C D E=>?_
         subst C;refine r _ (m.set (.cells B e _ (by grind [tu]) (λj u x h R=>?_) λj u h=>?_))
         . grind [C1]
         grind
     grind
   |_=>cases d
def IV{σ p ad i a}(t:Rel k O σ)(q:V k (.pointer (some ad)) p)(d:xR i σ p=some a):∃b base off l,ad=⟨b,base+off,none⟩/\tJ k O b base l/\eh l off i.size i.agg=some a:=by
 unfold xR at d;cases p<;>simp only[]at d<;>try cases d
 . rename_i v off
   cases q with
   |cp b base off N E v c _ _ m n=>exact⟨b,base,off,v.cells,rfl,.known m n,d⟩
 . rename_i b l hole off
   cases q with
   | kp _ _ N E _ _ c _ _ m n=>
     unfold Wt at d;split at d
     . next f=>
       split at d
       . next u=>
         simp only[td]at d;subst d;have hlen:((l.drop off).take i.size).length=i.size:=am
         refine⟨b,off,0,(l.drop off).take i.size,ap,λj a C=>?_,by simp[eh,f,hlen,List.take_take]⟩;have D:j<i.size:=am
         have h:l[off+j]?=some a:=am
         have g:off+j∉hole:=am;obtain⟨r,s⟩:=m (off+j) (IK.1 h).1 g;exact⟨c (off+j),⟨rfl,.inl r⟩,n _ a g h,s⟩
       grind
     . next f=>
       split at d
       . grind
       . next u=>
         have g:off∉hole:=am
         refine⟨b,off,0,[a],ap,λj y o=>?_,by simp[eh,f]⟩
         match j with
         |0=>simp at o;subst o;obtain⟨r,s⟩:=m off (IK.1 d).1 g;exact⟨c off,⟨rfl,.inl r⟩,n _ _ g d,s⟩
         |j+1=>grind
 . rename_i b off
   cases q;cases hb:σ b with
   |none=>grind
   | some x=>
     rw[hb]at d;cases x with
     | cells l=>
       obtain⟨y,w,o⟩:=t.1 b _ hb ap;cases o with
       |cells c e l z A B=>exact⟨b,0,off,l,ap,.own w z A B,d⟩
     |stay l=>exact⟨b,0,off,l,ap,.stay t hb,d⟩
     |_=>cases d
end
def V.Rs{k v p}(h:V k v p)(a:(∃x off,p=.cp x off)\/(∃b off,p=.ref b off)\/∃b l hole off,p=.kp b l hole off):∃ad,v=.pointer (some ad):=by rcases a with⟨x,off,rfl⟩|⟨b,off,rfl⟩|⟨b,l,hole,off,rfl⟩<;>cases h<;>exact⟨_,rfl⟩
def FY{i σ p a}(h:xR i σ p=some a):(∃x off,p=.cp x off)\/(∃b off,p=.ref b off)\/∃b l hole off,p=.kp b l hole off:=by cases p<;>first|exact .inl ⟨_,_,rfl⟩|exact .inr am|exact .inr _|cases h
def nob{i σ σ' p a}(h:vX i σ p a=some σ'):(∃x off,p=.cp x off)\/(∃b off,p=.ref b off)\/∃b l hole off,p=.kp b l hole off:=by cases p<;>first|exact .inl _|exact .inr (.inl ⟨_,_,rfl⟩)|cases h
section
variable{P:Rg}(L:lz P){o:Oper}{ε:Env}{σ:af}{K:AV->af->Prop}{Kp:AV->af->Prop}
def bt.val{s:(I8->Value)->Sem Value}(c:∀ρ,execOp ρ o=(do pure (.value (<-s ρ))))
 (h:∀k O  ρ ,(∀x∈o.op.operands,V k (ρ x) (aA ε x))->Rel k O σ ->
   jm P (s ρ) k O (λv k' O'=>sF k' O' λb d=>k.Le b/\∃a σ',V b v a/\Rel b d σ'/\K a σ') (λv k' O'=>k.Le k'/\∃a σ',V k' v a/\Rel k' O' σ'/\Kp a σ')):bt P o ε σ K Kp:=λk O ρ e f=>by
 rw[c];refine ag (mK _ (h k O ρ e f) (λv k' O' g=>?_) am)
 grind [an]
def Cy{x}(a:o.op=.move x\/o.op=.assign x)(c:K (aA ε x) σ):bt P o ε σ K Kp:=λk O b d e=>by
 have:execOp b o=pure (.value (b x)):=by rcases a with a|a<;>simp[execOp,a]
 rw[this];refine an ⟨b x,.inl rfl,.here ⟨.refl k,_,_,d x ?_,e,c⟩⟩
 rcases a with a|a<;>simp[a,Op.operands]
def Nx{c a b x}(d:o.op=.pick c a b)(h:aA ε c=.lit (.bool x))(i:K (if x then aA ε a else aA ε b) σ):bt P o ε σ K Kp:=λk O e f j=>by
 have g:=f c (by simp[d,Op.operands]);have m:=f a (by simp[d,Op.operands]);have n:=f b (by simp[d,Op.operands]);rw[h]at g;generalize l:e c=v at g;cases g;have:execOp e o=pure (.value (if x then e a else e b)):=by simp[execOp,d,l,asBool]
 rw[this];refine an ⟨_,.inl rfl,.here ⟨.refl k,_,_,?_,j,i⟩⟩
 grind
def Hf{t:Nat}{p i a}(h:o.op=.load t p)(n:L.tt t=some i)(j:xR i σ (aA ε p)=some a)(q:K a σ):bt P o ε σ K Kp:=
 bt.val (s:=λd=>Instr.loadAt t (d p)) (λd=>by simp[execOp,h]) λk O d f m=>by
  have g:=f p (by simp[h,Op.operands]);obtain⟨u,e⟩:=g.Rs (FY j);rw[e]at g;obtain⟨b,base,off,l,rfl,c,r⟩:=IV m g j;simp only[e];exact ag (an (sG L c n r λv f=>.here ⟨.refl k,a,σ,f,m,q⟩))
def IW{t:Nat}{p x i σ'}(a:o.op=.store t p x)(h:L.tt t=some i)(d:vX i σ (aA ε p) (aA ε x)=some σ')(j:K (.lit undef) σ'):bt P o ε σ K Kp:=λk O f g l=>by
 have b:=g p (by simp[a,Op.operands]);have m:=g x (by simp[a,Op.operands]);obtain⟨n,e⟩:=b.Rs (nob d);rw[e]at b;have:execOp f o=(do storeVar t n (f x);pure .skip):=by simp[execOp,a,Instr.storeAt,e,Instr.sureAddr]
 rw[this];exact ag (yK L l b m h d λq c=>an ⟨undef,am,.here ⟨.refl k,.lit undef,σ',.lit _,c,j⟩⟩)
end
def AV.W(a a':AV):Prop:=∀k v,V k v a->V k v a'
theorem AV.W.refl(a:AV):a.W a:=λ_ _ h=>h
abbrev AV.nil:AV:=.lit (.slice none 0 0)
def V.sl0{k}  kk :V k (.slice none 0 0) (.sl kk [] .any):=.slnil none kk .any (.inl rfl)
theorem bK  kk :AV.nil.W (.sl kk [] .any):=λk v h=>by cases h;exact .sl0 kk
theorem eo  kk   es   sp :(AV.sl kk es sp).W (.sl kk es .any):=λk v h=>by
 cases h with
 |sl b off cap _ N E _ _ c d e f g i j l=>exact .sl b off cap kk N E es .any c d e f g i j trivial
 |slnil a=>exact .slnil a kk .any (.inl rfl)
def qZ:Value->AV
 |.agg c=>.agg (c.toList.map .lit)
 |v=>.lit v
def V.qZ(k:az)(v:Value):V k v (qZ v):=by
 cases v<;>first|exact .lit _|skip
 rename_i c;refine .agg _ _ ap λi v a d b=>?_
 simp only[Hi]at b;rw[show c.toList[i]?=c[i]? from ap,d]at b;simp at b;subst b;exact .lit v
def flatten_cons  a   es :RP (a::es)=a.cells++RP es:=rfl
theorem flatten_append  es fs :RP (es++fs)=RP es++RP fs:=by simp[RP]
theorem bL{kk}:∀{es},(∀e∈es,e.cells.length=kk)->(RP es).length=es.length*kk
 |[],_=>by simp[RP]
 |a::es,h=>by rw[flatten_cons,zR,bL (λe b=>h e (by simp[b])),h a ap,Ds,Nat.succ_mul,LG]
def jx{kk}:∀{es}(_:∀e∈es,e.cells.length=kk){i a}(_:es[i]?=some a)  j  (_:j<kk),(RP es)[i*kk+j]?=a.cells[j]?
 |[],_,i,a,b,_,_=>am
 |x::es,h,0,a,b,j,c=>by simp_all [flatten_cons,KX]
 | x::es,h,i+1,a,b,j,c=>by
   rw[flatten_cons,Fi am,h x ap];have:(i+1)*kk+j-kk=i*kk+j:=am
   rw[this];exact jx am am j c
section
variable{P:Rg}(L:lz P){k:az}{O:au}{Kp:FU}
def Rel.OJ{σ}(h:Rel k O σ){r}(i:O r=none){k'}(g:k.Le k'){x y}:Rel k' (((O.set r x).set r y).del r) σ:=⟨λb a e c=>by
 obtain⟨z,d,f⟩:=h.1 b a e c;have:b≠r:=am;exact⟨z,by simp[au.del,au.set,this,d],f.mono g⟩,λb a e c=>by
 obtain⟨d,f⟩:=(h.mono g).2 b a e c;refine⟨?_,f⟩;by_cases q:b=r
 . simp[au.del,q]
 . simp[au.del,au.set,q,d]⟩
def tK{K E c}
 (i:∀r k' O',Nu k O r->(sF k' O' λd l=>k.Le d/\(∀j v,c[j]?=some v->d.cell r j=some v)/\d.sh r=some (E,c.size)/\(∀σ,Rel k O σ->Rel d l σ))->K ⟨r,0,none⟩ k' O'):jm P (newRow E c) k O K Kp:=by
 refine ag  ⟨rfl,λr g=>an (i r _ _ g ?_)⟩;obtain⟨f1,m,o⟩:=g;have a:k.Le (k.made r (.cells c E)):=.made o;have b:∀j,(k.made r (.cells c E)).cell r j=none:=m;refine⟨_,_,(uM (n:=c.size) (c:=c) (e:=E)  (by simp[au.set]) (by simp[az.made,az.jP])).trans (opw _ _ r (by simp[au.set])),a.trans (.C0 b),λj v p=>?_,by simp[az.C0,az.made,az.jP],λσ h=>h.OJ f1 (a.trans (.C0 b))⟩;have f:j<c.size:=am;simp only[az.C0,true_and,f,ZC];omega
def lD{K E c σ}(h:Rel k O σ){l}(d:c.size=l.length)(e:∀(i:Nat) v a,c[i]?=some v->l[i]?=some a->V k v a)(f:∀(i:Nat) v,c[i]?=some v->flat v=true)
 (g:∀r k' O',σ r=none->k.Le k'->Rel k' O' (σ.set r (.cells l))->K ⟨r,0,none⟩ k' O'):jm P (newRow E c) k O K Kp:=by
 refine ag  ⟨rfl,λr b=>an (g r _ _ (h.isNone b.1 b.2.2) (.made b.2.2) ?_)⟩;exact(h.mono (.made b.2.2)).set (.cells c E l d (λi v a j m=>(e i v a j m).mono (.made b.2.2)) f)
end
section
variable{P:Rg}(L:lz P){o:Oper}{ε:Env}{σ:af}{K:AV->af->Prop}{Kp:AV->af->Prop}
def IX{t:Nat}{i}(c:o.op=.alloc t)(d:L.tt t=some i)(e:(qZ i.zero).cells.all AV.flat=true)(f:∀b,σ b=none->K (.ref b 0) (σ.set b (.cells (qZ i.zero).cells))):bt P o ε σ K Kp:=
 bt.val (s:=λ_=>Instr.alloc t true (.tuple #[])) (λg=>by simp[execOp,c]) λk O g q h=>by
  refine ag (fA L d ?_);obtain⟨j,l,m⟩:=(V.qZ k i.zero).cells e;refine ag (lD h j l m λr u v n p a=>an ?_);exact .here ⟨p,_,_,.ref r 0,a,f r n⟩
def C2{t:Nat}{x}(d:o.op=.box t x)(e:(aA ε x).cells.all AV.flat=true)(f:∀b,σ b=none->K (.ref b 0) (σ.set b (.cells (aA ε x).cells))):bt P o ε σ K Kp:=
 bt.val (s:=λa=>Instr.box t (a x)) (λa=>by simp[execOp,d]) λk O a g h=>by
  obtain⟨i,j,l⟩:=(g x (by simp[d,Op.operands])).cells e;refine ag (lD h i j l λr p q m n c=>an ?_);exact .here ⟨n,_,_,.ref r 0,c,f r m⟩
def Rt{t:Nat}{x}(e:o.op=.box t x)(h:(aA ε x).cells.all AV.flat=true)(i:K (.cp (aA ε x) 0) σ):bt P o ε σ K Kp:=
 bt.val (s:=λb=>Instr.box t (b x)) (λb=>by simp[execOp,e]) λk O b l m=>by
  obtain⟨z,n,p⟩:=(l x (by simp[e,Op.operands])).cells h;refine ag (tK λr A B C q=>an ?_);obtain⟨u,v,g,f,D,w,c⟩:=q;refine⟨u,v,g,f,_,σ,?_,c σ m,i⟩;refine V.cp r 0 0 _ _ _ (λj=>(b x).cells.getD j undef) w ac (λj E=>?_) (λj a y=>?_)
  . have:=p j ((b x).cells[j]) am
    simp_all
  . have d:j<(b x).cells.size:=am
    have:=(n j ((b x).cells[j]) a ap y).mono f;simpa[d]using this
end
inductive Ru(k:az):Value->Nat->List AV->tH->Prop
 |nil (a:Option Addr) (kk:Nat) (sp:tH):(sp=.any\/(sp=.exact/\a.isSome=true))->Ru k (.slice a 0 0) kk [] sp
 | row (b off cap kk N:Nat) (E:TypeId) (es:List AV) (sp:tH):es.length<=cap->k.sh b=some (E,N)->off+cap*kk<=N->(∀e∈es,e.cells.length=kk) ->
    (∀O,tJ k O b off (RP es))->sp.fits b off es.length kk cap->Ru k (.slice (some ⟨b,off,none⟩) es.length cap) kk es sp
def V.OK{k v kk es sp}(h:V k v (.sl kk es sp)):Ru k v kk es sp:=by
 cases h with
 |sl b off cap _ N E _ _ c d e f g i j l=>exact .row b off cap kk N E es sp d e f g (λO=>.known i j) l
 |slnil a _ _ h=>exact .nil a kk sp h
def Ru.len{k v kk es sp}(h:Ru k v kk es sp):∃a c,v=.slice a es.length c:=by
 cases h
 . simp_all
 grind
def V.ofRow{k b off cap kk N E es sp}(c:es.length<=cap)(d:k.sh b=some (E,N))(f:off+cap*kk<=N)(g:∀e∈es,e.cells.length=kk)
 (h:∀  j  a,(RP es)[j]?=some a->∃v,k.cell b (off+j)=some v/\V k v a/\bu.flat v=true) (i:sp.fits b off es.length kk cap):V k (.slice (some ⟨b,off,none⟩) es.length cap) (.sl kk es sp):=by
 refine .sl b off cap kk N E es sp (λj=>(k.cell b (off+j)).getD undef) c d f g (λj l=>?_) (λj a m=>?_) i
 . obtain⟨v,n,_,o⟩:=h j (RP es)[j] ap
   grind
 grind
def V.qA{k v kk es sp}(h:V k v (.sl kk es sp)):(∃a,v=.slice a 0 0/\es=[]/\(sp=.any\/(sp=.exact/\a.isSome=true)))\/
 ∃b off cap N E,v=.slice (some ⟨b,off,none⟩) es.length cap/\es.length<=cap/\k.sh b=some (E,N)/\off+cap*kk<=N/\(∀e∈es,e.cells.length=kk)/\(∀  j  a,(RP es)[j]?=some a->∃v,k.cell b (off+j)=some v/\V k v a/\bu.flat v=true)/\sp.fits b off es.length kk cap:=by
 cases h with
 |sl b off cap _ N E _ _ c d f g i m n l=>exact .inr ⟨b,off,cap,N,E,rfl,d,f,g,i,am,l⟩
 |slnil a _ _ h=>grind
def V.Rv{k b off cap kk N es sp}(h:V k (.slice (some ⟨b,off,none⟩) N cap) (.sl kk es sp)):∀  j  a,(RP es)[j]?=some a->∃v,k.cell b (off+j)=some v/\V k v a/\bu.flat v=true:=by
 intro j a d;cases h with
 |sl _ _ _ _ N E _ _ c e f g i l m n=>grind
 |slnil=>simp[RP]at d
section
variable{P:Rg}(L:lz P){o:Oper}{ε:Env}{σ:af}{K:AV->af->Prop}{Kp:AV->af->Prop}
def dD{i d e}(h:iA P i d=true)(a:i.kind=.slice e):d=.slice e:=by cases d<;>simp_all [iA]
def yg{i d n e}(h:iA P i d=true)(a:i.kind=.array n e):d=.array n e:=by cases d<;>simp_all [iA]
theorem Hg{x b t e i kk es sp}(j:o.op=.call ⟨.builtin .len,#[x],b⟩)(l:b[0]?=some t)(m:L.tt t=some i)(n:i.kind=.slice e)
 (f:aA ε x=.sl kk es sp\/(aA ε x=.nil/\es=[])) (p:K (.lit (.int .i64 es.length)) σ):bt P o ε σ K Kp:=
 fun k O g q r=>by
  have h:=q x (by simp[j,Op.operands,Call.operands])
  have s:∃a c,g x=.slice a es.length c:=by
   rcases f with f|⟨f,rfl⟩
   . rw[f]at h;exact h.OK.len
   . rw[f]at h
     generalize g x=v at h;cases h
     grind
  obtain⟨a,c,u⟩:=s;have:execOp g o=(do pure (Next.value (<-Builtin.len_ b o.type #[g x]))):=by simp[execOp,j,resolve,invoke,builtin]
  rw[this];refine ag ?_;unfold Builtin.len_;simp only[l,Mj];refine ag (aY L m λd _ hd=>?_);rw[dD hd n,u];exact an (an ⟨_,.inl rfl,.here ⟨.refl k,_,σ,.lit _,r,p⟩⟩)
theorem FZ{x f t e i b off len cap}(j:o.op=.call ⟨.builtin .len,#[x],f⟩)(l:f[0]?=some t)(m:L.tt t=some i)(n:i.kind=.slice e)
 (p:aA ε x=.mJ b off len cap) (q:K (.lit (.int .i64 len)) σ):bt P o ε σ K Kp:=
 fun k O g r s=>by
  have h:=r x (by simp[j,Op.operands,Call.operands])
  have u:∃a c,g x=.slice a len c:=by
   rw[p]at h;generalize g x=v at h;cases h
   grind
  obtain⟨a,c,w⟩:=u;have:execOp g o=(do pure (Next.value (<-Builtin.len_ f o.type #[g x]))):=by simp[execOp,j,resolve,invoke,builtin]
  rw[this];refine ag ?_;unfold Builtin.len_;simp only[l,Mj];refine ag (aY L m λd _ hd=>?_);rw[dD hd n,w];exact an (an ⟨_,.inl rfl,.here ⟨.refl k,_,σ,.lit _,s,q⟩⟩)
def ga{k v kd n}(h:V k v (.lit (.int kd n))):v=.int kd n:=by cases h;rfl
def C3{t e:Nat}{x h it f es sp n kd a}(l:o.op=.indexAddr t x h)(q:L.tt t=some it)(r:it.kind=.slice e)(C:L.tt e=some f)
 (D:aA ε x=.sl f.size es sp) (hi:aA ε h=.lit (.int kd n)) (F:0<=n) (w:es[n.toNat]?=some a) (G:K (.cp a 0) σ):bt P o ε σ K Kp:=
 bt.val (s:=λg=>Instr.indexAt t (g x) (g h)) (λg=>by simp[execOp,l]) λk O g z H=>by
  have i:=z x (by simp[l,Op.operands]);have A:=z h (by simp[l,Op.operands]);rw[D]at i;rw[hi]at A;rw[ga A];have I:n.toNat<es.length:=am;generalize g x=v at i;have c:=i;cases i.OK with
  |nil=>grind
  | row b off cap _ N E _ _ W J X B Y Z=>
    unfold Instr.indexAt;refine ag (an ?_);refine ag (aY L q λd _ hd=>?_);rw[dD hd r];dsimp only;refine ag (an ?_);dsimp only;refine ag (aY L q λd2 _ m=>?_);rw[dD m r];dsimp only;rw[wS ⟨F,ac⟩];refine ag (de L C (an (.here ⟨.refl k,_,σ,?_,H,G⟩)));rw[mL];have M:a.cells.length=f.size:=am
    have p:off+n.toNat*f.size+a.cells.length<=N:=by
     have hn:n.toNat<es.length:=ac;have:=IQ f.size (show n.toNat+1<=cap by omega)
     grind
    refine V.cp b (off+n.toNat*f.size) 0 N E a (λj=>(k.cell b (off+n.toNat*f.size+j)).getD undef) J p (λj Q=>?_) (λj y hy=>?_)
    . have R:=jx B w j ac
      obtain⟨u,S,_,T⟩:=c.Rv (n.toNat*f.size+j) a.cells[j] am
      grind
    . have Q:j<a.cells.length:=am
      have R:=jx B w j ac;obtain⟨u,S,U,_⟩:=c.Rv (n.toNat*f.size+j) y am
      grind
def BD{k O Kp}{t:Nat}{info K}(h:P.info? t=some info)(a:K info.size k O):jm P (sizeOf t) k O K Kp:=by
 unfold sizeOf typeInfo
 grind [ag,cO,an]
def BE{i d}(h:iA P i d=true)(a:i.kind=.struct){j:Nat}{x}(b:i.o6[j]?=some x):∃fs f info,d=.struct fs/\fs[j]?=some f/\f.offset=x.1/\P.info? f.type=some info/\info.size=x.2.1/\f.type=x.2.2:=by
 cases d with
 | struct fs=>
   simp  [iA,vc]at h;have c:=congrArg (λl=>l[j]?) h.2
   grind [Option.map_eq_some_iff]
 |_=>simp[iA,a]at h
def yL(a:AV)(n:Nat):Option AV:=
 match a with
 |.cp v off=>some (.cp v (off+n))
 |.kp b l hole off=>some (.kp b l hole (off+n))
 |.ref b off=>some (.ref b (off+n))
 |_=>none
def V.yL{k:az}{v:Value}{a a':AV}{n:Nat}(h:V k v a)(d:yL a n=some a'):∃b off,v=.pointer (some ⟨b,off,none⟩)/\V k (.pointer (some ⟨b,off+n,none⟩)) a':=by
 cases a<;>simp  [bu.yL,reduceCtorEq]at d
 . subst d
   cases h with
   |cp b base _ N E _ c e f g i=>exact⟨b,_,rfl,by rw[Nat.add_assoc];exact .cp b base _ N E _ c e f g i⟩
 . subst d
   cases h with
   |kp _ _ N E _ _ c e f g i=>exact⟨_,_,rfl,.kp _ _ N E _ _ c e f g i⟩
 . subst d
   cases h;exact⟨_,_,rfl,.ref _ _⟩
def yM{s j:Nat}{x i f a'}(c:o.op=.fieldAddr s x j)(h:L.tt s=some i)(l:i.kind=.struct)(m:i.o6[j]?=some f)(n:f.2.1≠0)
 (p:yL (aA ε x) f.1=some a') (q:K a' σ):bt P o ε σ K Kp:=
 bt.val (s:=λa=>Instr.fieldAt s (a x) j) (λa=>by simp[execOp,c]) λk O a r t=>by
  obtain⟨b,off,e,u⟩:=(r x (by simp[c,Op.operands])).yL p;refine ag (aY L h λd _ hd=>?_);obtain⟨fs,g,info,rfl,v,z,w,y,_⟩:=BE hd l m;dsimp;rw[v,e];refine ag (an ?_);refine ag (ag (BD w ?_));rw[y,wN n];refine an (an (.here ⟨.refl k,_,σ,?_,t,q⟩))
  grind [mL]
def BF{t n e:Nat}{x a it g z kd a'}(f:o.op=.indexAddr t x a)(h:L.tt t=some it)(l:it.kind=.array n e)(m:L.tt e=some g)
 (hi:aA ε a=.lit (.int kd z)) (p:0<=z/\z<n) (q:yL (aA ε x) (z.toNat*g.size)=some a') (r:K a' σ):bt P o ε σ K Kp:=
 bt.val (s:=λc=>Instr.indexAt t (c x) (c a)) (λc=>by simp[execOp,f]) λk O c i u=>by
  obtain⟨b,off,v,w⟩:=(i x (by simp[f,Op.operands])).yL q;have j:=i a (by simp[f,Op.operands]);rw[hi]at j;rw[ga j,v];refine ag (an ?_);refine ag (aY L h λd _ hd=>?_);rw[yg hd l];refine ag (an ?_);refine ag (an ?_);dsimp;refine ag (aY L h λA _ y=>?_);rw[wS p];refine ag (de L m (an (.here ⟨.refl k,_,σ,?_,u,r⟩)))
  grind [mL]
def BG{t e:Nat}{x c it h b off len cap z kd}(f:o.op=.indexAddr t x c)(i:L.tt t=some it)(m:it.kind=.slice e)(n:L.tt e=some h)
 (p:aA ε x=.mJ b off len cap) (hi:aA ε c=.lit (.int kd z)) (q:0<=z/\z<len) (r:K (.ref b (off+z.toNat*h.size)) σ):bt P o ε σ K Kp:=
 bt.val (s:=λa=>Instr.indexAt t (a x) (a c)) (λa=>by simp[execOp,f]) λk O a j u=>by
  have g:=j x (by simp[f,Op.operands]);have l:=j c (by simp[f,Op.operands]);rw[p]at g;rw[hi]at l;rw[ga l];generalize a x=v at g;cases g;refine ag (an ?_);refine ag (aY L i λd _ hd=>?_);rw[dD hd m];refine ag (an ?_);dsimp;refine ag (aY L i λy _ w=>?_);rw[wS q];refine ag (de L n (an (.here ⟨.refl k,_,σ,?_,u,r⟩)));rw[mL];exact .ref _ _
def V.part{k:az}{O:au}{Kp:FU}{t off:Nat}{i:TI}{c:E7}{l:List AV}{a:AV}{K:FU}(n:c.size=l.length)(g:∀(j:Nat) v a,c[j]?=some v->l[j]?=some a->V k v a)
 (e:L.tt t=some i) (d:eh l off i.size i.agg=some a) (f:∀v,V k v a->K v k O):jm P (part t c off) k O K Kp:=by
 refine ag (xe L e ?_);unfold eh at d;cases b:i.agg
 . simp  [b,zA]at d ⊢
   have h:off<l.length:=am;rw[show c[off]?=some c[off]from aq];exact f _ (g off _ a aq d)
 . simp only[b,ZC]at d ⊢
   split at d
   . next m=>
     simp   at d;subst d;refine ag (de L e (an (f _ (.agg _ _ ?_ λj v a o p=>?_))))
     . grind
     grind
   grind
def IY{s j:Nat}{x i h f l a}(p:o.op=.field s x j)(q:L.tt s=some i)(r:i.kind=.struct)(t:i.o6[j]?=some f)(m:L.tt f.2.2=some h)
 (u:aA ε x=.agg l) (w:eh l f.1 h.size h.agg=some a) (y:K a σ):bt P o ε σ K Kp:=
 bt.val (s:=λe=>Instr.field s (e x) j) (λe=>by simp[execOp,p]) λk O e n z=>by
  have b:=n x (by simp[p,Op.operands]);rw[u]at b;generalize e x=v at b;cases b with
  | agg c l A B=>
    refine ag (aY L q λd _ hd=>?_);obtain⟨fs,g,info,rfl,b,C,E,F,D⟩:=BE hd r t;dsimp;rw[b];dsimp;rw[C,D];exact V.part L A B m w λv n=>.here ⟨.refl k,a,σ,n,z,y⟩
def IZ{t n e:Nat}{x f it g z kd l a}(i:o.op=.index t x f)(q:L.tt t=some it)(r:it.kind=.array n e)(m:L.tt e=some g)
 (u:aA ε x=.agg l) (hi:aA ε f=.lit (.int kd z)) (w:0<=z/\z<n) (y:eh l (z.toNat*g.size) g.size g.agg=some a) (A:K a σ):bt P o ε σ K Kp:=
 bt.val (s:=λb=>Instr.index t (b x) (b f)) (λb=>by simp[execOp,i]) λk O b h B=>by
  have j:=h x (by simp[i,Op.operands]);have p:=h f (by simp[i,Op.operands]);rw[u]at j;rw[hi]at p;rw[ga p];generalize b x=v at j;cases j with
  | agg c l C D=>
    refine ag (an ?_);refine ag (aY L q λd _ hd=>?_);rw[yg hd r];dsimp;rw[wS w];refine ag (de L m ?_);exact V.part L C D m y λv h=>.here ⟨.refl k,a,σ,h,B,A⟩
def vQ(op:BinOp)(k:IntKind)(x y:Int):FP:=
 match op with
 |.add=>some (.int k (k.wrap (x+y)))
 |.sub=>some (.int k (k.wrap (x-y)))
 |.mul=>some (.int k (k.wrap (x*y)))
 |.quo=>if y=0 then none else some (.int k (k.wrap (x.tdiv y)))
 |.rem=>if y=0 then none else some (.int k (x.tmod y))
 |.and=>some (.int k (k.wrap ((BitVec.ofInt k.bits x &&& BitVec.ofInt k.bits y).toNat)))
 |.or=>some (.int k (k.wrap ((BitVec.ofInt k.bits x|||BitVec.ofInt k.bits y).toNat)))
 |.xor=>some (.int k (k.wrap ((BitVec.ofInt k.bits x ^^^ BitVec.ofInt k.bits y).toNat)))
 |.eql=>some (.bool (x==y))
 |.neq=>some (.bool (x !=y))
 |.lss=>some (.bool (x<y))
 |.leq=>some (.bool (x<=y))
 |.gtr=>some (.bool (x>y))
 |.geq=>some (.bool (x>=y))
 |_=>none
def fL{op}{t l:Nat}{x y kd a b v}(g:o.op=.binOp op t x y l)(m:aA ε x=.lit (.int kd a))(n:aA ε y=.lit (.int kd b))(d:vQ op kd a b=some v)(p:K (.lit v) σ):
 bt P o ε σ K Kp:=λk O c f q=>by
 have i:=f x (by simp[g,Op.operands]);have j:=f y (by simp[g,Op.operands]);rw[m]at i;rw[n]at j;have r:=ga i;have s:=ga j
 have key:(do eqGuard op t x y (c x) (c y);binOp op t (c x) (c y))=(pure v:Sem Value):=by
  rw[r,s]
  cases op<;>simp only[vQ,reduceCtorEq,td]at d<;>
   first
    |(subst d;simp[eqGuard,binOp,Op.intArith,Op.intBits,Op.intCmp])
    | (split at d
       . cases d
       . next h=>simp  [td]at d;subst d;simp[eqGuard,binOp,Op.intDiv,h])
 have:execOp c o=pure (.value v):=by
  have e:execOp c o=(do let v <-(do eqGuard op t x y (c x) (c y);binOp op t (c x) (c y));pure (.value v)):=by simp[execOp,g]
  grind
 rw[this];exact an ⟨v,.inl rfl,.here ⟨.refl k,_,σ,.lit v,q,p⟩⟩
def wrap_i64{n}(h:-9223372036854775808<=n/\n<=9223372036854775807):IntKind.i64.wrap n=n:=by
 simp  [IntKind.wrap,IntKind.bits,IntKind.signed]
 grind
def tL{op}{t e:Nat}{x y a b r}(f:o.op=.binOp op t x y e)(g:aA ε x=.lit (.int .i64 a))(h:aA ε y=.lit (.int .i64 b))
 (d:(op=.add/\r=a+b)\/(op=.sub/\r=a-b)\/(op=.mul/\r=a*b)) (c:-9223372036854775808<=r/\r<=9223372036854775807) (i:K (.lit (.int .i64 r)) σ):bt P o ε σ K Kp:=by
 have j:=wrap_i64 c;rcases d with⟨rfl,rfl⟩|⟨rfl,rfl⟩|⟨rfl,rfl⟩<;>exact fL f g h (by simp  [vQ,j]) i
def yN{op}{t j:Nat}{x y kd l a b v}(f:o.op=.binOp op t x y j)(m:aA ε x=.lit (.int kd a))(n:aA ε y=.lit (.int l b))(hb:0<=b)
 (g:(op=.shl/\v=.int kd (kd.wrap (a*2 ^ (min b.toNat kd.bits))))\/(op=.shr/\v=.int kd (a.fdiv (2 ^ (min b.toNat kd.bits))))) (p:K (.lit v) σ):
 bt P o ε σ K Kp:=λk O c d q=>by
 have h:=d x (by simp[f,Op.operands]);have i:=d y (by simp[f,Op.operands]);rw[m]at h;rw[n]at i;have r:=ga h;have s:=ga i;have u:¬b<0:=ac
 have key:(do eqGuard op t x y (c x) (c y);binOp op t (c x) (c y))=(pure v:Sem Value):=by
  rw[r,s];rcases g with⟨rfl,rfl⟩|⟨rfl,rfl⟩<;>simp[eqGuard,binOp,Op.shift,u]
 have:execOp c o=pure (.value v):=by
  have e:execOp c o=(do let v <-(do eqGuard op t x y (c x) (c y);binOp op t (c x) (c y));pure (.value v)):=by simp[execOp,f]
  grind
 rw[this];exact an ⟨v,.inl rfl,.here ⟨.refl k,_,σ,.lit v,q,p⟩⟩
def yh{k v b}(h:V k v (.lit (.bool b))):v=.bool b:=by cases h;rfl
def Rw{t:Nat}{x b}(c:o.op=.unOp .not t x)(e:aA ε x=.lit (.bool b))(f:K (.lit (.bool !b)) σ):bt P o ε σ K Kp:=λk O g a h=>by
 have d:=a x (by simp[c,Op.operands]);rw[e]at d;have:execOp g o=pure (.value (.bool !b)):=by simp[execOp,c,yh d,Op.unary]
 rw[this];exact an ⟨_,.inl rfl,.here ⟨.refl k,_,σ,.lit _,h,f⟩⟩
def C4{s t:Nat}{x is it kd ks b a}(f:o.op=.convert s t x)(i:L.tt s=some is)(j:L.tt t=some it)(l:is.kind=.int ks)(m:it.kind=.int kd)(n:aA ε x=.lit (.int b a))(p:K (.lit (.int kd (kd.wrap a))) σ):bt P o ε σ K Kp:=
 bt.val (s:=λc=>convert s t (c x)) (λc=>by simp[execOp,f]) λk O c e q=>by
  have g:=e x (by simp[f,Op.operands])
  rw[n]at g;rw[ga g];refine ag (aY L i λd _ hd=>ag (aY L j λh _ r=>?_))
  have u:h=.int kd:=by cases h<;>simp_all [iA]
  have v:d=.int ks:=by cases d<;>simp_all [iA]
  subst v u;exact an (.here ⟨.refl k,_,σ,.lit _,q,p⟩)
def xf{b c x y kd p q}(d:o.op=.call ⟨.builtin b,#[x,y],c⟩)(g:aA ε x=.lit (.int kd p))(h:aA ε y=.lit (.int kd q))
 {r}(hb:(b=.min/\r=if q<p then q else p)\/(b=.max/\r=if q>p then q else p)) (i:K (.lit (.int kd r)) σ):bt P o ε σ K Kp:=λk O j a l=>by
 have e:=a x (by simp[d,Op.operands,Call.operands])
 have f:=a y (by simp[d,Op.operands,Call.operands])
 rw[g]at e;rw[h]at f;have m:=ga e;have n:=ga f
 have:execOp j o=pure (.value (.int kd r)):=by
  rcases hb with⟨rfl,rfl⟩|⟨rfl,rfl⟩<;>
  simp[execOp,d,resolve,invoke,builtin,m,n,Builtin.min_,Builtin.max_,Builtin.min2,Builtin.max2]
 rw[this];exact an ⟨_,.inl rfl,.here ⟨.refl k,_,σ,.lit _,l,i⟩⟩
def tN{t:Nat}{x i}(l:o.op=.makeInterface t x)(m:L.tt t=some i)(r:i.kind≠.iface)(n:K (.pH t (aA ε x)) σ):bt P o ε σ K Kp:=
 bt.val (s:=λf=>Instr.makeInterface t (f x)) (λf=>by simp[execOp,l]) λk O f g p=>by
  refine ag (aY L m λd _ hd=>?_)
  have:∀ms,d≠.interface ms:=λms e=>by simp[iA]at hd;grind
  have fin:jm P _ k O (λv c h=>sF c h λj q=>k.Le j/\∃a b,V j v a/\Rel j q b/\K a b) (λv c h=>k.Le c/\∃a b,V c v a/\Rel c h b/\Kp a b):=an (.here ⟨.refl k,_,σ,.pH _ _ _ (g x (by simp[l,Op.operands])),p,n⟩)
  grind
def Vs.ofArray{k ρ ε}{xs:Array I8}(h:∀x∈xs,V k (ρ x) (aA ε x)):(xs.map ρ).size=(xs.toList.map (aA ε)).length/\∀(i:Nat) v a,(xs.map ρ)[i]?=some v->(xs.toList.map (aA ε))[i]?=some a->V k v a:=by
 refine⟨ap,λi v a b c=>?_⟩
 grind
def BH{fn fs cs}(b:o.op=.makeFunc fn fs cs)(e:K (.fn fn (fs.toList.map (aA ε)) (cs.toList.map (aA ε))) σ):bt P o ε σ K Kp:=λk O c a f=>by
 have:execOp c o=pure (.value (.func fn (fs.map c) (cs.map c))):=by simp[execOp,b,Instr.makeFunc]
 rw[this];obtain⟨g,h⟩:=Vs.ofArray    (xs:=fs) λx d=>a x (by simp[b,Op.operands,d])
 obtain⟨i,j⟩:=Vs.ofArray    (xs:=cs) λx d=>a x (by simp[b,Op.operands,d])
 exact an ⟨_,.inl rfl,.here ⟨.refl k,_,σ,.fn _ _ _ _ _ g h i j,f,e⟩⟩
def C5{x j l a}(e:o.op=.extract x j)(g:aA ε x=.cx l)(p:l[j]?=some a)(h:K a σ):bt P o ε σ K Kp:=λk O f b i=>by
 have d:=b x (by simp[e,Op.operands]);rw[g]at d;generalize m:f x=v at d;cases d with
 | cx c l q r=>
   have n:j<c.size:=am
   have:execOp f o=pure (.value c[j]):=by simp[execOp,e,Instr.extract,m,n]
   rw[this];exact an ⟨_,.inl rfl,.here ⟨.refl k,_,σ,am,i,h⟩⟩
def xS{x}{z t:Nat}{i}{d:Nat}{y}(A:o.op=.typeAssert x z t true)(B:L.tt t=some i)(I:i.kind≠.iface)(E:aA ε x=.pH d y)
 (n:K (if d=t then .cx [y,.lit (.bool true)]else .cx [qZ i.zero,.lit (.bool false)]) σ):bt P o ε σ K Kp:=
 bt.val (s:=λm=>Instr.typeAssert (m x) z t true) (λm=>by simp[execOp,A]) λk O m p C=>by
  have g:=p x (by simp[A,Op.operands]);rw[E]at g;generalize m x=v at g;cases g with
  | pH _ v _ F=>
    refine ag (aY L B λdd _ hd=>?_);have G:∀ms,dd≠.interface ms:=λms e=>by simp[iA]at hd;grind
    have pair:∀{u:Value}{b:Bool}{a:AV},V k u a->V k (.tuple #[u,.bool b]) (.cx [a,.lit (.bool b)]):=λ{u b a} h=>.cx _ _ rfl λj w c g D=>by
     match j with
     |0=>grind
     |1=>simp at g D;subst g;subst D;exact .lit _
     |j+2=>grind
    have fin:jm P (if d=t then(pure (.tuple #[v,.bool true]):Sem Value)else(do pure (.tuple #[<-zeroValue t,.bool false]))) k O (λv l q=>sF l q λr H=>k.Le r/\∃a f,V r v a/\Rel r H f/\K a f) (λv l q=>k.Le l/\∃a f,V l v a/\Rel l q f/\Kp a f):=by
     split at n
     . next e=>rw[wS e];exact an (.here ⟨.refl k,_,σ,pair F,C,n⟩)
     . next e=>rw[wN e];exact ag (fA L B (an (.here ⟨.refl k,_,σ,pair (.qZ k _),C,n⟩)))
    grind
def ko{x}(g:o.op=.nilCheck x)(h:(∃v off,aA ε x=.cp v off)\/(∃b off,aA ε x=.ref b off)\/(∃f l r,aA ε x=.fn (.func f) l r)\/∃b l hole off,aA ε x=.kp b l hole off)(i:K (aA ε x) σ):bt P o ε σ K Kp:=λk O c d j=>by
 have a:=d x (by simp[g,Op.operands])
 have:execOp c o=pure (.value (c x)):=by rcases h with⟨v,off,e⟩|⟨b,off,e⟩|⟨f,l,r,e⟩|⟨b,l,hole,off,e⟩<;>rw[e]at a<;>generalize m:c x=w at a<;>cases a<;>simp[execOp,g,m]
 rw[this];exact an ⟨_,.inl rfl,.here ⟨.refl k,_,σ,a,j,i⟩⟩
def I0{x}{t:Nat}{y}(c:o.op=.panic x)(e:aA ε x=.pH t y)(f:Kp (.pH t y) σ):bt P o ε σ K Kp:=λk O d a g=>by
 have b:=a x (by simp[c,Op.operands])
 rw[e]at b;generalize h:d x=w at b;cases b with
 | pH _ v _ i=>
   have:execOp d o=Sem.halt (.panic (.iface t v)):=by simp[execOp,c,h,Instr.panic];rfl
   rw[this];exact⟨.refl k,_,σ,.pH _ _ _ i,g,f⟩
def acj{op}{t F e:Nat}{x y i kk es sp isNil}(r:o.op=.binOp op t x y F)(G:L.tt t=some i)(H:i.kind=.slice e)(I:aA ε y=.nil)
 (J:(aA ε x=.nil/\isNil=true)\/(aA ε x=.sl kk es sp/\es≠[]/\isNil=false)\/(aA ε x=.sl kk es sp/\sp≠.any/\isNil=false)){b}(l:(op=.eql/\b=isNil)\/(op=.neq/\b=!isNil)) (M:K (.lit (.bool b)) σ):bt P o ε σ K Kp:=
 bt.val (s:=λf=>do eqGuard op t x y (f x) (f y);binOp op t (f x) (f y)) (λf=>by simp[execOp,r]) λk O f m N=>by
  have j:=m x (by simp[r,Op.operands])
  have u:=m y (by simp[r,Op.operands])
  rw[I]at u;have Q:f y=.slice none 0 0:=by generalize f y=w at u;cases u;rfl
  have z:∃a n c,f x=.slice a n c/\a.isNone=isNil:=by
   rcases J with⟨e,rfl⟩|⟨e,A,rfl⟩|⟨e,A,rfl⟩<;>rw[e]at j
   . generalize f x=w at j;cases j;grind
   . generalize f x=w at j
     cases j.OK with
     |nil=>grind
     |row=>grind
   . generalize f x=w at j
     cases j.OK with
     |nil a _ _ h=>simp_all
     |row=>grind
  obtain⟨a,n,c,z,D⟩:=z;rw[z,Q];have S:eqGuard op t x y (.slice a n c) (.slice none 0 0)=pure ():=by rcases l with⟨rfl,_⟩|⟨rfl,_⟩<;>simp[eqGuard]
  rw[S];refine ag (an ?_)
  have fin:∀{s:Sem Value},s=(do pure (.bool b))->jm P s k O (λv p B=>sF p B λC T=>k.Le C/\∃a g,V C v a/\Rel C T g/\K a g) (λv p B=>k.Le p/\∃a g,V p v a/\Rel p B g/\Kp a g):=λe=>by rw[e];exact an (.here ⟨.refl k,_,σ,.lit _,N,M⟩)
  have q:∀(R:Bool->az->au->Prop) (E:FU),R isNil k O->jm P (Op.equal t (.slice a n c) (.slice none 0 0)) k O R E:=λR E U=>by
   refine ag (aY L G λd _ hd=>?_)
   rw[dD hd H];cases a<;>simp at D<;>subst D<;>exact an U
  rcases l with⟨rfl,rfl⟩|⟨rfl,rfl⟩
  . exact ag (s:=Op.equal t (.slice a n c) (.slice none 0 0)) (q _ _ (fin rfl))
  . exact ag (s:=Op.equal t (.slice a n c) (.slice none 0 0)) (q _ _ (fin rfl))
end
def LA(a:AV)(kk:Nat)(es:List AV):Prop:=(a=.nil/\es=[])\/∃sp,a=.sl kk es sp
def Tok(σ0 σ:af)(a:AV)(kk:Nat)(es:List AV):Prop:=σ0.Le σ/\((a=.nil/\es=[])\/a=.sl kk es .exact\/∃b e,σ0 b=none/\a=.sl kk es (.tok b e)/\σ b=some (.tail e))
def Tok.uN{σ0 σ a kk es}(h:Tok σ0 σ a kk es):LA a kk es:=by
 rcases h.2 with h|h|⟨b,e,_,h,_⟩
 . exact .inl h
 . exact .inr ⟨_,h⟩
 . exact .inr ⟨_,h⟩
def LA.W{a kk es}(h:LA a kk es):a.W (.sl kk es .any):=by
 rcases h with⟨rfl,rfl⟩|⟨sp,rfl⟩
 . exact bK kk
 grind [eo]
def Tok.W{σ0 σ a kk es}(h:Tok σ0 σ a kk es):a.W (.sl kk es .any):=h.uN.W
theorem Tok.nil  σ   kk :Tok σ σ .nil kk []:=⟨λ_ _ h=>h,am⟩
def Tok.exact  σ   kk   es :Tok σ σ (.sl kk es .exact) kk es:=⟨λ_ _ h=>h,am⟩
section
variable{P:Rg}(L:lz P){k:az}{O:au}{Kp:FU}
def abo{K b off N E}:∀  vs   i   k   O ,O b=some (.tail (off+i))->k.sh b=some (E,N)->off+i+vs.length<=N->(∀v∈vs,flat v=true) ->
 (∀k' O',k.Le k'->(∀  j  v,vs[j]?=some v->k'.cell b (off+i+j)=some v)->O'=O.set b (.tail (off+i+vs.length))->K () k' O')->jm P (storeCells ⟨b,off,none⟩ vs i) k O K Kp:=by
 intro vs;induction vs with
 | nil=>
   intro i k O d e hlen g h;refine an (h k O (.refl k) am ?_);funext x;by_cases a:x=b
   . subst a;simp[au.set,d]
   . simp[au.set,a]
 | cons v vs l=>
   intro i k O d e hlen g h;simp only[Ds]at hlen;unfold storeCells;rw[mL];refine ag (s:=store ⟨b,off+i,none⟩ v) ⟨rfl,am,rfl,.inr (.inl ⟨E,N,d,e,am,λm=>?_⟩)⟩;refine l (i+1) _ _ (by simp[au.set];omega) e ac am λk' O' c o n=>?_
   refine h k' O' ((az.Le.put m).trans c) (λj u f=>?_) ?_
   . cases j with
     |zero=>simp at f;subst f;exact c.cell _ _ _ (by simp[az.put])
     |succ j=>grind
   . rw[n];funext x
     by_cases a:x=b
     . subst a;simp[au.set];omega
     . simp[au.set,a]
def nextslicecap_le{mM c}(h:c<mM):Builtin.nextslicecap mM c<=4*mM+2000:=by
 have g:∀(r c b:Nat),c<=b->Builtin.growBy mM r c<=max b ((mM+(mM+768) / 4)):=by
  intro r;induction r with
  |zero=>simp  [Builtin.growBy];omega
  | succ r a=>
    intro c b hb;simp  [Builtin.growBy];split
    . omega
    grind
 unfold Builtin.nextslicecap;split
 . omega
 . split
   . omega
   . refine FL (g 4 c mM ac) ac
def xg{K v a kk es n}(f:V k v a)(g:LA a kk es)(s:n<=es.length)
 (h:∀c ,c.size=n*kk->(∀(j:Nat) u x,c[j]?=some u->(RP es)[j]?=some x->V k u x)->(∀(j:Nat) u,c[j]?=some u->flat u=true)->K c k O):jm P (Builtin.firstCells kk n v) k O K Kp:=by
 rcases g with⟨rfl,rfl⟩|⟨sp,rfl⟩
 . cases f
   have:n=0:=am
   subst this;exact an (h #[] ap (λj u x d=>by simp at d) (λj u d=>by simp at d))
 . cases f.OK with
   | nil a=>
     have e:Builtin.firstCells kk 0 (.slice a 0 0)=pure #[]:=by cases a<;>simp[Builtin.firstCells,loadCells,loadCellsFrom]
     grind [an]
   | row b off cap _ N E _ _ t w y i l z=>
     have m:=bL i;have o:n*kk<=(RP es).length:=by simp_all [IQ]
     rw[show(⟨b,off,none⟩:Addr)=⟨b,off+0,none⟩by rfl];refine oc (l O) _ 0 #[] ac λvs p q r=>?_
     grind
def UnW{K v a kk es}(b:V k v a)(e:LA a kk es)(d:K es.length k O):jm P (Builtin.lenOf v) k O K Kp:=by
 rcases e with⟨rfl,rfl⟩|⟨sp,rfl⟩
 . cases b;exact an d
 . obtain⟨x,c,rfl⟩:=b.OK.len;exact an d
end
def aiI{P k O Kp K E c n}(q:n<=c.size)
 (i:∀r k' O',Nu k O r->(sF k' O' λf l=>k.Le f/\(∀j v,j<n->c[j]?=some v->f.cell r j=some v)/\f.sh r=some (E,c.size)/\(∀σ,Rel k O σ->Rel f l (σ.set r (.tail n))))->K ⟨r,0,none⟩ k' O'):jm P (newRow E c) k O K Kp:=by
 refine ag  ⟨rfl,λr g=>an (i r _ _ g ?_)⟩
 obtain⟨f1,m,o⟩:=g;have a:k.Le (k.made r (.cells c E)):=.made o;have d:∀j,(k.made r (.cells c E)).cell r j=none:=m;refine⟨_,_,uM (n:=n) (c:=c) (e:=E)  (by simp[au.set]) (by simp[az.made,az.jP]),a.trans (.C0 d),λj v p s=>by simp  [az.C0,p];omega,by simp[az.C0,az.made,az.jP],λσ h=>?_⟩
 have:((O.set r (.obj (.cells c E))).set r (.tail n))=O.set r (.tail n):=by funext b;by_cases hb:b=r<;>simp[au.set,hb]
 rw[this];exact(h.mono (a.trans (.C0 d))).set (.tail n)
section
variable{P:Rg}(L:lz P){o:Oper}{ε:Env}{σ:af}{K:AV->af->Prop}{Kp:AV->af->Prop}
def vZ{k O Kp K n}(h:K () k O):jm P (askRoom n) k O K Kp:=by
 unfold askRoom;split
 . exact⟨rfl,h⟩
 . exact h
def aP{s x H t t2 e e2 it a7 g σ0 es xs}(ho:o.op=.call ⟨.builtin .append,#[s,x],H⟩)(h0:H[0]?=some t)(h1:H[1]?=some t2)(ht:L.tt t=some it)(hk:it.kind=.slice e)
 (aC:L.tt t2=some a7) (aE:a7.kind=.slice e2) (Z:L.tt e=some g) (hb:g.bytes<=1024) (hlen:es.length+xs.length<=1073741824) (hs:Tok σ0 σ (aA ε s) g.size es) (I:LA (aA ε x) g.size xs)
 (hK:∀a' σ',Tok σ0 σ' a' g.size (es++xs)->K a' σ'):bt P o ε σ K Kp:=λk O ρ hv R=>by
 have C:=hv s (by simp[ho,Op.operands,Call.operands])
 have p:=hv x (by simp[ho,Op.operands,Call.operands])
 have:execOp ρ o=(do pure (Next.value (<-Builtin.append_ H o.type #[ρ s,ρ x]))):=by simp[execOp,ho,resolve,invoke,builtin]
 rw[this];refine ag ?_;have aF:g.zero.cells.size=g.size:=by obtain⟨_,_,_,_,_,_,h⟩:=L.facts Z;exact h
 have aL:∃base cap,ρ s=.slice base es.length cap/\((((aA ε s=.nil/\base=none)\/(aA ε s=.sl g.size [] .exact/\∃a,base=some a))/\cap=0/\es=[])\/
  ∃ b off N E sp,base=some ⟨b,off,none⟩/\aA ε s=.sl g.size es sp/\es.length<=cap/\k.sh b=some (E,N)/\off+cap*g.size<=N/\(∀e∈es,e.cells.length=g.size)/\
    (∀(j:Nat) a,(RP es)[j]?=some a->∃v,k.cell b (off+j)=some v/\V k v a/\bu.flat v=true)/\sp.fits b off es.length g.size cap/\(sp=.exact\/∃e,σ0 b=none/\sp=.tok b e/\σ b=some (.tail e))):=by
  rcases hs.2 with⟨h,rfl⟩|h|⟨b,en,a8,h,D⟩<;>rw[h]at C
  . generalize ρ s=v at C;cases C;simp_all
  . rcases C.qA with⟨a0,q0,rfl,q⟩|⟨b,off,cap,N,E,q1,q2,q3,q4,q5,q6,q7⟩
    . rcases q with q|⟨_,q⟩
      . cases q
      . cases a0 with
        |none=>cases q
        |some a0=>grind
    grind
  . rcases C.qA with⟨_,_,_,q⟩|⟨b',off,cap,N,E,q1,q2,q3,q4,q5,q6,q7⟩
    . grind
    . obtain⟨rfl,_⟩:=id q7
      grind
 obtain⟨base,cap,a9,J⟩:=aL;have F:=hs.1;unfold Builtin.append_;simp only[h0,h1,Mj,List.getElem?_cons_zero,OP];refine ag (aY L ht λd _ hd=>?_)
 rw[dD hd hk,a9];dsimp only;refine ag (de L Z ?_);refine ag (aY L aC λd2 _ S=>?_)
 rw[dD S aE];refine ag (an ?_);dsimp only;simp only[zA,LK,Bool.not_false,ZC];refine ag (UnW p I ?_)
 by_cases l:es.length+xs.length<=cap
 ·
  rw[wS l];refine ag (xg p I (AK _) λc ab T M=>?_)
  rcases J with⟨⟨A,rfl⟩|⟨A,a0,rfl⟩,rfl,rfl⟩|⟨b,off,N,E,sp,rfl,A,g1,g2,g3,g4,g5,g6,rfl|⟨en,a8,rfl,D⟩⟩
  . have w:xs=[]:=am
    subst w;dsimp only;refine an ?_;refine an ⟨_,.inl rfl,.here ⟨.refl k,.nil,σ,?_,R,am⟩⟩
    grind
  . have w:xs=[]:=am
    subst w
    have U:c.toList=[]:=aq
    dsimp only;rw[U];refine ag (an ?_);refine an (an ⟨_,.inl rfl,.here ⟨.refl k,.sl g.size [] .exact,σ,?_,R,am⟩⟩)
    grind
  . have b8:cap=es.length:=g6
    have w:xs=[]:=by cases xs with|nil=>rfl|cons _ _=>grind
    subst w
    have U:c.toList=[]:=aq
    dsimp only;rw[U];refine ag (an ?_);refine an (an ⟨_,.inl rfl,.here ⟨.refl k,.sl g.size es .exact,σ,?_,R,am⟩⟩)
    grind
  . obtain ⟨_,bq⟩:=g6
    obtain⟨y,hO,hy⟩:=R.1 b _ D ap
    cases hy;dsimp only;rw[mL]
    have br:(RP xs).length=c.size/\∀e∈xs,e.cells.length=g.size:=by
     rcases I with⟨_,rfl⟩|⟨sp,I⟩
     . exact⟨by simp[RP];grind,ap⟩
     . rw[I]at p
       rcases p.qA with⟨_,_,rfl,_⟩|⟨_,_,_,_,_,_,_,_,_,q5,_⟩
       . exact⟨by simp[RP];grind,ap⟩
       grind [bL]
    have hmul:off+(es.length+xs.length)*g.size<=N:=FL (Nat.add_le_add_left (IQ _ l) off) g3;rw[Kj]at hmul;refine ag (abo c.toList 0 k O am g2 am (λu hu=>?_) λk' O' i m aO=>?_)
    . obtain⟨j,hj,rfl⟩:=FG.1 hu
      exact M j _ am
    . refine an (an ⟨_,.inl rfl,.here ⟨i,.sl g.size (es++xs) (.tok b (off+(es++xs).length*g.size)),σ.set b (.tail (off+(es++xs).length*g.size)),?_,?_,hK _ _ ⟨?_,.inr (.inr ⟨b,_,a8,rfl,by simp[af.set]⟩)⟩⟩⟩)
      . rw [show es.length+xs.length=(es++xs).length by simp]
        refine V.ofRow am (i.sh _ _ g2) g3 (λz hz=>?_) (λj a A=>?_) ⟨rfl,rfl⟩
        . grind
        . rw[flatten_append]at A
          by_cases hj:j<(RP es).length
          . rw[KX hj]at A
            obtain⟨u,hu,aW,b0⟩:=g5 j a A;exact⟨u,i.cell _ _ _ hu,aW.mono i,b0⟩
          . rw[Fi ac]at A
            have ad:j-(RP es).length<c.size:=am
            have B:c[j-(RP es).length]?=some c[j-(RP es).length]:=am
            refine⟨_,?_,(T _ _ a B A).mono i,M _ _ B⟩;have:=m (j-(RP es).length) _ (by rw[ON];exact B)
            grind [bL]
      . rw[aO]
        have:off+es.length*g.size+0+c.toList.length=off+(es++xs).length*g.size:=am
        rw[this];exact(R.mono i).set (.tail _)
      . intro b' y hy
        have:b'≠b:=am
        simp[af.set,this,F b' y hy]
 ·
  rw[wN l]
  have al:¬((es.length+xs.length:Nat):Int)>IntKind.i64.max:=by have:IntKind.i64.max=9223372036854775807:=rfl;omega
  refine ag (fB L Z λinfo _ _ bw _=>?_)
  rw[wN (λq=>al q.1)]
  refine ag (fB L Z λW _ _ av _=>?_)
  have X:=nextslicecap_le (Nat.lt_of_not_le l)
  have Y:¬(Builtin.nextslicecap (es.length+xs.length) cap*W.bytes>2 ^ 48):=by rw[av];have h1:Builtin.nextslicecap (es.length+xs.length) cap*g.bytes<=(4*(es.length+xs.length)+2000)*1024:=Nat.mul_le_mul X hb;omega
  rw[wN Y];refine ag (s:=choose _) (λt=>?_)
  have G:(Question.appendCap (es.length+xs.length) cap e).forced=false:=rfl;rw[G];simp only[zA,LK];have b1:∃f,(Question.appendCap (es.length+xs.length) cap e).cut t=f/\es.length+xs.length<=f:=⟨_,rfl,by simp only[Question.cut];omega⟩
  obtain⟨f,ax,b9⟩:=b1;rw[ax];refine an ?_;refine ag (fB L Z λb2 _ _ _ _=>?_)
  refine ag (vZ ?_);refine ag (xg (a:=aA ε s) am hs.uN (AK _) λc ab T M=>?_)
  refine ag (xg p I (AK _) λd b3 S b4=>?_)
  refine ag (fA L Z ?_)
  have b5:∀e∈es,e.cells.length=g.size:=am
  have w:∀e∈xs,e.cells.length=g.size:=by
   rcases I with⟨_,rfl⟩|⟨sp,I⟩
   . simp
   . rw[I]at p
     rcases p.qA with⟨_,_,rfl,_⟩|⟨_,_,_,_,_,_,_,_,_,q5,_⟩
     . simp
     omega
  have b6:(Builtin.zeroCells g.zero.cells (f-(es.length+xs.length))).size=(f-(es.length+xs.length))*g.size:=by simp[Builtin.zeroCells,aF]
  refine ag (aiI (n:=(es.length+xs.length)*g.size) ?_ λr k' O' Q ht=>an (an ⟨_,.inl rfl,?_⟩))
  . grind
  . obtain ⟨k2,O2,hg,i,m,b7,bm⟩:=ht
    refine⟨k2,O2,hg,i,.sl g.size (es++xs) (.tok r ((es++xs).length*g.size)),σ.set r (.tail ((es++xs).length*g.size)),?_,?_,hK _ _ ⟨?_,.inr (.inr ⟨r,_,?_,rfl,by simp[af.set]⟩)⟩⟩
    . rw [show es.length+xs.length=(es++xs).length by simp]
      refine V.ofRow am b7 ?_ (λz hz=>?_) (λj a A=>?_) ⟨rfl,ac⟩
      . simp only[Array.size_append,ab,b3,b6]
        have:f*g.size=(es.length+xs.length)*g.size+(f-(es.length+xs.length))*g.size:=by rw[<-Nat.add_mul];grind
        grind
      . grind
      . rw [flatten_append]at A
        have bx:=bL b5;have bA:=bL w;rw[IC]
        by_cases hj:j<(RP es).length
        . rw[KX hj]at A
          have ad:j<c.size:=ac
          have B:c[j]?=some c[j]:=am
          refine⟨c[j],m j _ ?_ ?_,(T j _ a B A).mono i,M j _ B⟩
          . grind
          grind
        . rw[Fi ac]at A
          have ad:j-(RP es).length<d.size:=am
          have ay:d[j-(RP es).length]?=some d[j-(RP es).length]:=am
          refine⟨_,m j _ ?_ ?_,(S _ _ a ay A).mono i,b4 _ _ ay⟩
          . grind
          grind
    . grind
    . intro b' y hy
      have h1:=F b' y hy;have:b'≠r:=λq=>by rw[q,R.isNone Q.1 Q.2.2]at h1;grind
      simp[af.set,this,h1]
    . cases q:σ0 r with
      |none=>rfl
      |some y=>have:=F r y q;rw[R.isNone Q.1 Q.2.2]at this;grind
end
