import Derived.Conc.Beside
import Derived.Test.YtkcceaplmgdnfaaGreatDoorC1
set_option linter.all false
namespace Go.bQ
open Go.Conc
abbrev abx:=ah->aj->Goroutine->Nat->Prop
abbrev abz:=ah->aj->Goroutine->Prop
abbrev abB:=Value->ah->aj->Prop
abbrev abD:=Bool->ah->aj->Prop
abbrev abE:=Unit->ah->aj->Prop
abbrev abX:=ah->aj->Prop
abbrev acx:=Nat->aj
abbrev acy:=Nat->ah
def dM(P:acD)(W0:World)(k:ah)(O:aj)(g:aco)(gs:abH)(w:World)(t:Trace):Prop:=
 ∃ (Shun:Loc->Prop) (q:acs),gs[0]?=some g/\Leavers P t gs q/\Past Shun w.heap.size t/\
   (∀a,Shun (.cell a)->a.block<w.heap.size/\¬aS O a.block a.off/\k.cell a.block a.off=none)/\(∀r,Shun (.obj r)->r<w.heap.size/\∀o,O r≠some (.obj o))/\Sat k O w/\wj W0 w/\∀b x,O b=some x->W0.heap.size<=b
def AJ(P:acD)(k:ah)(O:aj)(g:aco)(N:abz):Prop:=∀W0 gs w sl t,dM P W0 k O g gs w t->∃n a c b d e f g',runNT P n (crowd gs w sl) t=(.next (crowd a c b),d)/\dM P W0 e f g' a c d/\N e f g'
def AL(P:acD)(main:Bool)(k:ah)(O:aj)(g:aco)(N:abz):Prop:=∀w,Sat k O w->∃g' a es b c,stepG P main g w=.go g' a es/\Eff k O w b c a es.toList/\Sat b c a/\N b c g'
def kH(k:ah)(O:aj)(a:ah)(b:aj):Prop:=∀w,Sat k O w->Sat a b w/\Eff k O w a b w []
structure Mo where
 main:Bool
 solo:Bool
 de:ah->aj->aco->abz->Prop
inductive T(P:acD)(m:Mo)(Q:abz):abz
 |stop {k:ah}{O:aj}{g:aco}:Q k O g->T P m Q k O g
 |step {k:ah}{O:aj}{g:aco}(N:abz):g.status=.running->(∀k' O' g',N k' O' g'->T P m Q k' O' g')->AL P m.main k O g N->T P m Q k O g
 |ghost {k k2:ah}{O O2:aj}{g:aco}:kH k O k2 O2->T P m Q k2 O2 g->T P m Q k O g
 |phase {k:ah}{O:aj}{g:aco}(N:abz):m.solo=true->(∀k' O' g',N k' O' g'->T P m Q k' O' g')->AJ P k O g N->T P m Q k O g
 |de {k:ah}{O:aj}{g:aco}(N:abz):g.status=.running->m.de k O g N->(∀k' O' g',N k' O' g'->T P m Q k' O' g')->T P m Q k O g
inductive cT where
 |any
 |exact
 |tok (b e:Nat)
inductive AV where
 |lit (v:Value)
 |cE
 |agg (l:List AV)
 |cB (l:List AV)
 |sl (k:Nat) (es:List AV) (sp:cT)
 |cp (v:AV) (off:Nat)
 |kp (b:Nat) (l:List AV) (hole:acr) (off:Nat)
 |ref (b off:Nat)
 |gW (b off len cap:Nat)
 |fn (f:Fn) (first captured:List AV)
 |lZ (t:TypeId) (v:AV)
 |map (b:Nat)
 |chan (b:Nat)
instance:Inhabited AV:=⟨.cE⟩
def AV.cells:AV->List AV
 |.agg l=>l
 |v=>[v]
def flatten(es:List AV):List AV:=es.flatMap AV.cells
def cT.fits(b off len kk cap:Nat):cT->Prop
 |.any=>True
 |.exact=>cap=len
 |.tok a e=>a=b/\e=off+len*kk
inductive V(k:ah):Value->AV->Prop
 |lit (v:Value):V k v (.lit v)
 |cE (v:Value):V k v .cE
 |agg (c:abY) (l:List AV):c.size=l.length->(∀(i:Nat) v a,c[i]?=some v->l[i]?=some a->V k v a)->V k (.agg c) (.agg l)
 |cB (c:abY) (l:List AV):c.size=l.length->(∀(i:Nat) v a,c[i]?=some v->l[i]?=some a->V k v a)->V k (.tuple c) (.cB l)
 | sl (b off cap kk N:Nat) (E:TypeId) (es:List AV) (sp:cT) (c:acj):es.length<=cap->k.sh b=some (E,N)->off+cap*kk<=N->(∀e∈es,e.cells.length=kk) ->
    (∀j,j<(flatten es).length->k.cell b (off+j)=some (c j)/\flat (c j)=true)->(∀(j:Nat) a,(flatten es)[j]?=some a->V k (c j) a)->sp.fits b off es.length kk cap ->
    V k (.slice (some ⟨b,off,none⟩) es.length cap) (.sl kk es sp)
 |slnil (a:Option Addr) (kk:Nat) (sp:cT):(sp=.any\/(sp=.exact/\a.isSome=true))->V k (.slice a 0 0) (.sl kk [] sp)
 | cp (b base off N:Nat) (E:TypeId) (v:AV) (c:acj):k.sh b=some (E,N)->base+v.cells.length<=N->(∀j,j<v.cells.length->k.cell b (base+j)=some (c j)/\flat (c j)=true)->(∀(j:Nat) a,v.cells[j]?=some a->V k (c j) a) ->
    V k (.pointer (some ⟨b,base+off,none⟩)) (.cp v off)
 | kp (b off N:Nat) (E:TypeId) (l:List AV) (hole:acr) (c:acj):k.sh b=some (E,N)->l.length<=N->(∀j,j<l.length->j∉hole->k.cell b j=some (c j)/\flat (c j)=true)->(∀(j:Nat) a,j∉hole->l[j]?=some a->V k (c j) a) ->
    V k (.pointer (some ⟨b,off,none⟩)) (.kp b l hole off)
 |ref (b off:Nat):V k (.pointer (some ⟨b,off,none⟩)) (.ref b off)
 |gW (b off len cap:Nat):V k (.slice (some ⟨b,off,none⟩) len cap) (.gW b off len cap)
 | fn (f:Fn) (c1 c2:abY) (l1 l2:List AV):c1.size=l1.length->(∀(i:Nat) v a,c1[i]?=some v->l1[i]?=some a->V k v a)->c2.size=l2.length->(∀(i:Nat) v a,c2[i]?=some v->l2[i]?=some a->V k v a) ->
    V k (.func f c1 c2) (.fn f l1 l2)
 |lZ (t:TypeId) (v:Value) (a:AV):V k v a->V k (.iface t v) (.lZ t a)
 |map (b:Nat):V k (.map (some b)) (.map b)
 |chan (b:Nat):V k (.chan (some b)) (.chan b)
def V.mono{k k':ah}(i:k.Le k'){v:Value}{a:AV}(h:V k v a):V k' v a:=by
 induction h with
 |lit v=>exact .lit v
 |cE v=>exact .cE v
 |agg c l d _ e=>exact .agg c l d e
 |cB c l d _ e=>exact .cB c l d e
 |sl b off cap m N E es sp c d u n w r _ x e=>exact .sl b off cap m N E es sp c d (i.sh _ _ u) n w (λj g=>⟨i.cell _ _ _ (r j g).1,(r j g).2⟩) e x
 |slnil a m sp h=>exact .slnil a m sp h
 |cp b base off N E v c o hb d _ e=>exact .cp b base off N E v c (i.sh _ _ o) hb (λj g=>⟨i.cell _ _ _ (d j g).1,(d j g).2⟩) e
 |kp b off N E l hole c o hb d _ e=>exact .kp b off N E l hole c (i.sh _ _ o) hb (λj g s=>⟨i.cell _ _ _ (d j g s).1,(d j g s).2⟩) e
 |ref b off=>exact .ref b off
 |gW b off len cap=>exact .gW b off len cap
 |fn f y z A B d _ n _ p q=>exact .fn f y z A B d p n q
 |lZ t v a _ e=>exact .lZ t v a e
 |map b=>exact .map b
 |chan b=>exact .chan b
def Vs(k:ah)(c:acg)(l:List AV):Prop:=c.length=l.length/\∀(i:Nat) v a,c[i]?=some v->l[i]?=some a->V k v a
def Vs.nil{k:ah}:Vs k [] []:=⟨rfl,λi v a h=>by simp at h⟩
def Vs.cons{k:ah}{v:Value}{a:AV}{c:acg}{l:List AV}(h:V k v a)(b:Vs k c l):Vs k (v::c) (a::l):=
 ⟨by simp[b.1],λi f g d e=>by
   cases i with
   |zero=>simp_all
   |succ i=>simp at d e;exact b.2 i f g d e⟩
def Vs.mono{k k':ah}(b:k.Le k'){c:acg}{l:List AV}(h:Vs k c l):Vs k' c l:=⟨h.1,λi v a d e=>(h.2 i v a d e).mono b⟩
def Vs.append{k:ah}{c c':acg}{l e:List AV}(h:Vs k c l)(f:Vs k c' e):Vs k (c++c') (l++e):=
 ⟨by simp[h.1,f.1],λi v a b d=>by
   by_cases g:i<c.length
   . rw[ZS g]at b
     rw[ZS (by rw[<-h.1];exact g)]at d;exact h.2 i v a b d
   . rw[ZK (by omega)]at b
     rw[ZK (by rw[<-h.1];omega),<-h.1]at d;exact f.2 _ v a b d⟩
abbrev Env:=Nat->AV
def Env.upd(env:Env)(t:Nat)(v:AV):Env:=λu=>if u=t then v else env u
def fG(k:ah)(tmps:abY)(env:Env):Prop:=∀t,t<tmps.size->V k (tmps.getD t undef) (env t)
def fG.mono{k k':ah}{tmps:abY}{env:Env}(h:fG k tmps env)(a:k.Le k'):fG k' tmps env:=λt b=>(h t b).mono a
structure oU where
 state:LoopState
 pending:Option Code
 fn:FuncId
 n:Nat
 env:Env
 params:Array Tmp
 assign:Code
 body:Code
 defers:Nat
inductive ga where
 |cells (l:List AV)
 |tail (n:Nat)
 |part (f:Nat->abV)
 |map (m:List (AV × AV))
 |loop (l:oU)
 |raw (o:Obj)
 |gX
 |stay (l:List AV)
abbrev aa:=Nat->Option ga
def aa.set(σ:aa)(b:Nat)(x:ga):aa:=λc=>if c=b then some x else σ c
def aa.del(σ:aa)(b:Nat):aa:=λc=>if c=b then none else σ c
def aa.Le(σ σ':aa):Prop:=∀b x,σ b=some x->σ' b=some x
inductive kq(k:ah):Own->ga->Prop
 |cells (c:abY) (e:TypeId) (l:List AV):c.size=l.length->(∀(i:Nat) v a,c[i]?=some v->l[i]?=some a->V k v a)->(∀(i:Nat) v,c[i]?=some v->flat v=true)->kq k (.obj (.cells c e (0,0))) (.cells l)
 |tail (n:Nat):kq k (.tail n) (.tail n)
 |part (f:Nat->abV):kq k (.part f) (.part f)
 |map (es:Array MapEntry) (clock:Nat) (m:List (AV × AV)):es.size=m.length->(∀(i:Nat) e p,es[i]?=some e->m[i]?=some p->V k e.key p.1/\V k e.val p.2)->kq k (.obj (.map es clock)) (.map m)
 |loop (a:oU) (tmps:abY):tmps.size=a.n->fG k tmps a.env->kq k (.obj (.loop ⟨a.state,a.pending,a.fn,tmps,a.params,a.assign,a.body,a.defers⟩)) (.loop a)
 |raw (o:Obj):iJ o=false->kq k (.obj o) (.raw o)
def kq.mono{k k':ah}(g:k.Le k'){x:Own}{a:ga}(h:kq k x a):kq k' x a:=by
 cases h with
 |cells c e l d b r=>exact .cells c e l d (λi v a s t=>(b i v a s t).mono g) r
 |tail n=>exact .tail n
 |part f=>exact .part f
 |map es clock m d b=>exact .map es clock m d λi e p j q=>⟨(b i e p j q).1.mono g,(b i e p j q).2.mono g⟩
 |loop a tmps d b=>exact .loop a tmps d (b.mono g)
 |raw o h=>exact .raw o h
@[simp] def ga.gone:ga->Bool
  |.gX=>true
  |.stay _=>true
  |_=>false
def SG(k:ah)(b:Nat)(l:List AV):Prop:=∀(i:Nat) a,l[i]?=some a->∃v,k.cell b i=some v/\V k v a/\flat v=true
def Rel(k:ah)(O:aj)(σ:aa):Prop:=(∀b a,σ b=some a->a.gone=false->∃x,O b=some x/\kq k x a)/\∀b a,σ b=some a->a.gone=true->O b=none/\(∃s,k.sh b=some s)/\∀l,a=.stay l->SG k b l
def Rel.mono{k k':ah}{O:aj}{σ:aa}(h:Rel k O σ)(c:k.Le k'):Rel k' O σ:=⟨λb a e n=>let ⟨x,d,f⟩:=h.1 b a e n;⟨x,d,f.mono c⟩,λb a e n=>let ⟨d,⟨s,f⟩,g⟩:=h.2 b a e n;⟨d,⟨s,c.sh _ _ f⟩,λl q i x j=>let ⟨v,m,o,p⟩:=g l q i x j;⟨v,c.cell _ _ _ m,o.mono c,p⟩⟩⟩
def Rel.le{k:ah}{O:aj}{σ σ':aa}(h:Rel k O σ)(c:σ'.Le σ):Rel k O σ':=⟨λb a e=>h.1 b a (c b a e),λb a e=>h.2 b a (c b a e)⟩
def kq.JS{k:ah}{x:Own}{a:ga}(h:kq k x a):a.gone=false:=by cases h<;>rfl
def Rel.set{k:ah}{O:aj}{σ:aa}(h:Rel k O σ){b:Nat}{x:Own}{a:ga}(j:kq k x a):Rel k (O.set b x) (σ.set b a):=⟨λc y e f=>by
 by_cases d:c=b
 . subst d
   simp only[aa.set,if_true,kn]at e;subst e;exact⟨x,by simp[aj.set],j⟩
 . simp only[aa.set,d,if_false]at e
   obtain⟨z,g,i⟩:=h.1 c y e f;exact⟨z,by simp[aj.set,d,g],i⟩,λc y e f=>by
 by_cases d:c=b
 . subst d
   simp only[aa.set,if_true,kn]at e;subst e;rw[j.JS]at f;cases f
 . simp only[aa.set,d,if_false]at e
   obtain⟨g,i⟩:=h.2 c y e f;exact⟨by simp[aj.set,d,g],i⟩⟩
def Rel.drop{k:ah}{O:aj}{σ:aa}(h:Rel k O σ)(b:Nat)(x:Own):Rel k (O.set b x) (σ.del b):=⟨λc y e d=>by
 unfold aa.del at e;split at e
 . cases e
 . next a=>obtain⟨z,f,g⟩:=h.1 c y e d;exact⟨z,by simp[aj.set,a,f],g⟩,λc y e d=>by
 unfold aa.del at e;split at e
 . cases e
 . next a=>obtain⟨f,g⟩:=h.2 c y e d;exact⟨by simp[aj.set,a,f],g⟩⟩
def Rel.isNone{k:ah}{O:aj}{σ:aa}(h:Rel k O σ){b:Nat}(hb:O b=none)(d:k.sh b=none):σ b=none:=by
 cases e:σ b with
 |none=>rfl
 | some a=>
   cases c:a.gone with
   | true=>
     obtain⟨_,⟨s,f⟩,_⟩:=h.2 b a e c
     simp_all
   |false=>obtain⟨x,g,_⟩:=h.1 b a e c;simp_all
def fG.upd{k:ah}{tmps:abY}{env:Env}(h:fG k tmps env){t:Nat}{v:Value}{a:AV}(c:V k v a):fG k (tmps.setIfInBounds t v) (env.upd t a):=λu d=>by
 have b:u<tmps.size:=by simp_all
 by_cases e:u=t
 . subst e
   have:(tmps.setIfInBounds u v).getD u undef=v:=by simp_all
   rw[this];simpa[Env.upd]using c
 . have:(tmps.setIfInBounds t v).getD u undef=tmps.getD u undef:=by
    simp only[abb]
    grind
   rw[this];simpa[Env.upd,e]using h u b
def an(env:Env):acE->AV
 |.tmp t=>env t
 |.const v=>.lit v
 |.global g=>.ref g 0
 |.func f=>.fn (.func f) [] []
def Operand.ok(n:Nat):acE->Bool
 |.tmp t=>t<n
 |_=>true
def V.eval{k:ah}{fr:Frame}{env:Env}(h:fG k fr.tmps env){n:Nat}(b:fr.tmps.size=n)(o:acE)(c:Operand.ok n o=true):V k (fr.eval o) (an env o):=by
 cases o with
 |tmp t=>exact h t (by simpa[Operand.ok,b]using c)
 |const v=>exact .lit v
 |global g=>exact .ref g 0
 |func f=>exact .fn _ _ _ _ _ rfl (λi v a h=>by simp at h) rfl (λi v a h=>by simp at h)
inductive kr where
 |mark (r:Nat)
 |call (f:Fn) (captured args:List AV)
def tK(k:ah)(d:Deferred):kr->Prop
 |.mark r=>d={target:=.collected r,args:=#[]}
 |.call f cap args=>∃a b,d={target:=.fn f a,args:=b}/\Vs k a.toList cap/\Vs k b.toList args
def zu(k:ah):abR->List kr->Prop
 |[],[]=>True
 |d::ds,a::D=>tK k d a/\zu k ds D
 |_,_=>False
def tK.mono{k k':ah}(b:k.Le k'){d:Deferred}{a:kr}(h:tK k d a):tK k' d a:=by
 cases a with
 |mark r=>exact h
 |call f cap args=>obtain⟨c,e,g,i,j⟩:=h;exact⟨c,e,g,i.mono b,j.mono b⟩
def zu.mono{k k':ah}(a:k.Le k'):∀{ds:abR}{D:List kr},zu k ds D->zu k' ds D
 |[],[],h=>h
 |_::_,_::_,h=>⟨h.1.mono a,h.2.mono a⟩
 |[],_::_,h=>h.elim
 |_::_,[],h=>h.elim
inductive Rec where
 |no
 |can (v:AV)
 |did
 |told (kind:acv) (cs:acb) (k0:ah)
structure St where
 env:Env
 σ:aa
 D:List kr
 rc:Rec
def fP:Rec->acb->acb
 |.did,c::rest=>(match c.mode with|.panicking (e::a)=>{c with mode:=.panicking ({e with recovered:=true}::a)}|_=>c)::rest
 |_,cs=>cs
def AM(k:ah)(kind:acv)(cs:acb):Rec->Prop
 |.can v=>kind=.deferred/\∃c rest b,cs=c::rest/\c.mode=.panicking [⟨b,false,false⟩]/\V k b v
 |.told kd a d=>kind=kd/\cs=a/\d.Le k
 |_=>True
def AM.mono{k k':ah}(a:k.Le k'){kind:acv}{cs:acb}{r:Rec}(h:AM k kind cs r):AM k' kind cs r:=by
 cases r with
 |can v=>obtain⟨b,c,rest,d,e,f,g⟩:=h;exact⟨b,c,rest,d,e,f,g.mono a⟩
 |told kd i j=>exact⟨h.1,h.2.1,h.2.2.trans a⟩
 |_=>exact h
inductive Exit where
 |leave (jump:Option Code)
 |panic (v:AV)
def Leaves(todo:acm)(a:Option Code):Prop:=(todo=[]/\a=none)\/(∃k,todo=.code .ret::k/\a=some .ret)\/(∃id k,todo=.code (.exit id)::k/\exitTo id k=none/\a=some (.exit id))
structure Cf(n:Nat)(k:ah)(O:aj)(tmps:abY)(defs:abR)(kind:acv)(cs:acb)(s:St):Prop where
 size:tmps.size=n
 env:fG k tmps s.env
 rel:Rel k O s.σ
 ds:zu k defs s.D
 rc:AM k kind cs s.rc
structure wx(P:acD)(m:Mo)(Q:abz)(fid n:Nat)(ro:acf)(kind:acv)(cs:acb)(K:Exit->St->Prop)(k:ah):Prop where
 leave:∀k' O' tmps defs s todo jump,k.Le k'->Cf n k' O' tmps defs kind cs s->Leaves todo jump->K (.leave jump) s->T P m Q k' O' (G ⟨fid,tmps,todo,defs,.run,kind,ro⟩ (fP s.rc cs))
 panic:∀k' O' tmps defs s todo cv av,k.Le k'->Cf n k' O' tmps defs kind cs s->V k' cv av->K (.panic av) s->T P m Q k' O' (G ⟨fid,tmps,todo,defs,.panicking [⟨cv,false,false⟩],kind,ro⟩ (fP s.rc cs))
def wx.mono{P:acD}{m:Mo}{Q:abz}{fid n:Nat}{ro:acf}{kind:acv}{cs:acb}{K:Exit->St->Prop}{k k':ah}(b:k.Le k')
 (h:wx P m Q fid n ro kind cs K k):wx P m Q fid n ro kind cs K k':=
 ⟨λ_ _ _ _ _ _ _ a=>h.leave _ _ _ _ _ _ _ (b.trans a),λ_ _ _ _ _ _ _ _ a=>h.panic _ _ _ _ _ _ _ _ (b.trans a)⟩
def Go(P:acD)(m:Mo)(fid n:Nat)(ro:acf)(todo:acm)(s:St)(K:Exit->St->Prop):Prop:=∀Q k O tmps defs kind cs,kind≠.early->Cf n k O tmps defs kind cs s->wx P m Q fid n ro kind cs K k->T P m Q k O (G ⟨fid,tmps,todo,defs,.run,kind,ro⟩ (fP s.rc cs))
inductive eT where
 |val (v:AV)
 |panic (v:AV)
def kU(c:Frame):Frame:=
 match c.mode with
 | .panicking ({recovered:=true,..}::a)=>
   match a.dropWhile (!·.goexit)with
   |[]=>{c with mode:=.returning}
   |rest=>{c with mode:=.panicking rest}
 |_=>c
def jW(kind:acv)(c:Frame)(rest:acb)(v:Value):aco:=
 match kind with
 |.normal|.wrapped=>G (c.finish v) rest
 |_=>G (kU c) rest
def aA(P:acD)(m:Mo)(f:FuncId)(args:List AV)(σ:aa)(i:eT->aa->Prop):Prop:=
 ∀ Q k O a c rest kind,kind≠.early->Vs k a args->Rel k O σ ->
   (∀d e g h b,k.Le d->V d g h->Rel d e b->i (.val h) b->T P m Q d e (jW kind c rest g)) ->
   (∀d e g h b,k.Le d->V d g h->Rel d e b->i (.panic h) b->T P m Q d e (G (c.raise [⟨g,false,false⟩]) rest)) ->
   T P m Q k O (G (Frame.enter P f a.toArray kind) (c::rest))
def AN(P:acD)(m:Mo)(Q:abz)(k:ah)(O:aj)(fr:Frame)(cs:acb)(s:Sem Next):Prop:=∀w,Sat k O w->∃g' a es b c,stepG.apply P true fr cs none s w=.go g' a es/\Eff k O w b c a es.toList/\Sat b c a/\T P m Q b c g'
def bZ(P:acD)(m:Mo)(i:AV)(args:List AV)(σ:aa)(h:eT->aa->Prop):Prop:=
 ∀ Q k O cf a fr cs,V k cf i->Vs k a args->Rel k O σ->fr.mode=.run->fr.kind≠.early->(∀d w r s l,fr.todo≠.call d w r s::l) ->
   (∀c e f g b,k.Le c->V c f g->Rel c e b->h (.val g) b->T P m Q c e (G (fr.finish f) cs)) ->
   (∀c e f g b,k.Le c->V c f g->Rel c e b->h (.panic g) b->T P m Q c e (G (fr.raise [⟨f,false,false⟩]) cs)) ->
   AN P m Q k O fr cs (do let d <-Deferred.ofValue cf a.toArray;invoke d.target d.args)
section
variable{P:acD}{m:Mo}{Q:abz}{k:ah}{O:aj}{g g':aco}
def T.di(a:g.status=.running)(b:∀w,stepG P m.main g w=.go g' w #[])(h:T P m Q k O g'):T P m Q k O g:=
 .step (λc d x=>c=k/\d=O/\x=g') a (λ_ _ _ ⟨f,i,j⟩=>by simp_all)
  λw e=>⟨g',w,#[],k,O,b w,.refl ..,e,rfl,rfl,rfl⟩
def T.nW{fr:Frame}{cs:acb}{s:Sem Next}(d:∀w,stepG P m.main (G fr cs) w=stepG.apply P true fr cs none s w)(h:AN P m Q k O fr cs s):T P m Q k O (G fr cs):=
 .step (λa b x=>T P m Q a b x) rfl (λ_ _ _ h=>h) λw c=>by
  obtain⟨g',e,es,a,b,f,g,i,j⟩:=h w c
  grind
end
section
variable{P:acD}{m:Mo}{fid n:Nat}{ro:acf}{s:St}{K:Exit->St->Prop}{k:acm}
def Go.di{todo a:acm}(b:∀tmps defs kind cs w,stepG P m.main (G ⟨fid,tmps,todo,defs,.run,kind,ro⟩ cs) w=.go (G ⟨fid,tmps,a,defs,.run,kind,ro⟩ cs) w #[])
 (h:Go P m fid n ro a s K):Go P m fid n ro todo s K:=λQ k O tmps defs kind cs c d e=>T.di rfl (λw=>b ..) (h Q k O tmps defs kind cs c d e)
def Go.skip(h:Go P m fid n ro k s K):Go P m fid n ro (.code .skip::k) s K:=.di (λ_ _ _ _ _=>by simp[G,stepG,stepG.exec]) h
def Go.label{l:Nat}(h:Go P m fid n ro k s K):Go P m fid n ro (.code (.label l)::k) s K:=.di (λ_ _ _ _ _=>by simp[G,stepG,stepG.exec]) h
def Go.inBlock{id:Nat}(h:Go P m fid n ro k s K):Go P m fid n ro (.inBlock id::k) s K:=.di (λ_ _ _ _ _=>by simp[G,stepG,stepG.exec]) h
def Go.inScope{c:Code}(h:Go P m fid n ro k s K):Go P m fid n ro (.inScope c::k) s K:=.di (λ_ _ _ _ _=>by simp[G,stepG,stepG.exec]) h
def Go.seq{a b:Code}(h:Go P m fid n ro (.code a::.code b::k) s K):Go P m fid n ro (.code (.seq a b)::k) s K:=.di (λ_ _ _ _ _=>by simp[G,stepG,stepG.exec]) h
def Go.block{id:Nat}{c:Code}(h:Go P m fid n ro (.code c::.inBlock id::k) s K):Go P m fid n ro (.code (.block id c)::k) s K:=.di (λ_ _ _ _ _=>by simp[G,stepG,stepG.exec]) h
def Go.scope{c:Code}(h:Go P m fid n ro (.code c::.inScope c::k) s K):Go P m fid n ro (.code (.scope c)::k) s K:=.di (λ_ _ _ _ _=>by simp[G,stepG,stepG.exec]) h
def Go.inLoop{c:Code}(h:Go P m fid n ro (.code c::.inLoop c::k) s K):Go P m fid n ro (.inLoop c::k) s K:=.di (λ_ _ _ _ _=>by simp[G,stepG,stepG.exec]) h
def Go.PJ{c:Code}(h:Go P m fid n ro (.code c::.inLoop c::k) s K):Go P m fid n ro (.code (.loop c)::k) s K:=.di (λ_ _ _ _ _=>by simp[G,stepG,stepG.exec]) h
def Go.exit{id:Nat}{k':acm}(a:exitTo id k=some k')(h:Go P m fid n ro k' s K):Go P m fid n ro (.code (.exit id)::k) s K:=.di (λ_ _ _ _ _=>by simp[G,stepG,stepG.exec,a]) h
def Go.region{id:Nat}{ops:acd}(h:Go P m fid n ro (.inRegion ops (List.range ops.size)::k) s K):Go P m fid n ro (.code (.region id ops false)::k) s K:=.di (λ_ _ _ _ _=>by simp[G,stepG,stepG.exec]) h
def Go.zv{ops:acd}(h:Go P m fid n ro k s K):Go P m fid n ro (.inRegion ops []::k) s K:=.di (λ_ _ _ _ _=>by simp[G,stepG,stepG.exec]) h
def Go.cond{c:acE}{a b:Code}{x:Bool}(f:an s.env c=.lit (.bool x))(g:Operand.ok n c=true)(h:Go P m fid n ro (.code (if x then a else b)::k) s K):Go P m fid n ro (.code (.cond c a b)::k) s K:=
 λQ k O tmps defs kind cs i d j=>by
  have e:=V.eval (fr:=⟨fid,tmps,.code (.cond c a b)::‹_›,defs,.run,kind,ro⟩) d.env d.size c g;rw[f]at e;generalize l:Frame.eval _ c=v at e;cases e;refine T.di rfl (λw=>?_) (h Q k O tmps defs kind cs i d j);simp[G,stepG,stepG.exec,l]
def Go.leave{todo:acm}{a:Option Code}(b:Leaves todo a)(h:K (.leave a) s):Go P m fid n ro todo s K:=λ_ _ _ _ _ _ _ _ c d=>d.leave _ _ _ _ _ _ _ (.refl _) c b h
def Go.weaken{todo:acm}{σ:aa}(h:Go P m fid n ro todo {s with σ} K)(b:σ.Le s.σ):Go P m fid n ro todo s K:=λQ k O tmps defs kind cs c a d=>h Q k O tmps defs kind cs c ⟨a.size,a.env,a.rel.le b,a.ds,a.rc⟩ d
def Go.loop{c:Code}(I:Nat->St->Prop)(a:Nat)(f:I a s)
 (g:∀e a s,I a s->(∀a' s',a'<a->I a' s'->Go P m fid n ro (.inLoop e::k) s' K)->Go P m fid n ro (.code c::.inLoop e::k) s K):Go P m fid n ro (.code (.loop c)::k) s K:=by
 have key:∀b a s,a<b->I a s->Go P m fid n ro (.code c::.inLoop c::k) s K:=by
  intro b;induction b with
  |zero=>omega
  |succ b h=>exact λa s i j=>g c a s j λa' s' l d=>.inLoop (h a' s' (by omega) d)
 exact .PJ (key (a+1) a s (by omega) f)
end
inductive AK where
 |bool|int (k:IntKind)|string|pointer (e:Nat)|slice (e:Nat)|array (n e:Nat)|map (k e:Nat)|chan (e:Nat)|struct|func|iface|other
 deriving DecidableEq
structure TI where
 kind:AK
 size:Nat
 bytes:Nat
 zero:Value
 jO:List (Nat × Nat × Nat)
def TI.agg(i:TI):Bool:=match i.kind with|.struct=>true|.array _ _=>true|_=>false
def dF(P:acD)(i:TI):TypeDesc->Bool
 |.bool=>i.kind==.bool
 |.int k=>i.kind==.int k
 |.string=>i.kind==.string
 |.pointer e=>i.kind==.pointer e
 |.slice e=>i.kind==.slice e
 |.array n e=>i.kind==.array n e
 |.map k e=>i.kind==.map k e
 |.chan _ e=>i.kind==.chan e
 |.struct fs=>i.kind==.struct && (fs.toList.map λf=>(f.offset,(P.info? f.type).map (·.size),f.type))==(i.jO.map λx=>(x.1,some x.2.1,x.2.2))
 |.func _ _ _=>i.kind==.func
 |.interface _=>i.kind==.iface
 |_=>i.kind==.other
def N9:Value->Value->Bool
 |.bool a,.bool b=>a==b
 |.int k a,.int l b=>k==l && a==b
 |.string a,.string b=>a.data.toList==b.data.toList
 |.pointer none,.pointer none=>true
 |.slice none a b,.slice none c d=>a==c && b==d
 |.map none,.map none=>true
 |.chan none,.chan none=>true
 |.nilFunc,.nilFunc=>true
 |.nilIface,.nilIface=>true
 |_,_=>false
def EB:acg->acg->Bool
 |[],[]=>true
 |a::l,b::r=>N9 a b && EB l r
 |_,_=>false
def Vk:Value->Value->Bool
 |.agg a,.agg b=>EB a.toList b.toList
 |.tuple a,.tuple b=>EB a.toList b.toList
 |a,b=>N9 a b
def Gj{a b:Value}(h:N9 a b=true):a=b:=by
 unfold N9 at h;split at h<;>simp_all;rename_i a b;obtain⟨⟨a⟩⟩:=a
 simp_all
def AO:∀{a b:acg},EB a b=true->a=b
 |[],[],_=>rfl
 |a::l,b::r,h=>by simp only[EB,zj]at h;rw[Gj h.1,AO h.2]
 |[],_::_,h=>by simp[EB]at h
 |_::_,[],h=>by simp[EB]at h
def Qy{a b:Value}(h:Vk a b=true):a=b:=by
 unfold Vk at h;split at h
 . have:=AO h;simp_all
 . have:=AO h;simp_all
 . exact Gj h
def TI.check(P:acD)(t:Nat)(i:TI):Bool:=
 match P.underlying t,P.info? t with
 |some d,some info=>dF P i d && info.size==i.size && info.bytes==i.bytes && (match info.zero with|some z=>Vk z i.zero|none=>false) && i.zero.cells.size==i.size
 |_,_=>false
structure iZ(P:acD) where
 tt:Nat->Option TI
 ok:∀t i,tt t=some i->i.check P t=true
 mixed:P.follows .mixedOrders=true
def iZ.facts{P:acD}(L:iZ P){t:Nat}{i:TI}(h:L.tt t=some i):(∃d,P.underlying t=some d/\dF P i d=true)/\∃info,P.info? t=some info/\info.size=i.size/\info.bytes=i.bytes/\info.zero=some i.zero/\i.zero.cells.size=i.size:=by
 have:=L.ok t i h;unfold TI.check at this;split at this
 . next d info g j=>
   simp only[zj,beq_iff_eq]at this;obtain⟨⟨⟨⟨a,b⟩,c⟩,e⟩,f⟩:=this;refine⟨⟨d,g,a⟩,info,j,b,c,?_,f⟩;split at e
   . next z k=>rw[k,Qy e]
   . cases e
 grind
section
variable{P:acD}(L:iZ P){k:ah}{O:aj}{Kp:abB}{t:Nat}{i:TI}
def ag{α:Type}{a:α}{K:α->abX}(h:K a k O):dI P (pure a:Sem α) k O K Kp:=h
def af{α β:Type}{s:Sem α}{f:α->Sem β}{K:β->abX}(h:dI P s k O (λa k O=>dI P (f a) k O K Kp) Kp):dI P (s >>=f) k O K Kp:=JR s h
def bo{K:acD->abX}(h:K P k O):dI P program k O K Kp:=h
def aF{K:TypeDesc->abX}(b:L.tt t=some i)(h:∀d,P.underlying t=some d->dF P i d=true->K d k O):dI P (underlying t) k O K Kp:=by obtain⟨⟨d,a,c⟩,_⟩:=L.facts b;unfold underlying;refine af (bo ?_);rw[a];exact h d a c
def cU{K:TypeInfo->abX}(b:L.tt t=some i)(h:∀info,P.info? t=some info->info.size=i.size->info.bytes=i.bytes->info.zero=some i.zero->K info k O):dI P (typeInfo t) k O K Kp:=by obtain⟨_,info,a,c,d,e,_⟩:=L.facts b;unfold typeInfo;refine af (bo ?_);rw[a];exact h info a c d e
def bI{K:Nat->abX}(a:L.tt t=some i)(h:K i.size k O):dI P (sizeOf t) k O K Kp:=by
 unfold sizeOf;refine af (cU L a λinfo _ b _ _=>?_);refine ag ?_
 simp_all
def cR{K:abB}(a:L.tt t=some i)(h:K i.zero k O):dI P (zeroValue t) k O K Kp:=by
 unfold zeroValue;refine af (cU L a λinfo _ _ _ b=>?_);rw[b];exact h
def qf{K:abD}(a:L.tt t=some i)(h:K i.agg k O):dI P (isAgg t) k O K Kp:=by
 unfold isAgg;refine af (aF L a λd _ hd=>?_);unfold TI.agg at h;cases d<;>simp only[dF,zj,beq_iff_eq]at hd<;>first|(rw[hd]at h;exact h)|(rw[hd.1]at h;exact h)
def jd{α:Type}{K z:α->abX}{Kp l:abB}(s:Sem α):∀{k:ah}{O:aj},dI P s k O K Kp->(∀a k O,K a k O->z a k O)->(∀a k O,Kp a k O->l a k O)->dI P s k O z l:=by
 induction s with
 |pure a=>intro k O h b d;exact b _ _ _ h
 |load m a g f=>intro k O h b d;obtain⟨i,v,j,p⟩:=h;exact⟨i,v,j,f v p b d⟩
 | store m a v g f=>
   intro k O h b d;obtain⟨i,j,p,A⟩:=h;refine⟨i,j,p,?_⟩;rcases A with⟨c,e,u,w,y⟩|⟨e,N,u,w,y,C⟩|⟨D,E,u,w,y⟩
   . exact .inl ⟨c,e,u,w,f y b d⟩
   . grind
   simp_all
 |new o g f=>intro k O h b d;exact⟨h.1,λr B=>f r (h.2 r B) b d⟩
 |shape r g f=>intro k O h b d;obtain⟨s,i,j⟩:=h;exact⟨s,i,f s j b d⟩
 |freeze a n g f=>intro k O h b d;exact h.elim
 |frozen a g f=>intro k O h b d;exact⟨h.1,f false h.2 b d⟩
 |getObj r g f=>intro k O h b d;obtain⟨o,i,j,p⟩:=h;exact⟨o,i,j,f o p b d⟩
 |setObj r o g f=>intro k O h b d;exact⟨h.1,h.2.1,f h.2.2 b d⟩
 |choose q g f=>intro k O h b d t;exact f _ (h t) b d
 |sys c g f=>intro k O h b d;exact h.elim
 |program g f=>intro k O h b d;exact f P h b d
 |mark m g f=>intro k O h b d;exact⟨h.1,f h.2 b d⟩
 | halt x=>intro k O h b d;cases x with
   |panic v=>exact d _ _ _ h
   |_=>exact h
end
def mq(k:ah)(O:aj)(R:abX):Prop:=∃a b,kH k O a b/\R a b
def kH.refl(k:ah)(O:aj):kH k O k O:=λw h=>⟨h,.refl k O w⟩
def kH.trans{k e f:ah}{O g i:aj}(h:kH k O e g)(j:kH e g f i):kH k O f i:=λw l=>let ⟨a,b⟩:=h w l;let ⟨c,d⟩:=j w a;⟨c,by simpa using b.trans d⟩
def mq.here{k:ah}{O:aj}{R:abX}(h:R k O):mq k O R:=⟨k,O,.refl k O,h⟩
def aI(P:acD)(o:Oper)(env:Env)(σ:aa)(K:AV->aa->Prop)(Kp:AV->aa->Prop):Prop:=
 ∀ k O (f:abN),(∀x∈o.op.operands,V k (f x) (an env x))->Rel k O σ ->
   dI P (execOp f o) k O (λnx c d=>∃v,(nx=.value v\/(nx=.skip/\v=undef))/\mq c d λe g=>k.Le e/\∃a b,V e v a/\Rel e g b/\K a b)
    (λv c d=>k.Le c/\∃a b,V c v a/\Rel c d b/\Kp a b)
def Oper.ok(n:Nat)(o:Oper):Bool:=o.op.operands.all (Operand.ok n) && (match o.dst with|some d=>decide (d<n)|none=>true)
def bc(env:Env)(dst:ach)(v:AV):Env:=match dst with|some d=>env.upd d v|none=>env
def wy{P:acD}{fn:FuncId}{es:aca}{e:Event}(h:e∈seen P fn es):e∈es:=by
 unfold seen at h
 have key:∀(l:aci) (q:Bool) (acc:aca),e∈(l.foldl (init:=(q,acc)) λ(q,kept) e=>
  match e.loc with
  |.mark (.extern f)=>((P.funcs[f]?).any (·.norace),kept)
  |_=>(q,if q && !e.sync then kept else kept.push e)).2->e∈acc\/e∈l:=by
  intro l;induction l with
  |nil=>simp_all
  | cons x l b=>
    intro q acc h;simp only[aal]at h;rcases b _ _ h with a|a
    . split at a
      . grind
      . simp only at a
        split at a
        . grind
        grind
    simp_all
 dsimp only at h;rw[<-Array.foldl_toList] at h;rcases key es.toList _ #[] h with h|h
 . simp at h
 simp_all
def Eff.sub{k:ah}{O:aj}{w:World}{k':ah}{O':aj}{w':World}{l b:aci}(h:Eff k O w k' O' w' l)(c:∀e∈b,e∈l):Eff k O w k' O' w' b:=⟨h.le,h.size,h.keep,h.tail,h.part,h.shape,h.own,h.cell,h.sh,λe a=>h.evs e (c e a),h.tape,h.output,h.os,λe a=>h.low e (c e a),h.tok⟩
def dN{P:acD}{m:Mo}{Q:abz}{k:ah}{O:aj}{fr:Frame}{cs:acb}{s:Sem Next}
 (h:dI P s k O
   (fun nx k' O'=>k.Le k'->match nx with
     |.value v=>T P m Q k' O' (G (fr.finish v) cs)
     |.skip=>T P m Q k' O' (G (fr.finish undef) cs)
     |.enter f args=>(∀d w r s l,fr.todo≠.call d w r s::l)/\T P m Q k' O' (G (Frame.enter P f args .normal) (fr::cs))
     |.round l f tmps assign body=>T P m Q k' O' (G (Frame.round l f tmps assign body .normal) (fr::cs))
     |.defer d=>T P m Q k' O' (G ({fr with defers:=d::fr.defers}.finish undef) cs)
     |_=>False)
   (λv k' O'=>k.Le k'->T P m Q k' O' (G (fr.raise [⟨v,false,false⟩]) cs))):AN P m Q k O fr cs s:=by
 intro w q;obtain⟨k',O',c,l,i,n,x,t⟩:=tJ s #[] h q;have a:∀(es:aca),(∀e∈es,e∈(s.runT P w #[]).2)->∀e∈es.toList,e∈l:=λes u e p=>by grind
 have o:∀(b:Bool) (es:aca),∀e∈seen P fr.fn (if b then #[]else es),e∈es:=λb es e p=>by
  have:=wy p
  simp_all
 rcases t with⟨nx,j,g⟩|⟨v,j,g⟩
 . have g:=g i.le
   cases nx with
   |value v=>exact⟨_,c,_,k',O',by simp only[stepG.apply,if_true];rw[show(s.runT P w #[]).1=.ok (.value v) c from j];rfl,i.sub (a _ (by simpa using o (fr.kind==.early) (s.runT P w #[]).2)),n,g⟩
   |skip=>exact⟨_,c,_,k',O',by simp only[stepG.apply,if_true];rw[show(s.runT P w #[]).1=.ok .skip c from j];rfl,i.sub (a _ (by simpa using o (fr.kind==.early) (s.runT P w #[]).2)),n,g⟩
   | enter f args=>
     refine⟨_,c,seen P fr.fn (if fr.kind==.early then #[]else(s.runT P w #[]).2),k',O',?_,i.sub (a _ (by simpa using o (fr.kind==.early) (s.runT P w #[]).2)),n,g.2⟩;obtain⟨fn,tmps,todo,defs,mode,kind,ro⟩:=fr;simp only[stepG.apply,if_true];rw[show(s.runT P w #[]).1=.ok (.enter f args) c from j];cases todo with
     |nil=>rfl
     | cons it l=>cases it with
       |call d w r s=>grind
       |_=>rfl
   |round l f tmps assign body=>exact⟨_,c,_,k',O',by simp only[stepG.apply,if_true];rw[show(s.runT P w #[]).1=.ok (.round l f tmps assign body) c from j];rfl,i.sub (a _ (by simpa using o (fr.kind==.early) (s.runT P w #[]).2)),n,g⟩
   |defer d=>exact⟨_,c,_,k',O',by simp only[stepG.apply,if_true];rw[show(s.runT P w #[]).1=.ok (.defer d) c from j];rfl,i.sub (a _ (by simpa using o (fr.kind==.early) (s.runT P w #[]).2)),n,g⟩
   |_=>exact g.elim
 . exact⟨_,c,_,k',O',by simp only[stepG.apply,if_true];rw[show(s.runT P w #[]).1=.halt (.panic v) c from j];rfl,i.sub (a _ (by simpa using o (fr.kind==.early) (s.runT P w #[]).2)),n,g i.le⟩
def Cf.put{n:Nat}{k k':ah}{O O':aj}{fid:FuncId}{tmps:abY}{defs:abR}{kind:acv}{ro:acf}{cs:acb}{s:St}{σ':aa}{ops:acd}{i:Nat}{rest:acr}{o:Oper}{kk:acm}{v:Value}{a:AV}
 (h:Cf n k O tmps defs kind cs s) (c:k.Le k') (e:ops[i]?=some o) (g:V k' v a) (f:Rel k' O' σ'):
 ∃ b,Frame.finish ⟨fid,tmps,.inRegion ops (i::rest)::kk,defs,.run,kind,ro⟩ v=⟨fid,b,.inRegion ops rest::kk,defs,.run,kind,ro⟩/\
   Cf n k' O' b defs kind cs {s with env:=bc s.env o.dst a,σ:=σ'}:=by
 cases hd:o.dst with
 |none=>refine⟨tmps,?_,⟨h.size,h.env.mono c,f,h.ds.mono c,h.rc.mono c⟩⟩;simp[Frame.finish,e,hd]
 | some d=>
   refine⟨tmps.setIfInBounds d v,?_,⟨by simp[h.size],(h.env.mono c).upd g,f,h.ds.mono c,h.rc.mono c⟩⟩;simp[Frame.finish,e,hd]
section
variable{P:acD}{m:Mo}{fid n:Nat}{ro:acf}{s:St}{K:Exit->St->Prop}{k:acm}
def SH:Value->Bool->Prop
 |.bool x,b=>x≠b
 |.tuple _,_=>True
 |_,_=>False
def Go.unwanted{ops:acd}{i:Nat}{rest:acr}{o:Oper}{j:Nat}{b:Bool}{x:Value}{d:Tmp}{p:Oper}(q:ops[i]?=some o)(r:o.guard=some (j,b))(hj:ops[j]?=some p)(hd:p.dst=some d)(e:d<n)
 (t:s.env d=.lit x) (g:SH x b) (h:Go P m fid n ro (.inRegion ops rest::k) {s with env:=bc s.env o.dst (.lit (.tuple #[]))} K):Go P m fid n ro (.inRegion ops (i::rest)::k) s K:=
 fun Q kk O tmps defs kind cs u f y=>by
  obtain⟨c,D,z⟩:=f.put (fid:=fid) (ro:=ro) (rest:=rest) (kk:=k) (v:=undef) (a:=.lit (.tuple #[])) (.refl _) q (.lit _) f.rel;refine T.di rfl (λw=>?_) (h Q kk O c defs kind cs u z y);have l:=f.env d (by rw[f.size];exact e);rw[t]at l;generalize E:tmps.getD d undef=v at l;cases l
  have A:yielded ops tmps j≠some b:=by
   have:tmps[d]?=some x:=by
    have B:d<tmps.size:=by rw[f.size];exact e
    simp_all
   unfold SH at g;split at g
   . simpa[yielded,hj,hd,this]using g
   . simp[yielded,hj,hd,this]
   simp_all
  have C:((ops[i]?).map (Region.wanted · (yielded ops tmps))).getD false=false:=by simp[q,Region.wanted,r,A]
  simp only[G,stepG,stepG.exec,C]
  simp_all
def bW(ops:acd)(n:Nat)(env:Env)(o:Oper):Prop:=
 match o.guard with
 |none=>True
 |some (j,b)=>∃a d,ops[j]?=some a/\a.dst=some d/\d<n/\env d=.lit (.bool b)
def gY{k:ah}{tmps:abY}{ops:acd}{env:Env}{o:Oper}(l:tmps.size=n)(c:fG k tmps env)(h:bW ops n env o):Region.wanted o (yielded ops tmps)=true:=by
 unfold bW at h;unfold Region.wanted;cases e:o.guard with
 |none=>rfl
 | some p=>
   obtain⟨j,b⟩:=p;simp only[e]at h;obtain⟨m,d,f,g,q,i⟩:=h;have a:=c d (by simp_all);rw[i]at a;generalize r:tmps.getD d undef=v at a;cases a;have:tmps[d]?=some (.bool b):=by simp_all
   simp[yielded,f,g,this]
def dQ{ops:acd}{i:Nat}{rest:acr}{o:Oper}{tmps:abY}{defs:abR}{kind:acv}{cs:acb}(a:ops[i]?=some o)(b:Region.wanted o (yielded ops tmps)=true)
 (d:ro=none\/∀c,o.op≠.defer c) (w:World):
 stepG P m.main (G ⟨fid,tmps,.inRegion ops (i::rest)::k,defs,.run,kind,ro⟩ cs) w=
  stepG.apply P true ⟨fid,tmps,.inRegion ops (i::rest)::k,defs,.run,kind,ro⟩ cs none (execOp (Frame.eval ⟨fid,tmps,.inRegion ops (i::rest)::k,defs,.run,kind,ro⟩) o) w:=by
 simp only[G,stepG,stepG.exec,stepG.oper,Frame.oper?,a,b,ZR,aaf,if_true]
 grind
def Go.op{ops:acd}{i:Nat}{rest:acr}{o:Oper}(B:ops[i]?=some o)(F:bW ops n s.env o)(r:Oper.ok n o=true)(t:∀c,o.op≠.defer c)
 (h:aI P o s.env s.σ (λa σ'=>Go P m fid n ro (.inRegion ops rest::k) {s with env:=bc s.env o.dst a,σ:=σ'} K) (λa σ'=>K (.panic a) {s with σ:=σ'})):
 Go P m fid n ro (.inRegion ops (i::rest)::k) s K:=λQ kk O tmps defs kind cs G d C=>by
 refine T.nW (λw=>dQ B (gY d.size d.env F) (.inr t) w) (dN ?_)
 have g:∀x∈o.op.operands,V kk (Frame.eval ⟨fid,tmps,.inRegion ops (i::rest)::k,defs,.run,kind,ro⟩ x) (an s.env x):=λx l=>by
  refine V.eval d.env d.size x ?_;simp only[Oper.ok,zj,ZH]at r
  simp_all
 refine jd _ (h kk O _ g d.rel) (λnx p q l u=>?_) (λv p q l u=>?_)
 . obtain⟨v,H,I,J,j,e,a,σ',y,z,A⟩:=l
   obtain⟨f,D,L⟩:=d.put (fid:=fid) (ro:=ro) (rest:=rest) (kk:=k) e B y z;have E:=A Q I J f defs kind cs G L (C.mono e);rcases H with rfl|⟨rfl,rfl⟩
   . show T P m Q p q _
     rw[D];exact .ghost j E
   . show T P m Q p q _
     rw[D];exact .ghost j E
 . obtain⟨b,a,σ',y,z,A⟩:=l
   exact C.panic p q tmps defs {s with σ:=σ'} _ v a b ⟨d.size,d.env.mono b,z,d.ds.mono b,d.rc.mono b⟩ y A
end
def ah.wA(k:ah)(r:Nat)(c:abY)(n:Nat):ah:={k with cell:=λb j=>if b=r/\j<n then c[j]? else k.cell b j}
def aj.del(O:aj)(r:Nat):aj:=λb=>if b=r then none else O b
def EC(k:ah)(O:aj)(r:Nat)(m:∀f,O r≠some (.part f)):kH k O k (O.del r):=λw h=>by
 have hd:∀b x,(O.del r) b=some x->O b=some x:=λb x e=>by unfold aj.del at e;simp_all
 have j:∀b i,aS (O.del r) b i->aS O b i:=λb i l=>by
  rcases l with⟨o,a⟩|⟨n,a,d⟩|⟨f,a,d⟩
  . exact .inl ⟨o,hd _ _ a⟩
  . exact .inr (.inl ⟨n,hd _ _ a,d⟩)
  . exact .inr (.inr ⟨f,hd _ _ a,d⟩)
 exact⟨⟨λb i v e g=>h.apart b i v e (j b i g),h.cell,h.sh,λb o e=>h.obj b o (hd b _ e),λb n e=>h.tail b n (hd b _ e),λb f e=>h.part b f (hd b _ e)⟩,
  ⟨.refl k,ZF _,λ_ _ _=>rfl,λ_ _ _ _ c _ h=>⟨c,h,rfl,λ_ _=>rfl⟩,λ_ _ _ _ c _ h=>⟨c,h,rfl,λ_ _=>rfl⟩,λ_ _=>rfl,λb x e=>.inl ⟨x,hd b x e,.refl x⟩,λ_ _ _ h=>.inl h,λ_ _ h=>.inl h,by simp,rfl,rfl,rfl,by simp,λb f hb=>⟨f,by unfold aj.del;grind⟩⟩⟩
def nX{k:ah}{O:aj}{r n:Nat}{c:abY}{e:TypeId}(l:O r=some (.obj (.cells c e (0,0))))(A:k.sh r=some (e,c.size)):kH k O (k.wA r c n) (O.set r (.tail n)):=λw h=>by
 have y:=h.obj _ _ l
 have p:∀j,k.cell r j=none:=λj=>by
  cases q:k.cell r j with
  |none=>rfl
  |some v=>exact(h.apart _ _ _ q (.inl ⟨_,l⟩)).elim
 have s:k.Le (k.wA r c n):=⟨λb i v d=>by
  have:¬(b=r/\i<n):=λx=>by simp_all
  simpa[ah.wA,this]using d,λ_ _ h=>h⟩
 refine⟨⟨λb i v d z=>?_,λb i v d=>?_,h.sh,λb o hb=>?_,λb m hb=>?_,λb f hb=>?_⟩,⟨s,ZF _,λ_ _ _=>rfl,λ_ _ _ _ c _ h=>⟨c,h,rfl,λ_ _=>rfl⟩,λ_ _ _ _ c _ h=>⟨c,h,rfl,λ_ _=>rfl⟩,λ_ _=>rfl,λb x t=>?_,λb i v d=>?_,λ_ _ h=>.inl h,by simp,rfl,rfl,rfl,by simp,λb f hb=>⟨f,by rw[show(O.set r (.tail n)) b=O b from by simp only[aj.set];grind];exact hb⟩⟩⟩
 . by_cases hb:b=r
   . subst hb
     rcases z with⟨o,g⟩|⟨m,g,B⟩|⟨f,g,B⟩
     . simp[aj.set]at g
     rotate_left
     . simp[aj.set]at g
     . simp only[aj.set,if_true,kn,Own.tail.injEq]at g
       subst g;have:¬(i<n):=by omega
       simp only[ah.wA,this,and_false,if_false,p]at d;cases d
   . have u:k.cell b i=some v:=by simpa[ah.wA,hb]using d
     exact h.apart b i v u (by simpa[aS,aj.set,hb]using z)
 . by_cases hb:b=r/\i<n
   . obtain⟨rfl,C⟩:=hb
     simp only[ah.wA,C,and_self,if_true]at d;simp[World.cell?,y,d]
   . exact h.cell b i v (by simpa only[ah.wA,hb,if_false]using d)
 . by_cases a:b=r
   . subst a;simp[aj.set]at hb
   . exact h.obj b o (by simpa[aj.set,a]using hb)
 . by_cases a:b=r
   . subst a;exact⟨c,e,y,A⟩
   . exact h.tail b m (by simpa[aj.set,a]using hb)
 . by_cases a:b=r
   . subst a;simp[aj.set]at hb
   . exact h.part b f (by simpa[aj.set,a]using hb)
 . by_cases a:b=r
   . subst a
     simp only[aj.set,if_true,kn]at t;subst t;exact .inl ⟨_,l,trivial⟩
   . exact .inl ⟨x,by simpa[aj.set,a]using t,.refl x⟩
 . by_cases hb:b=r/\i<n
   . obtain⟨rfl,_⟩:=hb
     exact .inr (.inl (.inl ⟨_,l⟩))
   . exact .inl (by simpa only[ah.wA,hb,if_false]using d)
def ah.Le.put{k:ah}{b i:Nat}{v:Value}(h:k.cell b i=none):k.Le (k.put b i v):=⟨λc j u a=>by
 have:¬(c=b/\j=i):=λx=>by simp_all
 simpa[ah.put,this]using a,λ_ _ h=>h⟩
def ah.Le.made{k:ah}{r:Nat}{o:Obj}(h:k.sh r=none):k.Le (k.made r o):=by
 cases o<;>first|exact .refl k|skip
 exact⟨λ_ _ _ h=>h,λb s a=>by
  have:b≠r:=λx=>by simp_all
  simpa[ah.made,ah.eD,this]using a⟩
def ah.Le.wA{k:ah}{r n:Nat}{c:abY}(h:∀j,k.cell r j=none):k.Le (k.wA r c n):=⟨λb i v a=>by
 have:¬(b=r/\i<n):=λx=>by simp_all
 simpa[ah.wA,this]using a,λ_ _ h=>h⟩
def pq(k:ah)(O:aj)(b base:Nat)(l:List AV):Prop:=∀(j:Nat) a,l[j]?=some a->∃v,Reads k O ⟨b,base+j,none⟩ v/\V k v a/\flat v=true
def cN(l:List AV)(off size:Nat)(agg:Bool):Option AV:=if agg then(if off+size<=l.length then some (.agg ((l.drop off).take size))else none)else l[off]?
def iz(b off n:Nat):Addr.add ⟨b,off,none⟩ n=⟨b,off+n,none⟩:=by
 unfold Addr.add
 simp_all
section
variable{P:acD}(L:iZ P){k:ah}{O:aj}{Kp:abB}
def Cg{K:abB}{a:Addr}{v:Value}(h:Reads k O a v)(b:K v k O):dI P (load a) k O K Kp:=⟨rfl,v,h,b⟩
def je{K:abY->abX}{b base:Nat}{l:List AV}(e:pq k O b base l){off:Nat}:
 ∀ (n i:Nat) (acc:abY),off+i+n<=l.length->(∀vs:acg,vs.length=n->(∀(j:Nat) v a,vs[j]?=some v->l[off+i+j]?=some a->V k v a)->(∀v∈vs,flat v=true)->K (acc++vs.toArray) k O) ->
   dI P (loadCellsFrom ⟨b,base+off,none⟩ i n acc) k O K Kp:=by
 intro n;induction n with
 |zero=>intro i acc _ h;exact ag (by simp_all)
 | succ n f=>
   intro i acc hlen h;have c:off+i<l.length:=by omega
   obtain⟨v,m,o,p⟩:=e (off+i) l[off+i] (by simp[c]);unfold loadCellsFrom;rw[iz];refine af (Cg (v:=v) (by grind) ?_);refine f (i+1) (acc.push v) (by omega) λvs d q g=>?_
   have:=h (v::vs) (by simp[d]) (λj u a r s=>?_) (λu t=>by grind)
   . simp_all
   . cases j with
     |zero=>simp_all
     |succ j=>grind
def uM{K:abB}{b base off:Nat}{l:List AV}{t:Nat}{i:TI}{a:AV}(e:pq k O b base l)(f:L.tt t=some i)(d:cN l off i.size i.agg=some a)
 (g:∀v,V k v a->K v k O):dI P (loadVar t ⟨b,base+off,none⟩) k O K Kp:=by
 unfold loadVar;refine af (qf L f ?_);unfold cN at d;cases c:i.agg
 . simp only[c]at d
   obtain⟨v,h,m,_⟩:=e off a (by simp_all);simp only[zR,if_false];exact Cg h (g v m)
 . simp only[c,if_true]at d ⊢
   split at d
   . next n=>
     simp only[kn]at d;subst d;refine af (bI L f ?_);unfold loadCells;refine af (je e _ 0 _ (by omega) λvs o p _=>?_);refine ag (g _ (.agg _ _ ?_ λj v a q r=>?_))
     . grind
     grind
   . cases d
def pq.own{b:Nat}{c:abY}{e:TypeId}{fz:Nat × Nat}{l:List AV}(f:O b=some (.obj (.cells c e fz)))(n:c.size=l.length)(g:∀(i:Nat) v a,c[i]?=some v->l[i]?=some a->V k v a)(h:∀(i:Nat) v,c[i]?=some v->flat v=true):pq k O b 0 l:=λj a m=>by
 have d:j<c.size:=by grind
 refine⟨c[j],⟨rfl,.inr ⟨c,e,fz,f,by simp[d]⟩⟩,g j _ a (by simp[d]) m,h j _ (by simp[d])⟩
def pq.stay{b:Nat}{l:List AV}{σ:aa}(c:Rel k O σ)(hb:σ b=some (.stay l)):pq k O b 0 l:=λj a d=>by obtain⟨v,g,e,f⟩:=(c.2 _ _ hb rfl).2.2 l rfl j a d;exact⟨v,⟨rfl,.inl (by simp_all)⟩,e,f⟩
def pq.known{b base:Nat}{l:List AV}{c:acj}(e:∀j,j<l.length->k.cell b (base+j)=some (c j)/\flat (c j)=true)(f:∀(j:Nat) a,l[j]?=some a->V k (c j) a):pq k O b base l:=λj a d=>⟨c j,⟨rfl,.inl (e j (List.getElem?_eq_some_iff.1 d).1).1⟩,f j a d,(e j (List.getElem?_eq_some_iff.1 d).1).2⟩
end
def Oa(l:List AV)(hole:acr)(off size:Nat)(agg:Bool):Option AV:=if agg then(if off+size<=l.length/\hole.all (λh=>decide (h<off\/off+size<=h))=true then some (.agg ((l.drop off).take size))else none)else if hole.contains off=true then none else l[off]?
def qQ(i:TI)(σ:aa):AV->Option AV
 |.cp v off=>cN v.cells off i.size i.agg
 |.kp _ l hole off=>Oa l hole off i.size i.agg
 |.ref b off=>match σ b with|some (.cells l)=>cN l off i.size i.agg|some (.stay l)=>cN l off i.size i.agg|_=>none
 |_=>none
def AV.flat:AV->Bool
 |.lit v=>bQ.flat v
 |.cE=>false
 |.agg _=>false
 |.cB _=>false
 |_=>true
def V.flat{k:ah}{v:Value}{a:AV}(h:V k v a)(b:a.flat=true):bQ.flat v=true:=by cases h<;>first|rfl|exact b|simp[AV.flat]at b
def V.cells{k:ah}{v:Value}{a:AV}(h:V k v a)(m:a.cells.all AV.flat=true):v.cells.size=a.cells.length/\(∀(i:Nat) u x,v.cells[i]?=some u->a.cells[i]?=some x->V k u x)/\∀(i:Nat) u,v.cells[i]?=some u->bQ.flat u=true:=by
 by_cases b:∃l,a=.agg l
 . obtain⟨l,rfl⟩:=b
   cases h with
   | agg c l f g=>
     refine⟨f,g,λi u j=>?_⟩
     have n:i<l.length:=by rw[<-f];exact(Array.getElem?_eq_some_iff.1 j).1
     refine(g i u l[i] j (by simp[n])).flat ?_
     simp only[AV.cells,ZP]at m
     simp_all
 . have o:a.cells=[a]:=by cases a<;>first|rfl|simp_all
   have d:a.flat=true:=by simp_all
   have e:=h.flat d;have p:v.cells=#[v]:=by cases v<;>first|rfl|cases e
   grind
def aJ(l:List AV)(off:Nat)(c:List AV):List AV:=l.take off++c++l.drop (off+c.length)
def rz(i:TI)(σ:aa)(p v:AV):Option aa:=
 match p with
 | .ref b off=>match σ b with
   |some (.cells l)=>if v.cells.length=i.size/\off+i.size<=l.length/\v.cells.all AV.flat=true then some (σ.set b (.cells (aJ l off v.cells)))else none
   |_=>none
 |_=>none
section
variable{P:acD}(L:iZ P){k:ah}{O:aj}{Kp:abB}
def pr{K:abE}{b off:Nat}{e:TypeId}:∀(vs:acg) (i:Nat) (c:abY) (O:aj),O b=some (.obj (.cells c e (0,0)))->off+i+vs.length<=c.size->(∀v∈vs,flat v=true) ->
 (∀(O':aj) (c':abY),O'=O.set b (.obj (.cells c' e (0,0)))->c'.size=c.size->(∀j,c'[j]?=if off+i<=j/\j<off+i+vs.length then vs[j-(off+i)]? else c[j]?)->K () k O') ->
 dI P (storeCells ⟨b,off,none⟩ vs i) k O K Kp:=by
 intro vs;induction vs with
 | nil=>
   intro i c O d hlen f h;refine ag (h O c ?_ rfl λj=>?_)
   . funext x
     by_cases a:x=b
     . subst a;simp[aj.set,d]
     . simp[aj.set,a]
   grind
 | cons v vs g=>
   intro i c O d hlen f h;simp only[ZQ]at hlen;unfold storeCells;rw[iz];refine af (s:=store ⟨b,off+i,none⟩ v) ⟨rfl,f v (by simp),rfl,.inl ⟨c,e,d,by simp;omega,?_⟩⟩;refine g (i+1) (c.setIfInBounds (off+i) v) _ (by simp[aj.set]) (by simp;omega) (λu l=>f u (by simp[l])) λO' c' m n o=>?_
   refine h O' c' ?_ (by grind) λj=>?_
   . rw[m];funext x;by_cases a:x=b<;>simp[aj.set,a]
   . rw [o j]
     by_cases p:j=off+i
     . grind
     . rw[LK (za p)]
       by_cases q:off+(i+1)<=j/\j<off+(i+1)+vs.length
       . rw[if_pos q,if_pos (by simp;omega)]
         have:j-(off+i)=(j-(off+(i+1)))+1:=by omega
         rw[this,abm]
       grind
def wB{l c:List AV}{off:Nat}(h:off+c.length<=l.length)(j:Nat):(aJ l off c)[j]?=if off<=j/\j<off+c.length then c[j-off]? else l[j]?:=by
 unfold aJ;have a:(l.take off).length=off:=by simp;omega
 grind
def mW{l c:List AV}{off:Nat}(h:off+c.length<=l.length):(aJ l off c).length=l.length:=by unfold aJ;simp;omega
def AP{K:abE}{σ σ':aa}{p a:AV}{v:Value}{ad:Addr}{t:Nat}{i:TI}(o:Rel k O σ)(q:V k (.pointer (some ad)) p)(r:V k v a)(s:L.tt t=some i)(d:rz i σ p a=some σ')
 (w:∀O',Rel k O' σ'->K () k O'):dI P (storeVar t ad v) k O K Kp:=by
 unfold rz at d;cases p<;>simp only[]at d<;>try cases d
 rename_i b off;cases q;cases hb:σ b with
 |none=>simp_all
 | some x=>
   rw[hb]at d;cases x with
   | cells l=>
     simp only[]at d;split at d
     . next f=>
       obtain⟨H,I,z⟩:=f;simp only[kn]at d;subst d;obtain⟨y,A,B⟩:=o.1 b _ hb (by simp);cases B with
       | cells c e l C J M=>
         obtain⟨N,Q,D⟩:=r.cells z;unfold storeVar;refine af (bI L s ?_);have h:¬v.cells.size≠i.size:=by omega
         simp only[if_neg h];refine af (ag ?_);refine pr v.cells.toList 0 c O A (by simp_all) (λu g=>by obtain⟨j,R,rfl⟩:=List.mem_iff_getElem.1 g;exact D j _ (by simp_all)) λO' E F m n=>?_
         subst F;have hlen:off+a.cells.length<=l.length:=by omega
         refine w _ (o.set (.cells E e _ (by rw[m,mW hlen];exact C) (λj u x g G=>?_) λj u g=>?_))
         . rw[n]at g
           rw[wB hlen]at G
           grind
         grind
     . cases d
   |_=>cases d
def Ch{σ:aa}{p:AV}{ad:Addr}{i:TI}{a:AV}(t:Rel k O σ)(q:V k (.pointer (some ad)) p)(d:qQ i σ p=some a):∃b base off l,ad=⟨b,base+off,none⟩/\pq k O b base l/\cN l off i.size i.agg=some a:=by
 unfold qQ at d;cases p<;>simp only[]at d<;>try cases d
 . rename_i v off
   cases q with
   |cp b base off N E v c _ _ n o=>exact⟨b,base,off,v.cells,rfl,.known n o,d⟩
 . rename_i b l hole off
   cases q with
   | kp _ _ N E _ _ c _ _ n o=>
     unfold Oa at d;split at d
     . next f=>
       split at d
       . next u=>
         simp only[kn]at d;subst d;have hlen:((l.drop off).take i.size).length=i.size:=by simp;omega
         refine⟨b,off,0,(l.drop off).take i.size,by simp,λj a C=>?_,by simp[cN,f,hlen,List.take_take]⟩
         have D:j<i.size:=by grind
         have h:l[off+j]?=some a:=by grind
         have g:off+j∉hole:=λF=>by grind
         obtain⟨r,s⟩:=n (off+j) (List.getElem?_eq_some_iff.1 h).1 g;exact⟨c (off+j),⟨rfl,.inl r⟩,o _ a g h,s⟩
       . cases d
     . next f=>
       split at d
       . cases d
       . next u=>
         have g:off∉hole:=by simp_all
         refine⟨b,off,0,[a],by simp,λj y m=>?_,by simp[cN,f]⟩
         match j with
         |0=>simp at m;subst m;obtain⟨r,s⟩:=n off (List.getElem?_eq_some_iff.1 d).1 g;exact⟨c off,⟨rfl,.inl r⟩,o _ _ g d,s⟩
         |j+1=>simp at m
 . rename_i b off
   cases q;cases hb:σ b with
   |none=>simp_all
   | some x=>
     rw[hb]at d;cases x with
     | cells l=>
       obtain⟨y,w,m⟩:=t.1 b _ hb (by simp)
       cases m with
       |cells c e l z A B=>exact⟨b,0,off,l,by simp,.own w z A B,d⟩
     |stay l=>exact⟨b,0,off,l,by simp,.stay t hb,d⟩
     |_=>cases d
end
def V.JU{k:ah}{v:Value}{p:AV}(h:V k v p)(a:(∃x off,p=.cp x off)\/(∃b off,p=.ref b off)\/∃b l hole off,p=.kp b l hole off):∃ad,v=.pointer (some ad):=by rcases a with⟨x,off,rfl⟩|⟨b,off,rfl⟩|⟨b,l,hole,off,rfl⟩<;>cases h<;>exact⟨_,rfl⟩
def zw{i:TI}{σ:aa}{p a:AV}(h:qQ i σ p=some a):(∃x off,p=.cp x off)\/(∃b off,p=.ref b off)\/∃b l hole off,p=.kp b l hole off:=by cases p<;>first|exact .inl ⟨_,_,rfl⟩|exact .inr (.inl ⟨_,_,rfl⟩)|exact .inr (.inr ⟨_,_,_,_,rfl⟩)|cases h
def ED{i:TI}{σ σ':aa}{p a:AV}(h:rz i σ p a=some σ'):(∃x off,p=.cp x off)\/(∃b off,p=.ref b off)\/∃b l hole off,p=.kp b l hole off:=by cases p<;>first|exact .inl ⟨_,_,rfl⟩|exact .inr (.inl ⟨_,_,rfl⟩)|cases h
section
variable{P:acD}(L:iZ P){o:Oper}{env:Env}{σ:aa}{K:AV->aa->Prop}{Kp:AV->aa->Prop}
def aI.val{s:abN->Sem Value}(d:∀ρ,execOp ρ o=(do pure (.value (<-s ρ))))
 (h:∀k O (ρ:abN),(∀x∈o.op.operands,V k (ρ x) (an env x))->Rel k O σ ->
   dI P (s ρ) k O (λv k' O'=>mq k' O' λb e=>k.Le b/\∃a σ',V b v a/\Rel b e σ'/\K a σ') (λv k' O'=>k.Le k'/\∃a σ',V k' v a/\Rel k' O' σ'/\Kp a σ')):aI P o env σ K Kp:=λk O ρ f g=>by
 rw[d];refine af (jd _ (h k O ρ f g) (λv k' O' c=>?_) (λv k' O' c=>c));exact ag ⟨v,.inl rfl,c⟩
def vL{x:acE}(a:o.op=.move x\/o.op=.assign x)(c:K (an env x) σ):aI P o env σ K Kp:=λk O b d e=>by
 have:execOp b o=pure (.value (b x)):=by rcases a with a|a<;>simp[execOp,a]
 rw[this];refine ag ⟨b x,.inl rfl,.here ⟨.refl k,_,_,d x ?_,e,c⟩⟩
 rcases a with a|a<;>simp[a,Op.operands]
def Gk{c a b:acE}{x:Bool}(d:o.op=.pick c a b)(h:an env c=.lit (.bool x))(i:K (if x then an env a else an env b) σ):aI P o env σ K Kp:=λk O e f j=>by
 have g:=f c (by simp[d,Op.operands]);have m:=f a (by simp[d,Op.operands]);have n:=f b (by simp[d,Op.operands]);rw[h]at g;generalize l:e c=v at g;cases g;have:execOp e o=pure (.value (if x then e a else e b)):=by simp[execOp,d,l,asBool]
 rw[this];refine ag ⟨_,.inl rfl,.here ⟨.refl k,_,_,?_,j,i⟩⟩
 grind
def AQ{t:Nat}{p:acE}{i:TI}{a:AV}(h:o.op=.load t p)(n:L.tt t=some i)(j:qQ i σ (an env p)=some a)(q:K a σ):aI P o env σ K Kp:=
 aI.val (s:=λd=>Instr.loadAt t (d p)) (λd=>by simp[execOp,h]) λk O d f m=>by
  have g:=f p (by simp[h,Op.operands]);obtain⟨u,e⟩:=g.JU (zw j);rw[e]at g;obtain⟨b,base,off,l,rfl,c,r⟩:=Ch m g j;simp only[Instr.loadAt,e,Instr.sureAddr];exact af (ag (uM L c n r λv f=>.here ⟨.refl k,a,σ,f,m,q⟩))
def Ci{t:Nat}{p x:acE}{i:TI}{σ':aa}(a:o.op=.store t p x)(h:L.tt t=some i)(d:rz i σ (an env p) (an env x)=some σ')(j:K (.lit undef) σ'):aI P o env σ K Kp:=λk O f g l=>by
 have b:=g p (by simp[a,Op.operands]);have m:=g x (by simp[a,Op.operands]);obtain⟨n,e⟩:=b.JU (ED d);rw[e]at b;have:execOp f o=(do storeVar t n (f x);pure .skip):=by simp[execOp,a,Instr.storeAt,e,Instr.sureAddr]
 rw[this];exact af (AP L l b m h d λq c=>ag ⟨undef,.inr ⟨rfl,rfl⟩,.here ⟨.refl k,.lit undef,σ',.lit _,c,j⟩⟩)
end
