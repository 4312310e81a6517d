/- Part 2 of the proof. -/
import Derived.Conc.Beside
import Derived.Test.YtelgggdkahhhfaaGreatDoorC1
set_option linter.all false
namespace Go.aZ
open Go.Conc
def cQ (P:Program) (W0:World) (k:ag) (O:ah) (g:Goroutine) (gs:Array Goroutine) (w:World) (t:Trace):Prop:=
 ∃ (Shun:Loc->Prop) (q:Nat->Nat),gs[0]? = some g∧Leavers P t gs q∧Past Shun w.heap.size t ∧
   (∀ a,Shun (.cell a)->a.block<w.heap.size ∧ ¬ aG O a.block a.off∧k.cell a.block a.off=none)∧(∀ r,Shun (.obj r)->r<w.heap.size∧∀ o,O r≠some (.obj o))∧Sat k O w∧qv W0 w∧∀ b x,O b=some x->W0.heap.size≤b
def uo (P:Program) (k:ag) (O:ah) (g:Goroutine) (N:ag->ah->Goroutine->Prop):Prop:=
 ∀ W0 gs w sl t,cQ P W0 k O g gs w t->∃ n gs' w' sl' t' k' O' g',runNT P n (crowd gs w sl) t=(.next (crowd gs' w' sl'),t')∧cQ P W0 k' O' g' gs' w' t'∧N k' O' g'
def uq (P:Program) (main:Bool) (k:ag) (O:ah) (g:Goroutine) (N:ag->ah->Goroutine->Prop):Prop:=
 ∀ w,Sat k O w->∃ g' w' es k' O',stepG P main g w = .go g' w' es∧Eff k O w k' O' w' es.toList∧Sat k' O' w'∧N k' O' g'
def iZ (k:ag) (O:ah) (k2:ag) (O2:ah):Prop := ∀ w,Sat k O w->Sat k2 O2 w∧Eff k O w k2 O2 w []
structure Mo where
 main:Bool
 solo:Bool
 bV:ag->ah->Goroutine->(ag->ah->Goroutine->Prop)->Prop
inductive T (P:Program) (m:Mo) (Q:ag->ah->Goroutine->Prop):ag->ah->Goroutine->Prop
 | stop {k:ag} {O:ah} {g:Goroutine}:Q k O g->T P m Q k O g
 | step {k:ag} {O:ah} {g:Goroutine} (N:ag->ah->Goroutine->Prop):g.status = .running->(∀ k' O' g',N k' O' g'->T P m Q k' O' g')->uq P m.main k O g N->T P m Q k O g
 | ghost {k k2:ag} {O O2:ah} {g:Goroutine}:iZ k O k2 O2->T P m Q k2 O2 g->T P m Q k O g
 | phase {k:ag} {O:ah} {g:Goroutine} (N:ag->ah->Goroutine->Prop):m.solo=true->(∀ k' O' g',N k' O' g'->T P m Q k' O' g')->uo P k O g N->T P m Q k O g
 | bV {k:ag} {O:ah} {g:Goroutine} (N:ag->ah->Goroutine->Prop):g.status = .running->m.bV k O g N->(∀ k' O' g',N k' O' g'->T P m Q k' O' g')->T P m Q k O g
inductive bK where
 | any
 | exact
 | tok (b e:Nat)
inductive AV where
 | lit (v:Value)
 | aO
 | agg (l:List AV)
 | cB (l:List AV)
 | sl (k:Nat) (es:List AV) (sp:bK)
 | cp (v:AV) (off:Nat)
 | kp (b:Nat) (l:List AV) (hole:List Nat) (off:Nat)
 | ref (b off:Nat)
 | gq (b off len cap:Nat)
 | fn (f:Fn) (first captured:List AV)
 | kZ (t:TypeId) (v:AV)
 | map (b:Nat)
 | chan (b:Nat)
instance:Inhabited AV:=⟨.aO⟩
def AV.cells:AV->List AV
 | .agg l=>l
 | v=>[v]
def flatten (es:List AV):List AV:=es.flatMap AV.cells
def bK.fits (b off len kk cap:Nat):bK->Prop
 | .any=>True
 | .exact=>cap=len
 | .tok b' e=>b'=b∧e=off+len*kk
inductive V (k:ag):Value->AV->Prop
 | lit (v:Value):V k v (.lit v)
 | aO (v:Value):V k v .aO
 | agg (c:Array Value) (l:List AV):c.size=l.length->(∀ (i:Nat) v a,c[i]? = some v->l[i]? = some a->V k v a)->V k (.agg c) (.agg l)
 | cB (c:Array Value) (l:List AV):c.size=l.length->(∀ (i:Nat) v a,c[i]? = some v->l[i]? = some a->V k v a)->V k (.tuple c) (.cB l)
 | sl (b off cap kk N:Nat) (E:TypeId) (es:List AV) (sp:bK) (c:Nat->Value):es.length≤cap->k.sh b=some (E,N)->off+cap*kk≤N->(∀ e∈es,e.cells.length=kk) ->
    (∀ j,j<(flatten es).length->k.cell b (off+j)=some (c j)∧flat (c j)=true)->(∀ (j:Nat) a,(flatten es)[j]? = some a->V k (c j) a)->sp.fits b off es.length kk cap ->
    V k (.slice (some ⟨b,off,none⟩) es.length cap) (.sl kk es sp)
 | slnil (kk:Nat):V k (.slice none 0 0) (.sl kk [] .any)
 | cp (b base off N:Nat) (E:TypeId) (v:AV) (c:Nat->Value):k.sh b=some (E,N)->base+v.cells.length≤N->(∀ j,j<v.cells.length->k.cell b (base+j)=some (c j)∧flat (c j)=true)->(∀ (j:Nat) a,v.cells[j]? = some a->V k (c j) a) ->
    V k (.pointer (some ⟨b,base+off,none⟩)) (.cp v off)
 | kp (b off N:Nat) (E:TypeId) (l:List AV) (hole:List Nat) (c:Nat->Value):k.sh b=some (E,N)->l.length≤N->(∀ j,j<l.length->j ∉ hole->k.cell b j=some (c j)∧flat (c j)=true)->(∀ (j:Nat) a,j ∉ hole->l[j]? = some a->V k (c j) a) ->
    V k (.pointer (some ⟨b,off,none⟩)) (.kp b l hole off)
 | ref (b off:Nat):V k (.pointer (some ⟨b,off,none⟩)) (.ref b off)
 | gq (b off len cap:Nat):V k (.slice (some ⟨b,off,none⟩) len cap) (.gq b off len cap)
 | fn (f:Fn) (c1 c2:Array Value) (l1 l2:List AV):c1.size=l1.length->(∀ (i:Nat) v a,c1[i]? = some v->l1[i]? = some a->V k v a)->c2.size=l2.length->(∀ (i:Nat) v a,c2[i]? = some v->l2[i]? = some a->V k v a) ->
    V k (.func f c1 c2) (.fn f l1 l2)
 | kZ (t:TypeId) (v:Value) (a:AV):V k v a->V k (.iface t v) (.kZ t a)
 | map (b:Nat):V k (.map (some b)) (.map b)
 | chan (b:Nat):V k (.chan (some b)) (.chan b)
theorem V.mono {k k':ag} (hk:k.Le k') {v:Value} {a:AV} (h:V k v a):V k' v a:=by
 induction h with
 | lit v=>exact .lit v
 | aO v=>exact .aO v
 | agg c l h1 _ ih=>exact .agg c l h1 ih
 | cB c l h1 _ ih=>exact .cB c l h1 ih
 | sl b off cap kk N E es sp c h1 h2 h3 h4 h5 _ h7 ih=>exact .sl b off cap kk N E es sp c h1 (hk.sh _ _ h2) h3 h4 (fun j hj=>⟨hk.cell _ _ _ (h5 j hj).1,(h5 j hj).2⟩) ih h7
 | slnil kk=>exact .slnil kk
 | cp b base off N E v c hs hb h1 _ ih=>exact .cp b base off N E v c (hk.sh _ _ hs) hb (fun j hj=>⟨hk.cell _ _ _ (h1 j hj).1,(h1 j hj).2⟩) ih
 | kp b off N E l hole c hs hb h1 _ ih=>exact .kp b off N E l hole c (hk.sh _ _ hs) hb (fun j hj hn=>⟨hk.cell _ _ _ (h1 j hj hn).1,(h1 j hj hn).2⟩) ih
 | ref b off=>exact .ref b off
 | gq b off len cap=>exact .gq b off len cap
 | fn f c1 c2 l1 l2 h1 _ h3 _ ih1 ih2=>exact .fn f c1 c2 l1 l2 h1 ih1 h3 ih2
 | kZ t v a _ ih=>exact .kZ t v a ih
 | map b=>exact .map b
 | chan b=>exact .chan b
def Vs (k:ag) (c:List Value) (l:List AV):Prop:=c.length=l.length∧∀ (i:Nat) v a,c[i]? = some v->l[i]? = some a->V k v a
theorem Vs.nil {k:ag}:Vs k [] []:=⟨rfl,fun i v a h=>by simp at h⟩
theorem Vs.cons {k:ag} {v:Value} {a:AV} {c:List Value} {l:List AV} (h:V k v a) (hs:Vs k c l):Vs k (v :: c) (a :: l):=
 ⟨by simp[hs.1],fun i v' a' h1 h2=>by
   cases i with
   | zero=>simp at h1 h2;subst h1;subst h2;exact h
   | succ i=>simp at h1 h2;exact hs.2 i v' a' h1 h2⟩
theorem Vs.mono {k k':ag} (hk:k.Le k') {c:List Value} {l:List AV} (h:Vs k c l):Vs k' c l:=⟨h.1,fun i v a h1 h2=>(h.2 i v a h1 h2).mono hk⟩
theorem Vs.append {k:ag} {c c':List Value} {l l':List AV} (h:Vs k c l) (h':Vs k c' l'):Vs k (c ++ c') (l ++ l'):=
 ⟨by simp[h.1,h'.1],fun i v a h1 h2=>by
   by_cases hi:i<c.length
   . rw[List.getElem?_append_left hi] at h1
     rw[List.getElem?_append_left (by rw[← h.1];exact hi)] at h2
     exact h.2 i v a h1 h2
   . rw[List.getElem?_append_right (by omega)] at h1
     rw[List.getElem?_append_right (by rw[← h.1];omega),← h.1] at h2
     exact h'.2 _ v a h1 h2⟩
abbrev Env:=Nat->AV
def Env.upd (env:Env) (t:Nat) (v:AV):Env:=fun u=>if u=t then v else env u
def dp (k:ag) (tmps:Array Value) (env:Env):Prop := ∀ t,t<tmps.size->V k (tmps.getD t undef) (env t)
theorem dp.mono {k k':ag} {tmps:Array Value} {env:Env} (h:dp k tmps env) (hk:k.Le k'):dp k' tmps env:=fun t ht=>(h t ht).mono hk
structure lb where
 state:LoopState
 pending:Option Code
 fn:FuncId
 n:Nat
 env:Env
 params:Array Tmp
 assign:Code
 body:Code
 defers:Nat
inductive iH where
 | cells (l:List AV)
 | tail (n:Nat)
 | part (f:Nat->Option Value)
 | map (m:List (AV × AV))
 | loop (l:lb)
 | raw (o:Obj)
 | eE
abbrev aa:=Nat->Option iH
def aa.set (σ:aa) (b:Nat) (x:iH):aa:=fun c=>if c=b then some x else σ c
def aa.del (σ:aa) (b:Nat):aa:=fun c=>if c=b then none else σ c
def aa.Le (σ σ':aa):Prop := ∀ b x,σ b=some x->σ' b=some x
inductive jo (k:ag):Own->iH->Prop
 | cells (c:Array Value) (e:TypeId) (l:List AV):c.size=l.length->(∀ (i:Nat) v a,c[i]? = some v->l[i]? = some a->V k v a)->(∀ (i:Nat) v,c[i]? = some v->flat v=true)->jo k (.obj (.cells c e (0,0))) (.cells l)
 | tail (n:Nat):jo k (.tail n) (.tail n)
 | part (f:Nat->Option Value):jo k (.part f) (.part f)
 | map (es:Array MapEntry) (clock:Nat) (m:List (AV × AV)):es.size=m.length->(∀ (i:Nat) e p,es[i]? = some e->m[i]? = some p->V k e.key p.1∧V k e.val p.2)->jo k (.obj (.map es clock)) (.map m)
 | loop (a:lb) (tmps:Array Value):tmps.size=a.n->dp k tmps a.env->jo k (.obj (.loop ⟨a.state,a.pending,a.fn,tmps,a.params,a.assign,a.body,a.defers⟩)) (.loop a)
 | raw (o:Obj):eV o=false->jo k (.obj o) (.raw o)
theorem jo.mono {k k':ag} (hk:k.Le k') {x:Own} {a:iH} (h:jo k x a):jo k' x a:=by
 cases h with
 | cells c e l h1 h2 h3=>exact .cells c e l h1 (fun i v a hv ha=>(h2 i v a hv ha).mono hk) h3
 | tail n=>exact .tail n
 | part f=>exact .part f
 | map es clock m h1 h2=>exact .map es clock m h1 fun i e p he hp=>⟨(h2 i e p he hp).1.mono hk,(h2 i e p he hp).2.mono hk⟩
 | loop a tmps h1 h2=>exact .loop a tmps h1 (h2.mono hk)
 | raw o h=>exact .raw o h
def Rel (k:ag) (O:ah) (σ:aa):Prop:=(∀ b a,σ b=some a->a ≠ .eE->∃ x,O b=some x∧jo k x a)∧∀ b,σ b=some .eE->O b=none∧∃ s,k.sh b=some s
theorem Rel.mono {k k':ag} {O:ah} {σ:aa} (h:Rel k O σ) (hk:k.Le k'):Rel k' O σ:=⟨fun b a e n=>let ⟨x,h1,h2⟩:=h.1 b a e n;⟨x,h1,h2.mono hk⟩,fun b e=>let ⟨h1,s,h2⟩:=h.2 b e;⟨h1,s,hk.sh _ _ h2⟩⟩
theorem Rel.le {k:ag} {O:ah} {σ σ':aa} (h:Rel k O σ) (hs:σ'.Le σ):Rel k O σ':=⟨fun b a e=>h.1 b a (hs b a e),fun b e=>h.2 b (hs b _ e)⟩
theorem jo.Cl {k:ag} {x:Own} {a:iH} (h:jo k x a):a ≠ .eE:=by cases h <;> simp
theorem Rel.set {k:ag} {O:ah} {σ:aa} (h:Rel k O σ) {b:Nat} {x:Own} {a:iH} (hx:jo k x a):Rel k (O.set b x) (σ.set b a):=⟨fun c y e hn=>by
 by_cases hc:c=b
 . subst hc
   simp only[aa.set,if_true,Option.some.injEq] at e;subst e;exact⟨x,by simp[ah.set],hx⟩
 . simp only[aa.set,hc,if_false] at e
   obtain⟨z,h1,h2⟩:=h.1 c y e hn;exact⟨z,by simp[ah.set,hc,h1],h2⟩,fun c e=>by
 by_cases hc:c=b
 . subst hc
   simp only[aa.set,if_true,Option.some.injEq] at e;exact absurd e hx.Cl
 . simp only[aa.set,hc,if_false] at e
   obtain⟨h1,h2⟩:=h.2 c e;exact⟨by simp[ah.set,hc,h1],h2⟩⟩
theorem Rel.drop {k:ag} {O:ah} {σ:aa} (h:Rel k O σ) (b:Nat) (x:Own):Rel k (O.set b x) (σ.del b):=⟨fun c y e hn=>by
 unfold aa.del at e;split at e
 . cases e
 . next hne=>
   obtain⟨z,h1,h2⟩:=h.1 c y e hn;exact⟨z,by simp[ah.set,hne,h1],h2⟩,fun c e=>by
 unfold aa.del at e;split at e
 . cases e
 . next hne=>
   obtain⟨h1,h2⟩:=h.2 c e;exact⟨by simp[ah.set,hne,h1],h2⟩⟩
theorem Rel.isNone {k:ag} {O:ah} {σ:aa} (h:Rel k O σ) {b:Nat} (hb:O b=none) (hf:k.sh b=none):σ b=none:=by
 cases e:σ b with
 | none=>rfl
 | some a=>
   by_cases ha:a = .eE
   . subst ha
     obtain⟨_,s,h2⟩:=h.2 b e;rw[hf] at h2;cases h2
   . obtain⟨x,h1,_⟩:=h.1 b a e ha;rw[hb] at h1;cases h1
theorem dp.upd {k:ag} {tmps:Array Value} {env:Env} (h:dp k tmps env) {t:Nat} {v:Value} {a:AV} (hv:V k v a):dp k (tmps.setIfInBounds t v) (env.upd t a):=fun u hu=>by
 have hu':u<tmps.size:=by simpa using hu
 by_cases e:u=t
 . subst e
   have:(tmps.setIfInBounds u v).getD u undef=v:=by simp[Array.getD,hu']
   rw[this];simpa[Env.upd] using hv
 . have:(tmps.setIfInBounds t v).getD u undef=tmps.getD u undef:=by
    simp only[Array.getD_eq_getD_getElem?];rw[Array.getElem?_setIfInBounds_ne (Ne.symm e)]
   rw[this];simpa[Env.upd,e] using h u hu'
def am (env:Env):Operand->AV
 | .tmp t=>env t
 | .const v => .lit v
 | .global g => .ref g 0
 | .func f => .fn (.func f) [] []
def Operand.ok (n:Nat):Operand->Bool
 | .tmp t=>t<n
 | _=>true
theorem V.eval {k:ag} {fr:Frame} {env:Env} (h:dp k fr.tmps env) {n:Nat} (hn:fr.tmps.size=n) (o:Operand) (ho:Operand.ok n o=true):V k (fr.eval o) (am env o):=by
 cases o with
 | tmp t=>exact h t (by simpa[Operand.ok,hn] using ho)
 | const v=>exact .lit v
 | global g=>exact .ref g 0
 | func f=>exact .fn _ _ _ _ _ rfl (fun i v a h=>by simp at h) rfl (fun i v a h=>by simp at h)
inductive jS where
 | mark (r:Nat)
 | call (f:Fn) (captured args:List AV)
def qz (k:ag) (d:Deferred):jS->Prop
 | .mark r=>d = { target:=.collected r,args:=#[] }
 | .call f cap args => ∃ cc ca,d = { target:=.fn f cc,args:=ca }∧Vs k cc.toList cap∧Vs k ca.toList args
def sR (k:ag):List Deferred->List jS->Prop
 | [],[]=>True
 | d :: ds,a :: D=>qz k d a∧sR k ds D
 | _,_=>False
theorem qz.mono {k k':ag} (hk:k.Le k') {d:Deferred} {a:jS} (h:qz k d a):qz k' d a:=by
 cases a with
 | mark r=>exact h
 | call f cap args=>obtain⟨cc,ca,h1,h2,h3⟩:=h;exact⟨cc,ca,h1,h2.mono hk,h3.mono hk⟩
theorem sR.mono {k k':ag} (hk:k.Le k'):∀ {ds:List Deferred} {D:List jS},sR k ds D->sR k' ds D
 | [],[],h=>h
 | _ :: _,_ :: _,h=>⟨h.1.mono hk,h.2.mono hk⟩
 | [],_ :: _,h=>h.elim
 | _ :: _,[],h=>h.elim
inductive Rec where
 | no
 | can (v:AV)
 | did
 | told (kind:CallKind) (cs:List Frame) (k0:ag)
structure St where
 env:Env
 σ:aa
 D:List jS
 rc:Rec
def dK:Rec->List Frame->List Frame
 | .did,c :: rest=>(match c.mode with | .panicking (e :: older) => { c with mode:=.panicking ({ e with recovered:=true } :: older) } | _=>c) :: rest
 | _,cs=>cs
def us (k:ag) (kind:CallKind) (cs:List Frame):Rec->Prop
 | .can v=>kind = .deferred∧∃ c rest cv,cs=c :: rest∧c.mode = .panicking [⟨cv,false,false⟩]∧V k cv v
 | .told kd cs0 k0=>kind=kd∧cs=cs0∧k0.Le k
 | _=>True
theorem us.mono {k k':ag} (hk:k.Le k') {kind:CallKind} {cs:List Frame} {r:Rec} (h:us k kind cs r):us k' kind cs r:=by
 cases r with
 | can v=>obtain⟨h1,c,rest,cv,h2,h3,h4⟩:=h;exact⟨h1,c,rest,cv,h2,h3,h4.mono hk⟩
 | told kd cs0 k0=>exact⟨h.1,h.2.1,h.2.2.trans hk⟩
 | _=>exact h
inductive Exit where
 | leave (jump:Option Code)
 | panic (v:AV)
def Leaves (todo:List Item) (jump:Option Code):Prop:=
 (todo=[]∧jump=none)∨(∃ k,todo = .code .ret :: k∧jump=some .ret)∨(∃ id k,todo = .code (.exit id) :: k∧exitTo id k=none∧jump=some (.exit id))
structure vN (n:Nat) (k:ag) (O:ah) (tmps:Array Value) (defs:List Deferred) (kind:CallKind) (cs:List Frame) (s:St):Prop where
 size:tmps.size=n
 env:dp k tmps s.env
 rel:Rel k O s.σ
 ds:sR k defs s.D
 rc:us k kind cs s.rc
structure ut (P:Program) (m:Mo) (Q:ag->ah->Goroutine->Prop) (fid n:Nat) (ro:Option Nat) (kind:CallKind) (cs:List Frame) (K:Exit->St->Prop) (k:ag):Prop where
 leave:∀ k' O' tmps defs s todo jump,k.Le k'->vN n k' O' tmps defs kind cs s->Leaves todo jump->K (.leave jump) s->T P m Q k' O' (G ⟨fid,tmps,todo,defs,.run,kind,ro⟩ (dK s.rc cs))
 panic:∀ k' O' tmps defs s todo cv av,k.Le k'->vN n k' O' tmps defs kind cs s->V k' cv av->K (.panic av) s->T P m Q k' O' (G ⟨fid,tmps,todo,defs,.panicking [⟨cv,false,false⟩],kind,ro⟩ (dK s.rc cs))
theorem ut.mono {P:Program} {m:Mo} {Q:ag->ah->Goroutine->Prop} {fid n:Nat} {ro:Option Nat} {kind:CallKind} {cs:List Frame} {K:Exit->St->Prop} {k k':ag} (hk:k.Le k')
 (h:ut P m Q fid n ro kind cs K k):ut P m Q fid n ro kind cs K k':=
 ⟨fun _ _ _ _ _ _ _ h1=>h.leave _ _ _ _ _ _ _ (hk.trans h1),fun _ _ _ _ _ _ _ _ h1=>h.panic _ _ _ _ _ _ _ _ (hk.trans h1)⟩
def Go (P:Program) (m:Mo) (fid n:Nat) (ro:Option Nat) (todo:List Item) (s:St) (K:Exit->St->Prop):Prop:=
 ∀ Q k O tmps defs kind cs,kind ≠ .early->vN n k O tmps defs kind cs s->ut P m Q fid n ro kind cs K k->T P m Q k O (G ⟨fid,tmps,todo,defs,.run,kind,ro⟩ (dK s.rc cs))
inductive cV where
 | val (v:AV)
 | panic (v:AV)
def iP (c:Frame):Frame:=
 match c.mode with
 | .panicking ({ recovered:=true,.. } :: older)=>
   match older.dropWhile (!·.goexit) with
   | [] => { c with mode:=.returning }
   | rest => { c with mode:=.panicking rest }
 | _=>c
def ip (kind:CallKind) (c:Frame) (rest:List Frame) (v:Value):Goroutine:=
 match kind with
 | .normal | .wrapped=>G (c.finish v) rest
 | _=>G (iP c) rest
def ar (P:Program) (m:Mo) (f:FuncId) (args:List AV) (σ:aa) (KF:cV->aa->Prop):Prop:=
 ∀ Q k O cargs c rest kind,kind ≠ .early->Vs k cargs args->Rel k O σ ->
   (∀ k' O' cv av σ',k.Le k'->V k' cv av->Rel k' O' σ'->KF (.val av) σ'->T P m Q k' O' (ip kind c rest cv)) ->
   (∀ k' O' cv av σ',k.Le k'->V k' cv av->Rel k' O' σ'->KF (.panic av) σ'->T P m Q k' O' (G (c.raise [⟨cv,false,false⟩]) rest)) ->
   T P m Q k O (G (Frame.enter P f cargs.toArray kind) (c :: rest))
def uu (P:Program) (m:Mo) (Q:ag->ah->Goroutine->Prop) (k:ag) (O:ah) (fr:Frame) (cs:List Frame) (s:Sem Next):Prop:=
 ∀ w,Sat k O w->∃ g' w' es k' O',stepG.apply P true fr cs none s w = .go g' w' es∧Eff k O w k' O' w' es.toList∧Sat k' O' w'∧T P m Q k' O' g'
def cI (P:Program) (m:Mo) (fv:AV) (args:List AV) (σ:aa) (KF:cV->aa->Prop):Prop:=
 ∀ Q k O cf cargs fr cs,V k cf fv->Vs k cargs args->Rel k O σ->fr.mode = .run->fr.kind ≠ .early->(∀ d w r s l,fr.todo ≠ .call d w r s :: l) ->
   (∀ k' O' cv av σ',k.Le k'->V k' cv av->Rel k' O' σ'->KF (.val av) σ'->T P m Q k' O' (G (fr.finish cv) cs)) ->
   (∀ k' O' cv av σ',k.Le k'->V k' cv av->Rel k' O' σ'->KF (.panic av) σ'->T P m Q k' O' (G (fr.raise [⟨cv,false,false⟩]) cs)) ->
   uu P m Q k O fr cs (do let d ← Deferred.ofValue cf cargs.toArray;invoke d.target d.args)
section
variable {P:Program} {m:Mo} {Q:ag->ah->Goroutine->Prop} {k:ag} {O:ah} {g g':Goroutine}
theorem T.cq (hr:g.status = .running) (hs:∀ w,stepG P m.main g w = .go g' w #[]) (h:T P m Q k O g'):T P m Q k O g:=
 .step (fun k' O' x=>k'=k∧O'=O∧x=g') hr (fun _ _ _ ⟨e1,e2,e3⟩=>by subst e1;subst e2;subst e3;exact h)
  fun w hw=>⟨g',w,#[],k,O,hs w,.refl ..,hw,rfl,rfl,rfl⟩
theorem T.lN {fr:Frame} {cs:List Frame} {s:Sem Next} (hs:∀ w,stepG P m.main (G fr cs) w=stepG.apply P true fr cs none s w) (h:uu P m Q k O fr cs s):T P m Q k O (G fr cs):=
 .step (fun k' O' x=>T P m Q k' O' x) rfl (fun _ _ _ h=>h) fun w hw=>by
  obtain⟨g',w',es,k',O',h1,h2,h3,h4⟩:=h w hw;exact⟨g',w',es,k',O',(hs w).trans h1,h2,h3,h4⟩
end
section
variable {P:Program} {m:Mo} {fid n:Nat} {ro:Option Nat} {s:St} {K:Exit->St->Prop} {k:List Item}
theorem Go.cq {todo todo':List Item} (hs:∀ tmps defs kind cs w,stepG P m.main (G ⟨fid,tmps,todo,defs,.run,kind,ro⟩ cs) w = .go (G ⟨fid,tmps,todo',defs,.run,kind,ro⟩ cs) w #[])
 (h:Go P m fid n ro todo' s K):Go P m fid n ro todo s K:=fun Q k O tmps defs kind cs h1 h2 h3=>T.cq rfl (fun w=>hs ..) (h Q k O tmps defs kind cs h1 h2 h3)
theorem Go.skip (h:Go P m fid n ro k s K):Go P m fid n ro (.code .skip :: k) s K:=.cq (fun _ _ _ _ _=>by simp[G,stepG,stepG.exec]) h
theorem Go.label {l:Nat} (h:Go P m fid n ro k s K):Go P m fid n ro (.code (.label l) :: k) s K:=.cq (fun _ _ _ _ _=>by simp[G,stepG,stepG.exec]) h
theorem Go.inBlock {id:Nat} (h:Go P m fid n ro k s K):Go P m fid n ro (.inBlock id :: k) s K:=.cq (fun _ _ _ _ _=>by simp[G,stepG,stepG.exec]) h
theorem Go.inScope {c:Code} (h:Go P m fid n ro k s K):Go P m fid n ro (.inScope c :: k) s K:=.cq (fun _ _ _ _ _=>by simp[G,stepG,stepG.exec]) h
theorem Go.seq {a b:Code} (h:Go P m fid n ro (.code a :: .code b :: k) s K):Go P m fid n ro (.code (.seq a b) :: k) s K:=.cq (fun _ _ _ _ _=>by simp[G,stepG,stepG.exec]) h
theorem Go.block {id:Nat} {c:Code} (h:Go P m fid n ro (.code c :: .inBlock id :: k) s K):Go P m fid n ro (.code (.block id c) :: k) s K:=.cq (fun _ _ _ _ _=>by simp[G,stepG,stepG.exec]) h
theorem Go.scope {c:Code} (h:Go P m fid n ro (.code c :: .inScope c :: k) s K):Go P m fid n ro (.code (.scope c) :: k) s K:=.cq (fun _ _ _ _ _=>by simp[G,stepG,stepG.exec]) h
theorem Go.inLoop {c:Code} (h:Go P m fid n ro (.code c :: .inLoop c :: k) s K):Go P m fid n ro (.inLoop c :: k) s K:=.cq (fun _ _ _ _ _=>by simp[G,stepG,stepG.exec]) h
theorem Go.G2 {c:Code} (h:Go P m fid n ro (.code c :: .inLoop c :: k) s K):Go P m fid n ro (.code (.loop c) :: k) s K:=.cq (fun _ _ _ _ _=>by simp[G,stepG,stepG.exec]) h
theorem Go.exit {id:Nat} {k':List Item} (he:exitTo id k=some k') (h:Go P m fid n ro k' s K):Go P m fid n ro (.code (.exit id) :: k) s K:=.cq (fun _ _ _ _ _=>by simp[G,stepG,stepG.exec,he]) h
theorem Go.region {id:Nat} {ops:Array Oper} (h:Go P m fid n ro (.inRegion ops (List.range ops.size) :: k) s K):Go P m fid n ro (.code (.region id ops false) :: k) s K:=.cq (fun _ _ _ _ _=>by simp[G,stepG,stepG.exec]) h
theorem Go.sS {ops:Array Oper} (h:Go P m fid n ro k s K):Go P m fid n ro (.inRegion ops [] :: k) s K:=.cq (fun _ _ _ _ _=>by simp[G,stepG,stepG.exec]) h
theorem Go.cond {c:Operand} {a b:Code} {x:Bool} (hc:am s.env c = .lit (.bool x)) (ho:Operand.ok n c=true) (h:Go P m fid n ro (.code (if x then a else b) :: k) s K):Go P m fid n ro (.code (.cond c a b) :: k) s K:=
 fun Q k O tmps defs kind cs h1 h2 h3=>by
  have hv:=V.eval (fr:=⟨fid,tmps,.code (.cond c a b) :: ‹_›,defs,.run,kind,ro⟩) h2.env h2.size c ho;rw[hc] at hv;generalize he:Frame.eval _ c=v at hv;cases hv;refine T.cq rfl (fun w=>?_) (h Q k O tmps defs kind cs h1 h2 h3)
  simp[G,stepG,stepG.exec,he]
theorem Go.leave {todo:List Item} {jump:Option Code} (hl:Leaves todo jump) (h:K (.leave jump) s):Go P m fid n ro todo s K:=fun _ _ _ _ _ _ _ _ h2 h3=>h3.leave _ _ _ _ _ _ _ (.refl _) h2 hl h
theorem Go.weaken {todo:List Item} {σ:aa} (h:Go P m fid n ro todo { s with σ } K) (hs:σ.Le s.σ):Go P m fid n ro todo s K:=fun Q k O tmps defs kind cs h1 h2 h3=>
 h Q k O tmps defs kind cs h1 ⟨h2.size,h2.env,h2.rel.le hs,h2.ds,h2.rc⟩ h3
theorem Go.loop {c:Code} (I:Nat->St->Prop) (a:Nat) (h0:I a s)
 (hr:∀ c0 a s,I a s->(∀ a' s',a'<a->I a' s'->Go P m fid n ro (.inLoop c0 :: k) s' K)->Go P m fid n ro (.code c :: .inLoop c0 :: k) s K):Go P m fid n ro (.code (.loop c) :: k) s K:=by
 have key:∀ b a s,a<b->I a s->Go P m fid n ro (.code c :: .inLoop c :: k) s K:=by
  intro b
  induction b with
  | zero=>intro a s h;omega
  | succ b ih=>exact fun a s hab hI=>hr c a s hI fun a' s' h' hI' => .inLoop (ih a' s' (by omega) hI')
 exact .G2 (key (a+1) a s (by omega) h0)
end
inductive AK where
 | bool|int (k:IntKind) | string|pointer (e:Nat) | slice (e:Nat) | array (n e:Nat) | map (k e:Nat) | chan (e:Nat) | struct|func|iface|other
 deriving DecidableEq
structure TI where
 kind:AK
 size:Nat
 bytes:Nat
 zero:Value
 fL:List (Nat × Nat × Nat)
def TI.agg (i:TI):Bool:=match i.kind with | .struct=>true | .array _ _=>true|_=>false
def bY (P:Program) (i:TI):TypeDesc->Bool
 | .bool=>i.kind == .bool
 | .int k=>i.kind == .int k
 | .string=>i.kind == .string
 | .pointer e=>i.kind == .pointer e
 | .slice e=>i.kind == .slice e
 | .array n e=>i.kind == .array n e
 | .map k e=>i.kind == .map k e
 | .chan _ e=>i.kind == .chan e
 | .struct fs=>i.kind == .struct && (fs.toList.map fun f=>(f.offset,(P.info? f.type).map (·.size),f.type)) == (i.fL.map fun x=>(x.1,some x.2.1,x.2.2))
 | .func _ _ _=>i.kind == .func
 | .interface _=>i.kind == .iface
 | _=>i.kind == .other
def FI:Value->Value->Bool
 | .bool a,.bool b=>a == b
 | .int k a,.int l b=>k == l && a == b
 | .string a,.string b=>a.data.toList == b.data.toList
 | .pointer none,.pointer none=>true
 | .slice none a b,.slice none c d=>a == c && b == d
 | .map none,.map none=>true
 | .chan none,.chan none=>true
 | .nilFunc,.nilFunc=>true
 | .nilIface,.nilIface=>true
 | _,_=>false
def xQ:List Value->List Value->Bool
 | [],[]=>true
 | a :: l,b :: r=>FI a b && xQ l r
 | _,_=>false
def KW:Value->Value->Bool
 | .agg a,.agg b=>xQ a.toList b.toList
 | .tuple a,.tuple b=>xQ a.toList b.toList
 | a,b=>FI a b
theorem zc {a b:Value} (h:FI a b=true):a=b:=by
 unfold FI at h;split at h <;> simp_all
 rename_i a b;obtain⟨⟨a⟩⟩:=a;obtain⟨⟨b⟩⟩:=b
 simp_all
theorem uv:∀ {a b:List Value},xQ a b=true->a=b
 | [],[],_=>rfl
 | a :: l,b :: r,h=>by
   simp only[xQ,Bool.and_eq_true] at h;rw[zc h.1,uv h.2]
 | [],_ :: _,h=>by simp[xQ] at h
 | _ :: _,[],h=>by simp[xQ] at h
theorem Hx {a b:Value} (h:KW a b=true):a=b:=by
 unfold KW at h;split at h
 . have:=uv h;congr 1;exact Array.ext' this
 . have:=uv h;congr 1;exact Array.ext' this
 . exact zc h
def TI.check (P:Program) (t:Nat) (i:TI):Bool:=
 match P.underlying t,P.info? t with
 | some d,some info=>bY P i d && info.size == i.size && info.bytes == i.bytes && (match info.zero with|some z=>KW z i.zero|none=>false) && i.zero.cells.size == i.size
 | _,_=>false
structure iB (P:Program) where
 tt:Nat->Option TI
 ok:∀ t i,tt t=some i->i.check P t=true
 mixed:P.follows .mixedOrders=true
theorem iB.facts {P:Program} (L:iB P) {t:Nat} {i:TI} (h:L.tt t=some i):(∃ d,P.underlying t=some d∧bY P i d=true)∧∃ info,P.info? t=some info∧info.size=i.size∧info.bytes=i.bytes∧info.zero=some i.zero∧i.zero.cells.size=i.size:=by
 have:=L.ok t i h;unfold TI.check at this;split at this
 . next d info h1 h2=>
   simp only[Bool.and_eq_true,beq_iff_eq] at this;obtain⟨⟨⟨⟨a,b⟩,c⟩,e⟩,f⟩:=this;refine⟨⟨d,h1,a⟩,info,h2,b,c,?_,f⟩;split at e
   . next z hz=>rw[hz,Hx e]
   . cases e
 . cases this
section
variable {P:Program} (L:iB P) {k:ag} {O:ah} {Kp:Value->ag->ah->Prop} {t:Nat} {i:TI}
theorem ai {α:Type} {a:α} {K:α->ag->ah->Prop} (h:K a k O):dm P (pure a:Sem α) k O K Kp:=h
theorem af {α β:Type} {s:Sem α} {f:α->Sem β} {K:β->ag->ah->Prop} (h:dm P s k O (fun a k O=>dm P (f a) k O K Kp) Kp):dm P (s >>= f) k O K Kp:=Ck s h
theorem cJ {K:Program->ag->ah->Prop} (h:K P k O):dm P program k O K Kp:=h
theorem aq {K:TypeDesc->ag->ah->Prop} (ht:L.tt t=some i) (h:∀ d,P.underlying t=some d->bY P i d=true->K d k O):dm P (underlying t) k O K Kp:=by
 obtain⟨⟨d,h1,h2⟩,_⟩:=L.facts ht;unfold underlying;refine af (cJ ?_);rw[h1];exact h d h1 h2
theorem bz {K:TypeInfo->ag->ah->Prop} (ht:L.tt t=some i) (h:∀ info,P.info? t=some info->info.size=i.size->info.bytes=i.bytes->info.zero=some i.zero->K info k O):dm P (typeInfo t) k O K Kp:=by
 obtain⟨_,info,h1,h2,h3,h4,_⟩:=L.facts ht;unfold typeInfo;refine af (cJ ?_);rw[h1];exact h info h1 h2 h3 h4
theorem bs {K:Nat->ag->ah->Prop} (ht:L.tt t=some i) (h:K i.size k O):dm P (sizeOf t) k O K Kp:=by
 unfold sizeOf;refine af (bz L ht fun info _ h1 _ _=>?_)
 refine ai ?_;rw[h1];exact h
theorem bP {K:Value->ag->ah->Prop} (ht:L.tt t=some i) (h:K i.zero k O):dm P (zeroValue t) k O K Kp:=by
 unfold zeroValue;refine af (bz L ht fun info _ _ _ h1=>?_)
 rw[h1];exact h
theorem ov {K:Bool->ag->ah->Prop} (ht:L.tt t=some i) (h:K i.agg k O):dm P (isAgg t) k O K Kp:=by
 unfold isAgg;refine af (aq L ht fun d _ hd=>?_)
 unfold TI.agg at h;cases d <;> simp only[bY,Bool.and_eq_true,beq_iff_eq] at hd <;> first | (rw[hd] at h;exact h) | (rw[hd.1] at h;exact h)
theorem jT {α:Type} {K K':α->ag->ah->Prop} {Kp Kp':Value->ag->ah->Prop} (s:Sem α):∀ {k:ag} {O:ah},dm P s k O K Kp->(∀ a k O,K a k O->K' a k O)->(∀ a k O,Kp a k O->Kp' a k O)->dm P s k O K' Kp':=by
 induction s with
 | pure a=>intro k O h hk hp;exact hk _ _ _ h
 | load m a g ih=>intro k O h hk hp;obtain⟨h1,v,h2,h3⟩:=h;exact⟨h1,v,h2,ih v h3 hk hp⟩
 | store m a v g ih=>
   intro k O h hk hp;obtain⟨h1,h2,h3,h4⟩:=h;refine⟨h1,h2,h3,?_⟩
   rcases h4 with ⟨c,e,a1,a2,a3⟩|⟨e,N,a1,a2,a3,a4⟩
   . exact .inl ⟨c,e,a1,a2,ih a3 hk hp⟩
   . exact .inr ⟨e,N,a1,a2,a3,fun hn=>ih (a4 hn) hk hp⟩
 | new o g ih=>intro k O h hk hp;exact⟨h.1,fun r hr=>ih r (h.2 r hr) hk hp⟩
 | shape r g ih=>intro k O h hk hp;obtain⟨s,h1,h2⟩:=h;exact⟨s,h1,ih s h2 hk hp⟩
 | freeze a n g ih=>intro k O h hk hp;exact h.elim
 | frozen a g ih=>intro k O h hk hp;exact⟨h.1,ih false h.2 hk hp⟩
 | getObj r g ih=>intro k O h hk hp;obtain⟨o,h1,h2,h3⟩:=h;exact⟨o,h1,h2,ih o h3 hk hp⟩
 | setObj r o g ih=>intro k O h hk hp;exact⟨h.1,h.2.1,ih h.2.2 hk hp⟩
 | choose q g ih=>intro k O h hk hp t;exact ih _ (h t) hk hp
 | sys c g ih=>intro k O h hk hp;exact h.elim
 | program g ih=>intro k O h hk hp;exact ih P h hk hp
 | mark m g ih=>intro k O h hk hp;exact⟨h.1,ih h.2 hk hp⟩
 | halt x=>intro k O h hk hp;cases x with
   | panic v=>exact hp _ _ _ h
   | _=>exact h
end
def jU (k:ag) (O:ah) (R:ag->ah->Prop):Prop := ∃ k2 O2,iZ k O k2 O2∧R k2 O2
theorem iZ.refl (k:ag) (O:ah):iZ k O k O:=fun w h=>⟨h,.refl k O w⟩
theorem iZ.trans {k k1 k2:ag} {O O1 O2:ah} (h:iZ k O k1 O1) (h':iZ k1 O1 k2 O2):iZ k O k2 O2:=fun w hw=>
 let ⟨a,b⟩:=h w hw;let ⟨c,d⟩:=h' w a;⟨c,by simpa using b.trans d⟩
theorem jU.here {k:ag} {O:ah} {R:ag->ah->Prop} (h:R k O):jU k O R:=⟨k,O,.refl k O,h⟩
def aE (P:Program) (o:Oper) (env:Env) (σ:aa) (K:AV->aa->Prop) (Kp:AV->aa->Prop):Prop:=
 ∀ k O (ρ:Operand->Value),(∀ x∈o.op.operands,V k (ρ x) (am env x))->Rel k O σ ->
   dm P (execOp ρ o) k O (fun nx k' O' => ∃ v,(nx = .value v∨(nx = .skip∧v=undef))∧jU k' O' fun k2 O2=>k.Le k2∧∃ a σ',V k2 v a∧Rel k2 O2 σ'∧K a σ')
    (fun v k' O'=>k.Le k'∧∃ a σ',V k' v a∧Rel k' O' σ'∧Kp a σ')
def Oper.ok (n:Nat) (o:Oper):Bool:=o.op.operands.all (Operand.ok n) && (match o.dst with|some d=>decide (d<n) | none=>true)
def aL (env:Env) (dst:Option Tmp) (v:AV):Env:=match dst with|some d=>env.upd d v|none=>env
theorem qA {P:Program} {fn:FuncId} {es:Array Event} {e:Event} (h:e∈seen P fn es):e∈es:=by
 unfold seen at h
 have key:∀ (l:List Event) (q:Bool) (acc:Array Event),e∈(l.foldl (init:=(q,acc)) fun (q,kept) e=>
  match e.loc with
  | .mark (.extern f)=>((P.funcs[f]?).any (·.norace),kept)
  | _=>(q,if q && !e.sync then kept else kept.push e)).2->e∈acc∨e∈l:=by
  intro l
  induction l with
  | nil=>intro q acc h;exact .inl h
  | cons x l ih=>
    intro q acc h;simp only[List.foldl_cons] at h
    rcases ih _ _ h with h'|h'
    . split at h'
      . exact .inl h'
      . simp only at h'
        split at h'
        . exact .inl h'
        . rcases Array.mem_push.1 h' with h'|h'
          . exact .inl h'
          . exact .inr (by simp[h'])
    . exact .inr (by simp[h'])
 dsimp only at h;rw[← Array.foldl_toList] at h
 rcases key es.toList _ #[] h with h|h
 . simp at h
 . simpa using h
theorem Eff.sub {k:ag} {O:ah} {w:World} {k':ag} {O':ah} {w':World} {l l':List Event} (h:Eff k O w k' O' w' l) (hl:∀ e∈l',e∈l):Eff k O w k' O' w' l':=
 ⟨h.le,h.size,h.keep,h.tail,h.part,h.shape,h.own,h.cell,h.sh,fun e he=>h.evs e (hl e he),h.tape,h.output,h.os,fun e he=>h.low e (hl e he),h.tok⟩
theorem dq {P:Program} {m:Mo} {Q:ag->ah->Goroutine->Prop} {k:ag} {O:ah} {fr:Frame} {cs:List Frame} {s:Sem Next}
 (h:dm P s k O
   (fun nx k' O'=>k.Le k'->match nx with
     | .value v=>T P m Q k' O' (G (fr.finish v) cs)
     | .skip=>T P m Q k' O' (G (fr.finish undef) cs)
     | .enter f args=>(∀ d w r s l,fr.todo ≠ .call d w r s :: l)∧T P m Q k' O' (G (Frame.enter P f args .normal) (fr :: cs))
     | .round l f tmps assign body=>T P m Q k' O' (G (Frame.round l f tmps assign body .normal) (fr :: cs))
     | .defer d=>T P m Q k' O' (G ({ fr with defers:=d :: fr.defers }.finish undef) cs)
     | _=>False)
   (fun v k' O'=>k.Le k'->T P m Q k' O' (G (fr.raise [⟨v,false,false⟩]) cs))):uu P m Q k O fr cs s:=by
 intro w hw;obtain⟨k',O',w',l,h1,h2,h3,h4⟩:=ou s #[] h hw
 have hsub:∀ (es:Array Event),(∀ e∈es,e∈(s.runT P w #[]).2)->∀ e∈es.toList,e∈l:=fun es hes e he=>by
  have:=hes e (by simpa using he)
  rw[← Array.mem_toList_iff,h3] at this;simpa using this
 have hk:∀ (b:Bool) (es:Array Event),∀ e∈seen P fr.fn (if b then #[] else es),e∈es:=fun b es e he=>by
  have:=qA he;cases b
  . simpa using this
  . simp at this
 rcases h4 with ⟨nx,hr,hK⟩|⟨v,hr,hK⟩
 . have hK:=hK h1.le
   cases nx with
   | value v=>exact⟨_,w',_,k',O',by simp only[stepG.apply,if_true];rw[show (s.runT P w #[]).1 = .ok (.value v) w' from hr];rfl,h1.sub (hsub _ (by simpa using hk (fr.kind == .early) (s.runT P w #[]).2)),h2,hK⟩
   | skip=>exact⟨_,w',_,k',O',by simp only[stepG.apply,if_true];rw[show (s.runT P w #[]).1 = .ok .skip w' from hr];rfl,h1.sub (hsub _ (by simpa using hk (fr.kind == .early) (s.runT P w #[]).2)),h2,hK⟩
   | enter f args=>
     refine⟨_,w',seen P fr.fn (if fr.kind == .early then #[] else (s.runT P w #[]).2),k',O',?_,h1.sub (hsub _ (by simpa using hk (fr.kind == .early) (s.runT P w #[]).2)),h2,hK.2⟩
     obtain⟨fn,tmps,todo,defs,mode,kind,ro⟩:=fr;simp only[stepG.apply,if_true];rw[show (s.runT P w #[]).1 = .ok (.enter f args) w' from hr]
     cases todo with
     | nil=>rfl
     | cons it l=>cases it with
       | call d w r s=>exact absurd rfl (hK.1 d w r s l)
       | _=>rfl
   | round l f tmps assign body=>exact⟨_,w',_,k',O',by simp only[stepG.apply,if_true];rw[show (s.runT P w #[]).1 = .ok (.round l f tmps assign body) w' from hr];rfl,h1.sub (hsub _ (by simpa using hk (fr.kind == .early) (s.runT P w #[]).2)),h2,hK⟩
   | defer d=>exact⟨_,w',_,k',O',by simp only[stepG.apply,if_true];rw[show (s.runT P w #[]).1 = .ok (.defer d) w' from hr];rfl,h1.sub (hsub _ (by simpa using hk (fr.kind == .early) (s.runT P w #[]).2)),h2,hK⟩
   | _=>exact hK.elim
 . exact⟨_,w',_,k',O',by simp only[stepG.apply,if_true];rw[show (s.runT P w #[]).1 = .halt (.panic v) w' from hr];rfl,h1.sub (hsub _ (by simpa using hk (fr.kind == .early) (s.runT P w #[]).2)),h2,hK h1.le⟩
theorem vN.put {n:Nat} {k k':ag} {O O':ah} {fid:FuncId} {tmps:Array Value} {defs:List Deferred} {kind:CallKind} {ro:Option Nat} {cs:List Frame} {s:St} {σ':aa} {ops:Array Oper} {i:Nat} {rest:List Nat} {o:Oper} {kk:List Item} {v:Value} {a:AV}
 (h:vN n k O tmps defs kind cs s) (hk:k.Le k') (ho:ops[i]? = some o) (hv:V k' v a) (hr:Rel k' O' σ') :
 ∃ tmps',Frame.finish ⟨fid,tmps,.inRegion ops (i :: rest) :: kk,defs,.run,kind,ro⟩ v=⟨fid,tmps',.inRegion ops rest :: kk,defs,.run,kind,ro⟩ ∧
   vN n k' O' tmps' defs kind cs { s with env:=aL s.env o.dst a,σ:=σ' }:=by
 cases hd:o.dst with
 | none=>
   refine⟨tmps,?_,⟨h.size,h.env.mono hk,hr,h.ds.mono hk,h.rc.mono hk⟩⟩;simp[Frame.finish,ho,hd]
 | some d=>
   refine⟨tmps.setIfInBounds d v,?_,⟨by simp[h.size],(h.env.mono hk).upd hv,hr,h.ds.mono hk,h.rc.mono hk⟩⟩
   simp[Frame.finish,ho,hd]
section
variable {P:Program} {m:Mo} {fid n:Nat} {ro:Option Nat} {s:St} {K:Exit->St->Prop} {k:List Item}
theorem Go.unwanted {ops:Array Oper} {i:Nat} {rest:List Nat} {o:Oper} {j:Nat} {b x:Bool} {d:Tmp} {oj:Oper} (ho:ops[i]? = some o) (hg:o.guard=some (j,b)) (hj:ops[j]? = some oj) (hd:oj.dst=some d) (hdn:d<n)
 (he:s.env d = .lit (.bool x)) (hx:x≠b) (h:Go P m fid n ro (.inRegion ops rest :: k) { s with env:=aL s.env o.dst .aO } K):Go P m fid n ro (.inRegion ops (i :: rest) :: k) s K:=
 fun Q kk O tmps defs kind cs h1 h2 h3=>by
  obtain⟨tmps',e1,e2⟩:=h2.put (fid:=fid) (ro:=ro) (rest:=rest) (kk:=k) (v:=undef) (a:=.aO) (.refl _) ho (.aO _) h2.rel;refine T.cq rfl (fun w=>?_) (h Q kk O tmps' defs kind cs h1 e2 h3)
  have hv:=h2.env d (by rw[h2.size];exact hdn)
  rw[he] at hv;generalize hq:tmps.getD d undef=v at hv;cases hv
  have hy:yielded ops tmps j=some x:=by
   have:tmps[d]? = some (.bool x):=by
    have hlt:d<tmps.size:=by rw[h2.size];exact hdn
    simp[Array.getD,hlt] at hq;simp[hlt,hq]
   simp[yielded,hj,hd,this]
  have hw:((ops[i]?).map (Region.wanted · (yielded ops tmps))).getD false=false:=by
   simp[ho,Region.wanted,hg,hy,hx]
  simp only[G,stepG,stepG.exec,hw];simp only[e1];rfl
def bj (ops:Array Oper) (n:Nat) (env:Env) (o:Oper):Prop:=
 match o.guard with
 | none=>True
 | some (j,b) => ∃ oj d,ops[j]? = some oj∧oj.dst=some d∧d<n∧env d = .lit (.bool b)
theorem fj {k:ag} {tmps:Array Value} {ops:Array Oper} {env:Env} {o:Oper} (hs:tmps.size=n) (he:dp k tmps env) (h:bj ops n env o):Region.wanted o (yielded ops tmps)=true:=by
 unfold bj at h;unfold Region.wanted;cases hg:o.guard with
 | none=>rfl
 | some p=>
   obtain⟨j,b⟩:=p;simp only[hg] at h;obtain⟨oj,d,h1,h2,h3,h4⟩:=h;have hv:=he d (by rw[hs];exact h3)
   rw[h4] at hv;generalize hq:tmps.getD d undef=v at hv;cases hv
   have:tmps[d]? = some (.bool b):=by
    have hlt:d<tmps.size:=by rw[hs];exact h3
    simp[Array.getD,hlt] at hq;simp[hlt,hq]
   simp[yielded,h1,h2,this]
theorem cK {ops:Array Oper} {i:Nat} {rest:List Nat} {o:Oper} {tmps:Array Value} {defs:List Deferred} {kind:CallKind} {cs:List Frame} (ho:ops[i]? = some o) (hw:Region.wanted o (yielded ops tmps)=true)
 (hdf:ro=none∨∀ c,o.op ≠ .defer c) (w:World) :
 stepG P m.main (G ⟨fid,tmps,.inRegion ops (i :: rest) :: k,defs,.run,kind,ro⟩ cs) w =
  stepG.apply P true ⟨fid,tmps,.inRegion ops (i :: rest) :: k,defs,.run,kind,ro⟩ cs none (execOp (Frame.eval ⟨fid,tmps,.inRegion ops (i :: rest) :: k,defs,.run,kind,ro⟩) o) w:=by
 simp only[G,stepG,stepG.exec,stepG.oper,Frame.oper?,ho,hw,Option.map_some,Option.getD_some,if_true];split
 . next c h2 => rcases hdf with h|h
                . cases h
                . exact absurd h2 (h _)
 . rfl
theorem Go.op {ops:Array Oper} {i:Nat} {rest:List Nat} {o:Oper} (ho:ops[i]? = some o) (hw:bj ops n s.env o) (hok:Oper.ok n o=true) (hdf:∀ c,o.op ≠ .defer c)
 (h:aE P o s.env s.σ (fun a σ'=>Go P m fid n ro (.inRegion ops rest :: k) { s with env:=aL s.env o.dst a,σ:=σ' } K) (fun a σ'=>K (.panic a) { s with σ:=σ' })) :
 Go P m fid n ro (.inRegion ops (i :: rest) :: k) s K:=fun Q kk O tmps defs kind cs h1 h2 h3=>by
 refine T.lN (fun w=>cK ho (fj h2.size h2.env hw) (.inr hdf) w) (dq ?_)
 have hops:∀ x∈o.op.operands,V kk (Frame.eval ⟨fid,tmps,.inRegion ops (i :: rest) :: k,defs,.run,kind,ro⟩ x) (am s.env x):=fun x hx=>by
  refine V.eval h2.env h2.size x ?_;simp only[Oper.ok,Bool.and_eq_true,Array.all_eq_true_iff_forall_mem] at hok;exact hok.1 x hx
 refine jT _ (h kk O _ hops h2.rel) (fun nx k' O' hx hle=>?_) (fun v k' O' hx hle=>?_)
 . obtain⟨v,hv,k2,O2,hgh,hle2,a,σ',ha,hr,hg⟩:=hx
   obtain⟨tmps',e1,e2⟩:=h2.put (fid:=fid) (ro:=ro) (rest:=rest) (kk:=k) hle2 ho ha hr;have ht:=hg Q k2 O2 tmps' defs kind cs h1 e2 (h3.mono hle2)
   rcases hv with rfl|⟨rfl,rfl⟩
   . show T P m Q k' O' _
     rw[e1];exact .ghost hgh ht
   . show T P m Q k' O' _
     rw[e1];exact .ghost hgh ht
 . obtain⟨hle',a,σ',ha,hr,hg⟩:=hx
   exact h3.panic k' O' tmps defs { s with σ:=σ' } _ v a hle' ⟨h2.size,h2.env.mono hle',hr,h2.ds.mono hle',h2.rc.mono hle'⟩ ha hg
end
def ag.qB (k:ag) (r:Nat) (c:Array Value) (n:Nat):ag:={ k with cell:=fun b j=>if b=r∧j<n then c[j]? else k.cell b j }
def ah.del (O:ah) (r:Nat):ah:=fun b=>if b=r then none else O b
theorem xR (k:ag) (O:ah) (r:Nat) (hn:∀ f,O r≠some (.part f)):iZ k O k (O.del r):=fun w h=>by
 have hd:∀ b x,(O.del r) b=some x->O b=some x:=fun b x e=>by
  unfold ah.del at e;split at e
  . cases e
  . exact e
 have hc:∀ b i,aG (O.del r) b i->aG O b i:=fun b i hh=>by
  rcases hh with ⟨o,h1⟩|⟨n,h1,h2⟩|⟨f,h1,h2⟩
  . exact .inl ⟨o,hd _ _ h1⟩
  . exact .inr (.inl ⟨n,hd _ _ h1,h2⟩)
  . exact .inr (.inr ⟨f,hd _ _ h1,h2⟩)
 exact⟨⟨fun b i v e hcc=>h.apart b i v e (hc b i hcc),h.cell,h.sh,fun b o e=>h.obj b o (hd b _ e),fun b n e=>h.tail b n (hd b _ e),fun b f e=>h.part b f (hd b _ e)⟩,
  ⟨.refl k,Nat.le_refl _,fun _ _ _=>rfl,fun _ _ _ _ c _ h=>⟨c,h,rfl,fun _ _=>rfl⟩,fun _ _ _ _ c _ h=>⟨c,h,rfl,fun _ _=>rfl⟩,fun _ _=>rfl,fun b x e => .inl ⟨x,hd b x e,.refl x⟩,fun _ _ _ h => .inl h,fun _ _ h => .inl h,by simp,rfl,rfl,rfl,by simp,fun b f hb=>⟨f,by unfold ah.del;rw[if_neg (fun e=>by rw[e] at hb;exact hn f hb)];exact hb⟩⟩⟩
theorem kr {k:ag} {O:ah} {r n:Nat} {c:Array Value} {e:TypeId} (ho:O r=some (.obj (.cells c e (0,0)))) (hs:k.sh r=some (e,c.size)):iZ k O (k.qB r c n) (O.set r (.tail n)):=fun w h=>by
 have hw:=h.obj _ _ ho
 have hno:∀ j,k.cell r j=none:=fun j=>by
  cases q:k.cell r j with
  | none=>rfl
  | some v=>exact (h.apart _ _ _ q (.inl ⟨_,ho⟩)).elim
 have hle:k.Le (k.qB r c n):=⟨fun b i v hv=>by
  have : ¬ (b=r∧i<n):=fun x=>by rw[x.1,hno] at hv;cases hv
  simpa[ag.qB,this] using hv,fun _ _ h=>h⟩
 refine⟨⟨fun b i v hv hc=>?_,fun b i v hv=>?_,h.sh,fun b o hb=>?_,fun b m hb=>?_,fun b f hb=>?_⟩,⟨hle,Nat.le_refl _,fun _ _ _=>rfl,fun _ _ _ _ c _ h=>⟨c,h,rfl,fun _ _=>rfl⟩,fun _ _ _ _ c _ h=>⟨c,h,rfl,fun _ _=>rfl⟩,fun _ _=>rfl,fun b x hx=>?_,fun b i v hv=>?_,fun _ _ h => .inl h,by simp,rfl,rfl,rfl,by simp,fun b f hb=>⟨f,by rw[show (O.set r (.tail n)) b=O b from by simp only[ah.set];rw[if_neg (fun e=>by rw[e,ho] at hb;cases hb)]];exact hb⟩⟩⟩
 . by_cases hb:b=r
   . subst hb
     rcases hc with ⟨o,h1⟩|⟨m,h1,h2⟩|⟨f,h1,h2⟩
     . simp[ah.set] at h1
     rotate_left
     . simp[ah.set] at h1
     . simp only[ah.set,if_true,Option.some.injEq,Own.tail.injEq] at h1
       subst h1;have : ¬ (i<n):=by omega
       simp only[ag.qB,this,and_false,if_false,hno] at hv;cases hv
   . have hv':k.cell b i=some v:=by simpa[ag.qB,hb] using hv
     exact h.apart b i v hv' (by simpa[aG,ah.set,hb] using hc)
 . by_cases hb:b=r∧i<n
   . obtain⟨rfl,hi⟩:=hb
     simp only[ag.qB,hi,and_self,if_true] at hv;simp[World.cell?,hw,hv]
   . exact h.cell b i v (by simpa only [ag.qB,hb,if_false] using hv)
 . by_cases hbr:b=r
   . subst hbr;simp[ah.set] at hb
   . exact h.obj b o (by simpa[ah.set,hbr] using hb)
 . by_cases hbr:b=r
   . subst hbr;exact⟨c,e,hw,hs⟩
   . exact h.tail b m (by simpa[ah.set,hbr] using hb)
 . by_cases hbr:b=r
   . subst hbr;simp[ah.set] at hb
   . exact h.part b f (by simpa[ah.set,hbr] using hb)
 . by_cases hbr:b=r
   . subst hbr
     simp only[ah.set,if_true,Option.some.injEq] at hx;subst hx;exact .inl ⟨_,ho,trivial⟩
   . exact .inl ⟨x,by simpa[ah.set,hbr] using hx,.refl x⟩
 . by_cases hb:b=r∧i<n
   . obtain⟨rfl,_⟩:=hb
     exact .inr (.inl (.inl ⟨_,ho⟩))
   . exact .inl (by simpa only [ag.qB,hb,if_false] using hv)
theorem ag.Le.put {k:ag} {b i:Nat} {v:Value} (h:k.cell b i=none):k.Le (k.put b i v):=⟨fun c j u hu=>by
 have : ¬ (c=b∧j=i):=fun x=>by rw[x.1,x.2,h] at hu;cases hu
 simpa[ag.put,this] using hu,fun _ _ h=>h⟩
theorem ag.Le.made {k:ag} {r:Nat} {o:Obj} (h:k.sh r=none):k.Le (k.made r o):=by
 cases o <;> first|exact .refl k|skip
 exact⟨fun _ _ _ h=>h,fun b s hs=>by
  have:b≠r:=fun x=>by rw[x,h] at hs;cases hs
  simpa[ag.made,ag.cD,this] using hs⟩
theorem ag.Le.qB {k:ag} {r n:Nat} {c:Array Value} (h:∀ j,k.cell r j=none):k.Le (k.qB r c n):=⟨fun b i v hv=>by
 have : ¬ (b=r∧i<n):=fun x=>by rw[x.1,h] at hv;cases hv
 simpa[ag.qB,this] using hv,fun _ _ h=>h⟩
def m9 (k:ag) (O:ah) (b base:Nat) (l:List AV):Prop := ∀ (j:Nat) a,l[j]? = some a->∃ v,Reads k O ⟨b,base+j,none⟩ v∧V k v a∧flat v=true
def bC (l:List AV) (off size:Nat) (agg:Bool):Option AV:=if agg then (if off+size≤l.length then some (.agg ((l.drop off).take size)) else none) else l[off]?
theorem eF (b off n:Nat):Addr.add ⟨b,off,none⟩ n=⟨b,off+n,none⟩:=by
 unfold Addr.add;split
 . next h=>subst h;rfl
 . rfl
section
variable {P:Program} (L:iB P) {k:ag} {O:ah} {Kp:Value->ag->ah->Prop}
theorem vO {K:Value->ag->ah->Prop} {a:Addr} {v:Value} (h:Reads k O a v) (hK:K v k O):dm P (load a) k O K Kp:=⟨rfl,v,h,hK⟩
theorem fM {K:Array Value->ag->ah->Prop} {b base:Nat} {l:List AV} (hr:m9 k O b base l) {off:Nat} :
 ∀ (n i:Nat) (acc:Array Value),off+i+n≤l.length->(∀ vs:List Value,vs.length=n->(∀ (j:Nat) v a,vs[j]? = some v->l[off+i+j]? = some a->V k v a)->(∀ v∈vs,flat v=true)->K (acc ++ vs.toArray) k O) ->
   dm P (loadCellsFrom ⟨b,base+off,none⟩ i n acc) k O K Kp:=by
 intro n
 induction n with
 | zero=>intro i acc _ h;exact ai (by simpa using h [] rfl (fun j v a h=>by simp at h) (by simp))
 | succ n ih=>
   intro i acc hlen h;have hlt:off+i<l.length:=by omega
   obtain⟨v,h1,h2,h3⟩:=hr (off+i) l[off+i] (by simp[hlt])
   unfold loadCellsFrom;rw[eF];refine af (vO (v:=v) (by rw[Nat.add_assoc];exact h1) ?_)
   refine ih (i+1) (acc.push v) (by omega) fun vs hvs hv hfl=>?_
   have:=h (v :: vs) (by simp[hvs]) (fun j u a hj ha=>?_) (fun u hu=>by
    rcases List.mem_cons.1 hu with rfl|hu
    . exact h3
    . exact hfl u hu)
   . simpa using this
   . cases j with
     | zero=>
       simp at hj ha;subst hj
       have:a=l[off+i]:=by
        have e:l[off+i]? = some l[off+i]:=by simp[hlt]
        rw[e] at ha;exact (Option.some.inj ha).symm
       rw[this];exact h2
     | succ j=>exact hv j u a (by simpa using hj) (by rw[← ha];congr 1;omega)
theorem pr {K:Value->ag->ah->Prop} {b base off:Nat} {l:List AV} {t:Nat} {i:TI} {a:AV} (hr:m9 k O b base l) (ht:L.tt t=some i) (hs:bC l off i.size i.agg=some a)
 (hK:∀ v,V k v a->K v k O):dm P (loadVar t ⟨b,base+off,none⟩) k O K Kp:=by
 unfold loadVar;refine af (ov L ht ?_);unfold bC at hs;cases hagg:i.agg
 . simp only[hagg] at hs
   obtain⟨v,h1,h2,_⟩:=hr off a (by simpa using hs)
   simp only[Bool.false_eq_true,if_false];exact vO h1 (hK v h2)
 . simp only[hagg,if_true] at hs ⊢
   split at hs
   . next hle=>
     simp only[Option.some.injEq] at hs;subst hs;refine af (bs L ht ?_);unfold loadCells;refine af (fM hr _ 0 _ (by omega) fun vs hvs hv _=>?_)
     refine ai (hK _ (.agg _ _ ?_ fun j v a hj ha=>?_))
     . simp[hvs];omega
     . refine hv j v a (by simpa using hj) ?_
       rw[List.getElem?_take] at ha;split at ha
       . rw[List.getElem?_drop] at ha;simpa using ha
       . cases ha
   . cases hs
theorem m9.own {b:Nat} {c:Array Value} {e:TypeId} {fz:Nat × Nat} {l:List AV} (ho:O b=some (.obj (.cells c e fz))) (hl:c.size=l.length) (hv:∀ (i:Nat) v a,c[i]? = some v->l[i]? = some a->V k v a) (hf:∀ (i:Nat) v,c[i]? = some v->flat v=true):m9 k O b 0 l:=fun j a ha=>by
 have hj:j<c.size:=by rw[hl];exact (List.getElem?_eq_some_iff.1 ha).1
 refine⟨c[j],⟨rfl,.inr ⟨c,e,fz,ho,by simp[hj]⟩⟩,hv j _ a (by simp[hj]) ha,hf j _ (by simp[hj])⟩
theorem m9.known {b base:Nat} {l:List AV} {c:Nat->Value} (h1:∀ j,j<l.length->k.cell b (base+j)=some (c j)∧flat (c j)=true) (h2:∀ (j:Nat) a,l[j]? = some a->V k (c j) a):m9 k O b base l:=fun j a ha=>
 ⟨c j,⟨rfl,.inl (h1 j (List.getElem?_eq_some_iff.1 ha).1).1⟩,h2 j a ha,(h1 j (List.getElem?_eq_some_iff.1 ha).1).2⟩
end
def FJ (l:List AV) (hole:List Nat) (off size:Nat) (agg:Bool):Option AV:=if agg then (if off+size≤l.length∧hole.all (fun h=>decide (h<off∨off+size≤h))=true then some (.agg ((l.drop off).take size)) else none) else if hole.contains off=true then none else l[off]?
def kQ (i:TI) (σ:aa):AV->Option AV
 | .cp v off=>bC v.cells off i.size i.agg
 | .kp _ l hole off=>FJ l hole off i.size i.agg
 | .ref b off=>match σ b with|some (.cells l)=>bC l off i.size i.agg|_=>none
 | _=>none
def AV.flat:AV->Bool
 | .lit v=>aZ.flat v
 | .aO=>false
 | .agg _=>false
 | .cB _=>false
 | _=>true
theorem V.flat {k:ag} {v:Value} {a:AV} (h:V k v a) (hf:a.flat=true):aZ.flat v=true:=by
 cases h <;> first|rfl|exact hf|simp[AV.flat] at hf
theorem V.cells {k:ag} {v:Value} {a:AV} (h:V k v a) (hf:a.cells.all AV.flat=true):v.cells.size=a.cells.length∧(∀ (i:Nat) u x,v.cells[i]? = some u->a.cells[i]? = some x->V k u x)∧∀ (i:Nat) u,v.cells[i]? = some u->aZ.flat u=true:=by
 by_cases hagg:∃ l,a = .agg l
 . obtain⟨l,rfl⟩:=hagg
   cases h with
   | agg c l h1 h2=>
     refine⟨h1,h2,fun i u hu=>?_⟩
     have hi:i<l.length:=by rw[← h1];exact (Array.getElem?_eq_some_iff.1 hu).1
     refine (h2 i u l[i] hu (by simp[hi])).flat ?_
     simp only[AV.cells,List.all_eq_true] at hf;exact hf _ (List.getElem_mem hi)
 . have ha:a.cells=[a]:=by cases a <;> first|rfl|exact absurd ⟨_,rfl⟩ hagg
   have hfl:a.flat=true:=by rw[ha] at hf;simpa using hf
   have hvf:=h.flat hfl;have hv:v.cells=#[v]:=by cases v <;> first|rfl|cases hvf
   rw[ha,hv];refine⟨rfl,fun i u x hu hx=>?_,fun i u hu=>?_⟩
   . cases i with
     | zero=>simp at hu hx;subst hu;subst hx;exact h
     | succ i=>simp at hu
   . cases i with
     | zero=>simp at hu;subst hu;exact hvf
     | succ i=>simp at hu
def bt (l:List AV) (off:Nat) (c:List AV):List AV:=l.take off ++ c ++ l.drop (off+c.length)
def mH (i:TI) (σ:aa) (p v:AV):Option aa:=
 match p with
 | .ref b off=>match σ b with
   | some (.cells l)=>if v.cells.length=i.size∧off+i.size≤l.length∧v.cells.all AV.flat=true then some (σ.set b (.cells (bt l off v.cells))) else none
   | _=>none
 | _=>none
section
variable {P:Program} (L:iB P) {k:ag} {O:ah} {Kp:Value->ag->ah->Prop}
theorem lc {K:Unit->ag->ah->Prop} {b off:Nat} {e:TypeId}:∀ (vs:List Value) (i:Nat) (c:Array Value) (O:ah),O b=some (.obj (.cells c e (0,0)))->off+i+vs.length≤c.size->(∀ v∈vs,flat v=true) ->
 (∀ (O':ah) (c':Array Value),O'=O.set b (.obj (.cells c' e (0,0)))->c'.size=c.size->(∀ j,c'[j]? = if off+i≤j∧j<off+i+vs.length then vs[j-(off+i)]? else c[j]?)->K () k O') ->
 dm P (storeCells ⟨b,off,none⟩ vs i) k O K Kp:=by
 intro vs
 induction vs with
 | nil=>
   intro i c O ho hlen hf h;refine ai (h O c ?_ rfl fun j=>?_)
   . funext x
     by_cases hx:x=b
     . subst hx;simp[ah.set,ho]
     . simp[ah.set,hx]
   . have : ¬ (off+i≤j∧j<off+i+([]:List Value).length):=by simp
     rw[if_neg this]
 | cons v vs ih=>
   intro i c O ho hlen hf h;simp only[List.length_cons] at hlen;unfold storeCells;rw[eF];refine af (s:=store ⟨b,off+i,none⟩ v) ⟨rfl,hf v (by simp),rfl,.inl ⟨c,e,ho,by simp;omega,?_⟩⟩
   refine ih (i+1) (c.setIfInBounds (off+i) v) _ (by simp[ah.set]) (by simp;omega) (fun u hu=>hf u (by simp[hu])) fun O' c' hO hsz hc=>?_
   refine h O' c' ?_ (by simpa using hsz) fun j=>?_
   . rw[hO];funext x;by_cases hx:x=b <;> simp[ah.set,hx]
   . rw [hc j]
     by_cases h1:j=off+i
     . subst h1
       have : ¬ (off+(i+1)≤off+i∧off+i<off+(i+1)+vs.length):=by omega
       rw[if_neg this,if_pos (by simp)]
       have hlt:off+i<c.size:=by omega
       simp[hlt]
     . rw[Array.getElem?_setIfInBounds_ne (Ne.symm h1)]
       by_cases h2:off+(i+1)≤j∧j<off+(i+1)+vs.length
       . rw[if_pos h2,if_pos (by simp;omega)]
         have:j-(off+i)=(j-(off+(i+1)))+1:=by omega
         rw[this,List.getElem?_cons_succ]
       . rw[if_neg h2,if_neg (by simp;omega)]
theorem qC {l c:List AV} {off:Nat} (h:off+c.length≤l.length) (j:Nat):(bt l off c)[j]? = if off≤j∧j<off+c.length then c[j-off]? else l[j]?:=by
 unfold bt;have hl:(l.take off).length=off:=by simp;omega
 by_cases h1:j<off
 . rw[List.append_assoc,List.getElem?_append_left (by omega),if_neg (by omega),List.getElem?_take,if_pos h1]
 . rw[List.append_assoc,List.getElem?_append_right (by omega),hl]
   by_cases h2:j<off+c.length
   . rw[List.getElem?_append_left (by omega),if_pos (by omega)]
   . rw[List.getElem?_append_right (by omega),if_neg (by omega),List.getElem?_drop]
     congr 1;omega
theorem jJ {l c:List AV} {off:Nat} (h:off+c.length≤l.length):(bt l off c).length=l.length:=by
 unfold bt;simp;omega
theorem uw {K:Unit->ag->ah->Prop} {σ σ':aa} {p a:AV} {v:Value} {ad:Addr} {t:Nat} {i:TI} (hr:Rel k O σ) (hp:V k (.pointer (some ad)) p) (hv:V k v a) (ht:L.tt t=some i) (hs:mH i σ p a=some σ')
 (hK:∀ O',Rel k O' σ'->K () k O'):dm P (storeVar t ad v) k O K Kp:=by
 unfold mH at hs;cases p <;> simp only[] at hs <;> try cases hs
 rename_i b off;cases hp;cases hb:σ b with
 | none=>rw[hb] at hs;cases hs
 | some x=>
   rw[hb] at hs;cases x with
   | cells l =>
     simp only[] at hs;split at hs
     . next hcond=>
       obtain⟨h1,h2,h3⟩:=hcond;simp only[Option.some.injEq] at hs;subst hs;obtain⟨y,ho,hy⟩:=hr.1 b _ hb (by simp)
       cases hy with
       | cells c e l g1 g2 g3=>
         obtain⟨q1,q2,q3⟩:=hv.cells h3;unfold storeVar;refine af (bs L ht ?_);have hsz : ¬ v.cells.size≠i.size:=by rw[q1,h1];simp
         simp only[if_neg hsz];refine af (ai ?_)
         refine lc v.cells.toList 0 c O ho (by simp only[Array.length_toList];omega) (fun u hu=>by
          obtain⟨j,hj,rfl⟩:=List.mem_iff_getElem.1 hu;exact q3 j _ (by simp at hj;simp[hj])) fun O' c' hO hc1 hc2=>?_
         subst hO;have hlen:off+a.cells.length≤l.length:=by omega
         refine hK _ (hr.set (.cells c' e _ (by rw[hc1,jJ hlen];exact g1) (fun j u x hu hx=>?_) fun j u hu=>?_))
         . rw[hc2] at hu
           rw[qC hlen] at hx;simp only[Nat.add_zero,Array.length_toList,q1] at hu
           by_cases hj:off≤j∧j<off+a.cells.length
           . rw[if_pos hj] at hu hx
             exact q2 _ u x (by simpa using hu) hx
           . rw[if_neg hj] at hu hx
             exact g2 j u x hu hx
         . rw[hc2] at hu
           split at hu
           . exact q3 _ u (by simpa using hu)
           . exact g3 j u hu
     . cases hs
   | _=>cases hs
theorem vP {σ:aa} {p:AV} {ad:Addr} {i:TI} {a:AV} (hr:Rel k O σ) (hp:V k (.pointer (some ad)) p) (hs:kQ i σ p=some a):∃ b base off l,ad=⟨b,base+off,none⟩∧m9 k O b base l∧bC l off i.size i.agg=some a:=by
 unfold kQ at hs;cases p <;> simp only[] at hs <;> try cases hs
 . rename_i v off
   cases hp with
   | cp b base off N E v c _ _ h1 h2=>exact⟨b,base,off,v.cells,rfl,.known h1 h2,hs⟩
 . rename_i b l hole off
   cases hp with
   | kp _ _ N E _ _ c _ _ h1 h2=>
     unfold FJ at hs;split at hs
     . next hagg=>
       split at hs
       . next hc=>
         simp only[Option.some.injEq] at hs;subst hs;have hlen:((l.drop off).take i.size).length=i.size:=by simp;omega
         refine⟨b,off,0,(l.drop off).take i.size,by simp,fun j a ha=>?_,by simp[bC,hagg,hlen,List.take_take]⟩
         have hj:j<i.size:=by rw[← hlen];exact (List.getElem?_eq_some_iff.1 ha).1
         have ha':l[off+j]? = some a:=by
          rw[List.getElem?_take,if_pos hj,List.getElem?_drop] at ha;exact ha
         have hno:off+j ∉ hole:=fun hh=>by
          have:=List.all_eq_true.1 hc.2 _ hh;simp at this;omega
         obtain⟨e1,e2⟩:=h1 (off+j) (List.getElem?_eq_some_iff.1 ha').1 hno;exact⟨c (off+j),⟨rfl,.inl e1⟩,h2 _ a hno ha',e2⟩
       . cases hs
     . next hagg=>
       split at hs
       . cases hs
       . next hc=>
         have hno:off ∉ hole:=by simpa using hc
         refine⟨b,off,0,[a],by simp,fun j y hy=>?_,by simp[bC,hagg]⟩
         match j with
         | 0=>
           simp at hy;subst hy;obtain⟨e1,e2⟩:=h1 off (List.getElem?_eq_some_iff.1 hs).1 hno;exact⟨c off,⟨rfl,.inl e1⟩,h2 _ _ hno hs,e2⟩
         | j+1=>simp at hy
 . rename_i b off
   cases hp;cases hb:σ b with
   | none=>rw[hb] at hs;cases hs
   | some x=>
     rw[hb] at hs;cases x with
     | cells l=>
       obtain⟨y,ho,hy⟩:=hr.1 b _ hb (by simp)
       cases hy with
       | cells c e l g1 g2 g3=>exact⟨b,0,off,l,by simp,.own ho g1 g2 g3,hs⟩
     | _=>cases hs
end
theorem V.Cm {k:ag} {v:Value} {p:AV} (h:V k v p) (hp:(∃ x off,p = .cp x off)∨(∃ b off,p = .ref b off)∨∃ b l hole off,p = .kp b l hole off):∃ ad,v = .pointer (some ad):=by
 rcases hp with ⟨x,off,rfl⟩|⟨b,off,rfl⟩|⟨b,l,hole,off,rfl⟩ <;> cases h <;> exact⟨_,rfl⟩
theorem sT {i:TI} {σ:aa} {p a:AV} (h:kQ i σ p=some a):(∃ x off,p = .cp x off)∨(∃ b off,p = .ref b off)∨∃ b l hole off,p = .kp b l hole off:=by
 cases p <;> first|exact .inl ⟨_,_,rfl⟩|exact .inr (.inl ⟨_,_,rfl⟩) | exact .inr (.inr ⟨_,_,_,_,rfl⟩) | cases h
theorem xS {i:TI} {σ σ':aa} {p a:AV} (h:mH i σ p a=some σ'):(∃ x off,p = .cp x off)∨(∃ b off,p = .ref b off)∨∃ b l hole off,p = .kp b l hole off:=by
 cases p <;> first|exact .inl ⟨_,_,rfl⟩|exact .inr (.inl ⟨_,_,rfl⟩) | cases h
section
variable {P:Program} (L:iB P) {o:Oper} {env:Env} {σ:aa} {K:AV->aa->Prop} {Kp:AV->aa->Prop}
theorem aE.val {s:(Operand->Value)->Sem Value} (he:∀ ρ,execOp ρ o=(do pure (.value (← s ρ))))
 (h:∀ k O (ρ:Operand->Value),(∀ x∈o.op.operands,V k (ρ x) (am env x))->Rel k O σ ->
   dm P (s ρ) k O (fun v k' O'=>jU k' O' fun k2 O2=>k.Le k2∧∃ a σ',V k2 v a∧Rel k2 O2 σ'∧K a σ') (fun v k' O'=>k.Le k'∧∃ a σ',V k' v a∧Rel k' O' σ'∧Kp a σ')):aE P o env σ K Kp:=fun k O ρ hv hr=>by
 rw[he];refine af (jT _ (h k O ρ hv hr) (fun v k' O' hh=>?_) (fun v k' O' hh=>hh))
 exact ai ⟨v,.inl rfl,hh⟩
theorem qg {x:Operand} (ho:o.op = .move x∨o.op = .assign x) (hK:K (am env x) σ):aE P o env σ K Kp:=fun k O ρ hv hr=>by
 have:execOp ρ o=pure (.value (ρ x)):=by rcases ho with ho|ho <;> simp[execOp,ho]
 rw[this];refine ai ⟨ρ x,.inl rfl,.here ⟨.refl k,_,_,hv x ?_,hr,hK⟩⟩
 rcases ho with ho|ho <;> simp[ho,Op.operands]
theorem zd {c a b:Operand} {x:Bool} (ho:o.op = .pick c a b) (hc:am env c = .lit (.bool x)) (hK:K (if x then am env a else am env b) σ):aE P o env σ K Kp:=fun k O ρ hv hr=>by
 have h1:=hv c (by simp[ho,Op.operands])
 have h2:=hv a (by simp[ho,Op.operands])
 have h3:=hv b (by simp[ho,Op.operands])
 rw[hc] at h1;generalize hq:ρ c=v at h1;cases h1;have:execOp ρ o=pure (.value (if x then ρ a else ρ b)):=by simp[execOp,ho,hq,asBool]
 rw[this];refine ai ⟨_,.inl rfl,.here ⟨.refl k,_,_,?_,hr,hK⟩⟩;cases x <;> simp[h2,h3]
theorem ux {t:Nat} {p:Operand} {i:TI} {a:AV} (ho:o.op = .load t p) (ht:L.tt t=some i) (hl:kQ i σ (am env p)=some a) (hK:K a σ):aE P o env σ K Kp:=
 aE.val (s:=fun ρ=>Instr.loadAt t (ρ p)) (fun ρ=>by simp[execOp,ho]) fun k O ρ hv hr=>by
  have hp:=hv p (by simp[ho,Op.operands])
  obtain⟨ad,e⟩:=hp.Cm (sT hl);rw[e] at hp;obtain⟨b,base,off,l,rfl,hrow,hs⟩:=vP hr hp hl;simp only[Instr.loadAt,e,Instr.sureAddr];exact af (ai (pr L hrow ht hs fun v hv => .here ⟨.refl k,a,σ,hv,hr,hK⟩))
theorem vQ {t:Nat} {p x:Operand} {i:TI} {σ':aa} (ho:o.op = .store t p x) (ht:L.tt t=some i) (hs:mH i σ (am env p) (am env x)=some σ') (hK:K (.lit undef) σ'):aE P o env σ K Kp:=fun k O ρ hv hr=>by
 have hp:=hv p (by simp[ho,Op.operands])
 have hx:=hv x (by simp[ho,Op.operands])
 obtain⟨ad,e⟩:=hp.Cm (xS hs);rw[e] at hp;have:execOp ρ o=(do storeVar t ad (ρ x);pure .skip):=by simp[execOp,ho,Instr.storeAt,e,Instr.sureAddr]
 rw[this];exact af (uw L hr hp hx ht hs fun O' hr'=>ai ⟨undef,.inr ⟨rfl,rfl⟩,.here ⟨.refl k,.lit undef,σ',.lit _,hr',hK⟩⟩)
end
end Go.aZ
