/- Part 18 of the proof. -/
import Derived.Conc.CrowdComm
import Derived.Test.YtelgggdkahhhfaaGreatDoorC17
set_option linter.all false
namespace Go.aZ
open Go.Conc
open Go.ConcN (sumTo upd sumTo_upd upd_ne upd_same)
structure cC where
 b:Nat
 n:Nat
 cF:Nat
 fb:Nat
 fo:Nat
 gb:Nat
 mb:Nat
 GI:iH->Prop
 res:Nat->AV
 nm:tl
 ng:Ce
 hb:0<b
 hn:n≤900
 d1:cF≠fb
 d2:cF≠gb
 d3:cF≠mb
 d4:fb≠gb
 d5:fb≠mb
 d6:gb≠mb
def fI:ag->ah->Goroutine->Prop:=fun _ _ _=>False
def nJ:Nat->Option Value:=fun _=>none
def bc (fo:Nat):Nat->Option Value:=fun i=>if i=fo then some (.int .i32 0) else if i=fo+1 then some (.int .u32 0) else none
section
variable (P:Program) (A:cC) (Fin:ag->ah->Goroutine->Prop)
def Hm (k:ag) (O:ah) (g:Goroutine) (N:ag->ah->Goroutine->Prop):Prop:=
 ∃ kind c rest e,kind ≠ .early∧g=G (Frame.enter P A.nm.lock #[.pointer (some ⟨A.fb,A.fo,none⟩)] kind) (c :: rest)∧O A.fb=none∧k.sh A.fb=some e ∧
   ∀ k' x a,k.Le k'->jo k' x a->A.GI a->O A.mb=none->N k' ((O.set A.mb x).set A.fb (.part nJ)) (ip kind c rest (.tuple #[]))
def zF (k:ag) (O:ah) (g:Goroutine) (N:ag->ah->Goroutine->Prop):Prop:=
 ∃ kind c rest f x a,kind ≠ .early∧g=G (Frame.enter P A.nm.unlock #[.pointer (some ⟨A.fb,A.fo,none⟩)] kind) (c :: rest)∧O A.fb=some (.part f)∧O A.mb=some x∧jo k x a∧A.GI a ∧
   N k ((O.del A.mb).del A.fb) (ip kind c rest (.tuple #[]))
def mg:Mo:=⟨false,false,fun k O g N=>N=fI∧∃ fw fn tmps todo,P.funcs[fw]? = some fn∧fn.results=#[]∧g=G (Frame.enter P A.ng.done #[.pointer (some ⟨A.gb,0,none⟩)] .deferred) [iw P fw tmps todo,bI P]⟩
def iK (j:Nat):Mo:=⟨false,false,fun k O g N=>Hm P A k O g N∨zF P A k O g N∨(N=fI∧O A.fb=none∧∃ g₂ z v,(∀ w,Sat k O w->stepG P false g w = .comm g₂ #[scase A.cF v z] true .send w #[])∧V k v (A.res j)∧T P (mg P A) fI k O (Go.Conc.served g₂ undef))⟩
def mW:Mo:=⟨false,false,fun k O g N=>N=fI∧∃ g' n,mayWake P g=true∧(∀ w s r tm,Sat k O w->w.heap[A.cF]? = some (.chan 0 #[] false s r tm)->stepG P false g w = .go g' { w with heap:=w.heap.setIfInBounds A.cF (.chan 0 #[] true s r tm) } #[⟨.obj A.cF,false,true⟩,⟨.obj A.cF,true,true⟩])∧QuitsD P n 0 g'⟩
def rk:Mo:=⟨false,false,fun k O g N=>N=fI∧∃ c rest,g=G (Frame.enter P A.ng.wait #[.pointer (some ⟨A.gb,0,none⟩)] .normal) (c :: rest)∧∀ k',k.Le k'->T P (mW P A) fI k' O (ip .normal c rest (.tuple #[]))⟩
def cd (k:ag) (O:ah) (g g₂:Goroutine) (z:Value):Prop := ∀ w,Sat k O w->stepG P true g w = .comm g₂ #[rcase A.cF z] true (.recv true) w #[]
def mz:Nat->List Nat->Mo
 | 0,R=>⟨true,false,fun k O g N=>N=fI∧∃ g₂ z,cd P A k O g g₂ z∧cd P A k O g₂ g₂ z∧g₂.status = .running∧(∃ e,k.sh A.fb=some e) ∧
    ∀ k' x a,k.Le k'->jo k' x a->A.GI a->Fin k' ((O.set A.mb x).set A.fb (.part (bc A.fo))) (Go.Conc.served g₂ (.tuple #[z,.bool false]))⟩
 | m + 1,R=>⟨true,false,fun k O g N=>N=fI∧∃ g₂ z,cd P A k O g g₂ z∧cd P A k O g₂ g₂ z∧g₂.status = .running ∧
     ∀ j∈R,∀ k' v,k.Le k'->V k' v (A.res j)->T P (mz m (R.erase j)) fI k' O (Go.Conc.served g₂ (.tuple #[v,.bool true]))⟩
def tv:Nat->Mo
 | 0=>⟨true,false,fun k O g N=>N=fI∧∃ g' child,(∀ w,Sat k O w->stepG P true g w = .spawn g' child w #[])∧T P (rk P A) fI k ah.bot child∧T P (mz P A Fin A.n (List.range A.n)) fI k O g'⟩
 | m + 1=>⟨true,false,fun k O g N=>N=fI∧∃ c rest,g=G (Frame.enter P A.ng.add #[.pointer (some ⟨A.gb,0,none⟩),.int .i64 1] .normal) (c :: rest) ∧
     T P ⟨true,false,fun k O g N=>N=fI∧∃ g' child,(∀ w,Sat k O w->stepG P true g w = .spawn g' child w #[])∧T P (iK P A (A.n-(m+1))) fI k ah.bot child∧T P (tv m) fI k O g'⟩ fI k O (ip .normal c rest (.tuple #[]))⟩
def zI (m:Nat):Mo:=⟨true,false,fun k O g N=>N=fI∧∃ g' child,(∀ w,Sat k O w->stepG P true g w = .spawn g' child w #[])∧T P (iK P A (A.n-(m+1))) fI k ah.bot child∧T P (tv P A Fin m) fI k O g'⟩
structure rl where
 m:Mo
 k:ag
 O:ah
 g:Goroutine
 N:ag->ah->Goroutine->Prop
 h0:g.status = .running
 ht:m.bV k O g N
 c:∀ k' O' g',N k' O' g'->TT P m k' O' g'
variable {P} in
def rl.node (y:rl P):Node P:=⟨y.m,y.k,y.O,y.g,.bV y.N y.h0 y.ht y.c⟩
inductive aM where
 | idle
 | run (h:Bool) (X:Node P)
 | lk (p:nE) (Y:rl P)
 | un (p:nE) (Y:rl P)
 | wait
 | tw
 | dn (p:qk)
 | gone
inductive gl where
 | none|cT|wt (p:qk) | ia|gone
inductive kX where
 | add (j:Nat) | aS (j:Nat) (p:qk) | spawn (j:Nat) | recv|parked
structure MS where
 ms:kX
 sp:Nat
 w:Nat->aM P
 c:gl
 sh:Mu.Sh
 gc:Nat
 gv:Nat
 gm:Nat
def nE.abs:nE->Mu.Pc
 | .ld => .out | .er => .er | .rd l => .rd l | .sq o l => .sq o l | .sw o l => .sw o l | .im o l => .im o l | .t1 sv => .dM sv | .dM sv => .dM sv | .tq => .tq | .up sv => .up sv | .add o sv => .add o sv
 | .le => .held | .la => .held | .back => .held | .zq => .held | .ur => .held | .ud => .held | .held => .held | .fG o => .fG o | .qa => .qa | .give => .give | .ue => .out | .wo => .out
variable {P}
def aM.pc:aM P->Mu.Pc
 | .run true _ => .held
 | .lk p _=>p.abs
 | .un p _=>p.abs
 | _ => .out
def aM.owns:aM P->Bool
 | .run h _=>h
 | .un .zq _=>true
 | .un .ur _=>true
 | _=>false
def wq:nE->Bool
 | .ld=>true | .er=>true | .rd _=>true | .sq .. => true | .sw .. => true | .im .. => true | .t1 _=>true | .dM _=>true | .tq=>true | .up _=>true | .add .. => true | .le=>true | .la=>true
 | _=>false
def sF:nE->Bool
 | .zq=>true | .ur=>true | .ud=>true | .held=>true | .fG _=>true | .qa=>true | .give=>true | .ue=>true
 | _=>false
def aM.deaf:aM P->Nat
 | .lk .ld _=>0 | .lk .la _=>0 | .lk _ _=>1
 | .un .zq _=>0 | .un .ur _=>0 | .un .ud _=>0 | .un _ _=>1
 | .dn .d1=>0 | .dn .d2=>0 | .dn _=>1
 | _=>0
def pM:qk->Nat
 | .a0=>0 | .a2=>1 | .a4=>1 | .ae=>1
 | .w0=>0 | .w1=>1 | .we=>1 | .wa=>0 | .w2 _=>1 | .w3=>1 | .w4=>1 | .w5=>1
 | _=>0
def aM.bw:aM P->Nat
 | .idle=>0 | .run .. => 20 | .lk .. => 20 | .un .. => 20 | .wait=>19 | .tw=>18
 | .dn .d1=>12 | .dn .d2=>11 | .dn .d4=>10 | .dn .d5=>4 | .dn .d6=>3 | .dn _=>2 | .gone=>0
def gl.bw (gc:Nat):gl->Nat
 | .none=>0 | .cT=>14
 | .wt .w0=>13 | .wt .w1=>10 | .wt (.w2 k)=>if gc=k then 9 else 11 | .wt .w3=>8 | .wt .w4=>7 | .wt .w5=>6 | .wt .we=>5 | .wt _=>4
 | .ia=>3 | .gone=>0
def kX.bw:kX->Nat
 | .add j=>40*j+200 | .aS j .a0=>40*j+199 | .aS j .a2=>40*j+198 | .aS j .a4=>40*j+197 | .aS j _=>40*j+196
 | .spawn j=>40*j+225 | .recv=>100 | .parked=>99
def MS.bw (n:Nat) (s:MS P):Nat:=s.ms.bw+sumTo n (fun j=>(s.w j).bw)+s.c.bw s.gc
def uY (n:Nat):Nat:=4*(6*(18*n+1)+16)+20
def aM.ex (n:Nat):aM P->Nat
 | .run .. => 2*uY n | .lk .ld _=>uY n | .lk (.t1 _) _=>1 | .lk .le _=>2 | .lk .la _=>1
 | .un .zq _=>5 | .un .ur _=>4 | .un .ud _=>3 | .un .ue _=>1|_=>0
def MS.inner (n:Nat) (s:MS P):Nat:=4*Mu.meas n (fun j=>(s.w j).pc) s.sh+sumTo n (fun j=>(s.w j).ex n)
def aM.nd:aM P->Option (Node P)
 | .run _ X=>some X | .lk _ Y=>some Y.node | .un _ Y=>some Y.node|_=>none
end
def Ay {P:Program} (a b:Option (Node P)):Prop := ∃ x y,a=some x∧b=some y∧Relation.TransGen kW x y
theorem C9 {P:Program}:∀ a:Option (Node P),Acc Ay a:=by
 have key:∀ x:Node P,Acc (Relation.TransGen kW) x->Acc Ay (some x):=by
  intro x hx
  induction hx with
  | intro x _ ih=>exact⟨_,fun y ⟨u,v,e1,e2,h⟩=>by subst e1;cases e2;exact ih u h⟩
 intro a;cases a with
 | none=>exact⟨_,fun y ⟨u,v,_,e,_⟩=>by cases e⟩
 | some x=>exact key x ((WellFounded.intro wh).transGen.apply x)
def C' {α:Type} (R:α->α->Prop) (n:Nat) (f' f:Nat->α):Prop := ∃ i,i<n∧(∀ j,j≠i->f' j=f j)∧R (f' i) (f i)
theorem wu {α:Type} {R:α->α->Prop} (hR:∀ a,Acc R a):∀ (n:Nat) (f:Nat->α),Acc (C' R n) f
 | 0,f=>⟨_,fun y ⟨i,hi,_⟩=>by omega⟩
 | n + 1,f=>by
   have key:∀ x:α,Acc R x->∀ f:Nat->α,f n=x->Acc (C' R (n+1)) f:=by
    intro x hx
    induction hx with
    | intro x _ ihx=>
      intro f hf;have hn:=wu hR n f
      induction hn with
      | intro f _ ihf=>
        refine⟨_,fun f' ⟨i,hi,hne,hs⟩=>?_⟩
        by_cases hin:i=n
        . subst hin
          rw[hf] at hs;exact ihx (f' i) hs f' rfl
        . exact ihf f' ⟨i,by omega,hne,hs⟩ (by rw[hne n (fun e=>hin e.symm)];exact hf)
   exact key (f n) (hR _) f rfl
def MS.dR {P:Program} (n:Nat) (s' s:MS P):Prop:=
 s'.bw n<s.bw n∨(s'.bw n=s.bw n∧(C' Ay n (fun j=>(s'.w j).nd) (fun j=>(s.w j).nd)∨((fun j=>(s'.w j).nd)=(fun j=>(s.w j).nd)∧s'.inner n<s.inner n)))
theorem Ga {P:Program} (n:Nat):WellFounded (MS.dR (P:=P) n):=by
 have h1:WellFounded (C' (Ay (P:=P)) n):=⟨wu C9 n⟩;have h2:=(Prod.lex ⟨Nat.lt,Nat.lt_wfRel.wf⟩ (Prod.lex ⟨C' (Ay (P:=P)) n,h1⟩ ⟨Nat.lt,Nat.lt_wfRel.wf⟩)).wf;refine Subrelation.wf (r:=InvImage _ (fun s:MS P=>(s.bw n,(fun j=>(s.w j).nd),s.inner n))) ?_ (InvImage.wf _ h2)
 intro s' s h
 rcases h with h|⟨h,h'|⟨h',h''⟩⟩
 . exact Prod.Lex.left _ _ h
 . show Prod.Lex _ _ (_,_) (_,_)
   rw[h];exact Prod.Lex.right _ (Prod.Lex.left _ _ h')
 . show Prod.Lex _ _ (_,_) (_,_)
   rw[h,h'];exact Prod.Lex.right _ (Prod.Lex.right _ h'')
end Go.aZ
namespace Go.aZ
open Go.Conc
open Go.ConcN (sumTo upd sumTo_upd upd_ne upd_same)
section
variable {P:Program}
def aM.ez:aM P->Bool
 | .tw=>true | .dn _=>true | .gone=>true|_=>false
def aM.cnt:aM P->Nat
 | .run .. => 1 | .lk .. => 1 | .un .. => 1 | .wait=>1 | .tw=>1 | .dn .d1=>1 | .dn .d2=>1 | .dn .d4=>1|_=>0
def aM.busy:aM P->Bool
 | .run .. => true | .lk .. => true | .un .. => true | .wait=>true | .tw=>true | .dn .d1=>true|_=>false
def aM.last:aM P->Bool
 | .dn .d5=>true | .dn .d6=>true | .dn .d7=>true|_=>false
def aM.fS:aM P->Bool
 | .idle=>true|_=>false
def aM.ok:aM P->Bool
 | .lk p _=>wq p
 | .un p _=>sF p
 | .dn p=>(match p with | .d1=>true | .d2=>true | .d4=>true | .d5=>true | .d6=>true | .d7=>true|_=>false)
 | _=>true
def gl.busy:gl->Bool
 | .cT=>true | .wt _=>true | .ia=>true|_=>false
def gl.ok:gl->Bool
 | .wt p=>(match p with | .w0=>true | .w1=>true | .w2 _=>true | .w3=>true | .w4=>true | .w5=>true | .we=>true | .wa=>true|_=>false)
 | _=>true
def gl.waits:gl->Bool
 | .wt .w3=>true | .wt .w4=>true|_=>false
def gl.Da:gl->Bool
 | .wt .w5=>true | .wt .we=>true | .wt .wa=>true | .ia=>true | .gone=>true|_=>false
def gl.isNone:gl->Bool
 | .none=>true|_=>false
def gl.cG:gl->Bool
 | .gone=>true|_=>false
def kX.pend:kX->Nat
 | .aS _ .a4=>1 | .aS _ .ae=>1 | .spawn _=>1|_=>0
structure bd (n:Nat) (s:MS P):Prop where
 g1:s.gc=sumTo n (fun j=>(s.w j).cnt)+s.ms.pend
 g2:s.gv≤1
 xK:s.gv=1->s.c.waits=true∧s.gm=0
 g3:∀ j,j<n->(s.w j = .dn .d5∨s.w j = .dn .d6)->s.gv=1∧s.gc=0
 xL:∀ i j,i<n->j<n->(s.w i).last=true->(s.w j).last=true->i=j
 g4:∀ j,j<n->s.w j = .dn .d7->s.gv=0∧s.gc=0∧s.gm=0∧s.c.waits=true
 g5:s.gm≤1∧(s.gm=1->s.c.waits=true∧s.gv=0∧s.gc=0∧∀ j,j<n->(s.w j).last=false)
 g6:s.c.waits=true->s.gv=0->s.gm=0->∃ j,j<n∧s.w j = .dn .d7
 g7:s.gv=1->s.gc=0->∃ j,j<n∧(s.w j = .dn .d5∨s.w j = .dn .d6)
 g8:s.c.Da=true->s.gc=0∧s.gv=0∧s.gm=0∧∀ j,j<n->s.w j = .gone
 g9:∀ k,s.c = .wt (.w2 k)->k≠0
 ok:∀ j,j<n->(s.w j).ok=true
 HV:s.c.ok=true
 sp:s.sp≤n
 idle:∀ j,j<n->((s.w j).fS=true ↔ s.sp≤j)
 ms:match s.ms with
  | .add j=>s.sp+j=n∧s.c = .none
  | .aS j p=>s.sp+j=n∧s.c = .none∧1≤j∧(p = .a0∨p = .a2∨p = .a4∨p = .ae)
  | .spawn j=>s.sp+j+1=n∧s.c = .none
  | .recv=>s.sp=n∧s.c ≠ .none
  | .parked=>s.sp=n∧s.c ≠ .none∧s.c ≠ .gone∧∀ j,j<n->s.w j ≠ .wait
 early:s.c = .none->∀ j,j<n->(s.w j).ez=false
 mu:Mu.Inv n (fun j=>(s.w j).pc) s.sh
end
variable (P:Program) (A:cC) (Fin:ag->ah->Goroutine->Prop)
def MS.rem (n:Nat) (s:MS P):List Nat:=(List.range n).filter fun j => !(s.w j).ez
def bW (s:MS P) (i:Nat):Prop:=(i=0∧(match s.ms with | .add _=>True | .spawn _=>True | .recv=>True|_=>False))∨(∃ j,j<A.n∧i=A.b+j∧(match s.w j with | .run .. => True | .tw=>True|_=>False))∨(i=A.b+A.n∧(match s.c with | .cT=>True | .ia=>True|_=>False))
def di (s:MS P) (i:Nat):Prop:=(i=0∧(match s.ms with | .aS .. => True|_=>False))∨(∃ j,j<A.n∧i=A.b+j∧(match s.w j with | .lk .. => True | .un .. => True | .dn _=>True|_=>False))∨(i=A.b+A.n∧(match s.c with | .wt _=>True|_=>False))
def cL (s:MS P) (i:Nat):Prop:=(i=0∧s.ms = .parked)∨(∃ j,j<A.n∧i=A.b+j∧s.w j = .wait)
def aY (s:MS P) (i:Nat):Mo:=
 if i=0 then (match s.ms with | .add j=>tv P A Fin j | .spawn j=>zI P A Fin j|_=>mz P A Fin (MS.rem P A.n s).length (MS.rem P A.n s))
 else if i<A.b+A.n then (match s.w (i-A.b) with | .run .. => iK P A (i-A.b) | _=>mg P A) else (match s.c with | .cT=>rk P A|_=>mW P A)
theorem yk (s:MS P) (i:Nat):(aY P A Fin s i).main=(i == 0):=by
 have hR:∀ m R,(mz P A Fin m R).main=true:=fun m R=>by cases m <;> rfl
 have hA:∀ m,(tv P A Fin m).main=true:=fun m=>by cases m <;> rfl
 unfold aY
 by_cases hi:i=0
 . subst hi
   simp only[if_true,beq_self_eq_true];split
   . exact hA _
   . rfl
   . exact hR _ _
 . have:(i == 0)=false:=by simpa using hi
   rw[if_neg hi,this];split
   . split <;> rfl
   . split <;> rfl
def Az (j:Nat) (x:aM P) (k:ag) (O:ah) (g:Goroutine):Prop:=
 match x with
 | .lk p Y => ∃ kind c rest e,kind ≠ .early∧kq P A.nm A.fb A.fo kind p (c :: rest) g∧Y.m=iK P A j∧O A.fb=none∧k.sh A.fb=some e∧∀ k' x a,k.Le k'->jo k' x a->A.GI a->O A.mb=none->Y.N k' ((O.set A.mb x).set A.fb (.part nJ)) (ip kind c rest (.tuple #[]))
 | .un p Y => ∃ kind c rest,kind ≠ .early∧kq P A.nm A.fb A.fo kind p (c :: rest) g∧Y.m=iK P A j ∧
    ((p = .zq∨p = .ur)->∃ f x a,O A.fb=some (.part f)∧O A.mb=some x∧jo k x a∧A.GI a∧Y.N k ((O.del A.mb).del A.fb) (ip kind c rest (.tuple #[]))) ∧
    (¬ (p = .zq∨p = .ur)->Y.N k O (ip kind c rest (.tuple #[])))
 | .dn p => ∃ fw fn tmps todo,P.funcs[fw]? = some fn∧fn.results=#[]∧mw P A.ng A.gb .deferred p [iw P fw tmps todo,bI P] g
 | _=>False
def J0 (x:gl) (k:ag) (O:ah) (g:Goroutine):Prop:=
 match x with
 | .wt p => ∃ c rest,mw P A.ng A.gb .normal p (c :: rest) g∧∀ k',k.Le k'->T P (mW P A) fI k' O (ip .normal c rest (.tuple #[]))
 | _=>False
def KV (x:kX) (k:ag) (O:ah) (g:Goroutine):Prop:=
 match x with
 | .aS j p => ∃ c rest,mw P A.ng A.gb .normal p (c :: rest) g∧T P (zI P A Fin (j-1)) fI k O (ip .normal c rest (.tuple #[]))
 | _=>False
def J1 (s:MS P) (i:Nat) (k:ag) (O:ah) (g:Goroutine):Prop:=(i=0∧KV P A Fin s.ms k O g)∨(∃ j,j<A.n∧i=A.b+j∧Az P A j (s.w j) k O g)∨(i=A.b+A.n∧J0 P A s.c k O g)
def HW (s:MS P) (i:Nat):Prop:=(∃ j sv Y,j<A.n∧i=A.b+j∧s.w j = .lk (.dM sv) Y∧s.sh.ms=0)∨(i=A.b+A.n∧s.c = .wt .w4∧s.gm=0)
def LL (s:MS P) (i:Nat) (k:ag) (O:ah) (g:Goroutine):Prop:=
 (i=0∧∃ g₂ z,g=parked g₂ #[rcase A.cF z] (.recv true)∧cd P A k O g₂ g₂ z∧g₂.status = .running∧(mz P A Fin (MS.rem P A.n s).length (MS.rem P A.n s)).bV k O g₂ fI) ∨
 (∃ j,j<A.n∧i=A.b+j∧∃ g₂ z v,g=parked g₂ #[scase A.cF v z] .send∧V k v (A.res j)∧O A.fb=none∧T P (mg P A) fI k O (Go.Conc.served g₂ undef))
def bF (s:MS P) (i:Nat):Nat:=
 if i=0 then (match s.ms with | .aS _ p=>pM p|_=>0)
 else if i<A.b+A.n then (s.w (i-A.b)).deaf else (match s.c with | .wt p=>pM p|_=>0)
def iV (w:World):Prop:=(∃ v,w.cell? ⟨A.gb,0,none⟩=some v)∧(∃ v,w.cell? ⟨A.gb,1,none⟩=some v)∧∃ v,w.cell? ⟨A.fb,A.fo,none⟩=some v
def Db (A:cC):Loc->Prop
 | .cell a=>a.spot=none∧((a.block=A.fb∧(a.off=A.fo∨a.off=A.fo+1))∨(a.block=A.gb∧(a.off=0∨a.off=1)))
 | .obj r=>r=A.cF
 | _=>False
def dk (s:MS P) (i:Nat):Prop:=(∃ j,j<A.n∧i=A.b+j∧(s.w j).busy=true)∨(i=A.b+A.n∧s.c.busy=true)
def be (s:MS P) (i:Nat):Prop:=i=0∨(∃ j,j<s.sp∧i=A.b+j)∨(i=A.b+A.n∧s.c ≠ .none)
structure bO (Z:Base) (s:MS P) (kk:Nat->ag) (OO:Nat->ah) (J M:Nat->Prop) (gsz:Nat) (w:World) (t:Trace):Prop where
 I:bd A.n s
 size:gsz=A.b+s.sp+(if s.c.isNone then 0 else 1)
 sf:∃ x tm,w.heap[A.cF]? = some (.chan 0 #[] s.c.cG x x tm)
 mu:ShM A.fb A.fo w s.sh
 gr:mr A.gb w s.gc s.gv s.gm
 pN:∃ c e,w.heap[A.fb]? = some (.cells c e (0,0))
 sG:∃ c e,w.heap[A.gb]? = some (.cells c e (0,0))
 dA:∀ i,OO i A.cF=none∧OO i A.gb=none
 cx:∀ i,(kk i).cell A.fb A.fo=none∧(kk i).cell A.fb (A.fo+1)=none∧(kk i).cell A.gb 0=none∧(kk i).cell A.gb 1=none
 tok:∀ i x,OO i A.fb=some x->∃ j f,j<A.n∧i=A.b+j∧(s.w j).owns=true∧x = .part f∧∀ l,f l=none
 rm:∀ j,j<A.n->(s.w j).owns=true->OO (A.b+j) A.fb≠none
 Dc:(∀ j,j<A.n->(s.w j).owns=false)->∃ x a,OO Z.lk A.mb=some x∧jo (kk Z.lk) x a∧A.GI a
 Cf:∀ c,OO Z.lk c≠none->c=A.mb∧∀ j,j<A.n->(s.w j).owns=false
 hJ:∀ i,J i ↔ dk P A s i
 hM:∀ p,M p->t.heard p∧Z.N0≤p∧((t.act? p=some (.mark (.releaseMerge ⟨A.gb,0,none⟩))∧(s.c = .none∨s.c = .cT∨∃ q,s.c = .wt q))∨(s.c = .gone∧t.act? p=some (.close A.cF)))
 shut:s.c = .gone->∃ p,M p∧t.act? p=some (.close A.cF)∧t.heard p
 quiet:∀ m a,touchAt t m=some a->Db A a.loc->a.kind = .plain->∀ i,be P A s i->Knows t i m
 said:∀ m a,touchAt t m=some a->Db A a.loc->a.kind = .said->Knows t (if s.c.isNone then 0 else A.b+A.n) m
 old:∀ i,be P A s i->∀ m a,m<Z.N0->touchAt t m=some a->a.loc.isMemory=true -> ¬ Z.Shun a.loc->Knows t i m
 norel:∀ m a,Z.N0≤m->t.act? m≠some (.mark (.release a))
 wv:∀ i,i≠Z.lk -> ¬ be P A s i->kk i=ag.bot∧OO i=ah.bot
 mR:∀ a,Db A a->(∃ c,a = .cell c∧c.block=A.gb)->Z.Shun a
 gJ:∀ c:Addr,c.block=A.fb∧(c.off=A.fo∨c.off=A.fo+1) -> ¬ Z.Shun (.cell c)
 cM:Z.W0.heap.size≤A.cF∧Z.W0.heap.size≤A.fb∧Z.W0.heap.size≤A.gb
 la:Z.la=⟨A.fb,A.fo,none⟩
 n0:Z.N0≤t.size
def Node.HX {P:Program}:Node P->Prop
 | ⟨_,_,_,_,.bV ..⟩=>True
 | _=>False
def pP {P:Program} (x X:Node P):Prop := ∀ y,(y=x∨Relation.TransGen kW y x)->y.HX->(y=X∨Relation.TransGen kW y X)
theorem pP.sub {P:Program} {x y X:Node P} (h:pP x X) (hs:kW y x):pP y X:=fun z hz ht=>h z (hz.elim (fun e => .inr (by rw[e];exact .single hs)) (fun e => .inr (e.tail hs))) ht
theorem pP.refl {P:Program} (X:Node P):pP X X:=fun y hy _=>hy
def Gb (s:MS P) (i:Nat) (x:Node P):Prop := ∀ j h X,j<A.n->i=A.b+j->s.w j = .run h X->pP x X
def bn (Z:Base) (hZ:A.b+A.n+1≤Z.lk):mp P where
 S:=MS P
 r:=MS.dR A.n
 wf:=Ga A.n
 mo:=aY P A Fin
 main:=yk P A Fin
 top:=A.b+A.n+1
 lk:=Z.lk
 JA:=hZ
 Live:=bW P A
 Walk:=di P A
 At:=J1 P A Fin
 th:=HW P A
 kA:=cL P A
 yb:=LL P A Fin
 deaf:=bF P A
 Wd:=iV A
 Ex:=bO P A Z
 FX:=Gb P A
 tie:=fun s i x y hs h j b X h1 h2 h3=>(h j b X h1 h2 h3).sub hs
end Go.aZ
namespace Go.aZ
open Go.Conc
open Go.ConcN (sumTo upd sumTo_upd upd_ne upd_same)
theorem rn {t:Trace} (u:Trace) {p:Nat} {x:MemAct} (h:t.act? p=some x) (hh:t.heard p):(t ++ u).act? p=some x∧(t ++ u).heard p:=by
 have hp:=lt_of_act? h;exact⟨by rw[act?_old hp];exact h,(heard_old hp).2 hh⟩
structure ww (b:Nat) (w w':World):Prop where
 cell:∀ l,w'.cell? ⟨b,l,none⟩=w.cell? ⟨b,l,none⟩
 fz:∀ l,w'.frozen? ⟨b,l,none⟩=w.frozen? ⟨b,l,none⟩
theorem ww.of_heap {b:Nat} {w w':World} (h:w'.heap[b]? = w.heap[b]?):ww b w w':=⟨fun l=>by simp only[World.cell?,h],fun l=>by simp only[World.frozen?,h]⟩
theorem ShM.same {b o:Nat} {w w':World} {s:Mu.Sh} (h:ShM b o w s) (e:ww b w w'):ShM b o w' s:=⟨by rw[e.cell];exact h.cw,by rw[e.cell];exact h.cs,fun i=>by rw[e.fz];exact h.fz i⟩
theorem mr.same {b:Nat} {w w':World} {c v m:Nat} (h:mr b w c v m) (e:ww b w w'):mr b w' c v m:=⟨by rw[e.cell];exact h.cw,by rw[e.cell];exact h.cs,fun i=>by rw[e.fz];exact h.fz i⟩
theorem jy {t u:Trace} {m:Nat} {a:Touch} (h:touchAt (t ++ u) m=some a):(touchAt t m=some a∧m<t.size)∨∃ op∈u,op.act.touch? = some a:=by
 obtain⟨x,hx,hxa⟩:=touch_of h
 rcases getElem?_append_cases hx with ⟨hl,hx'⟩|⟨_,hxu⟩
 . exact .inl ⟨by rw[touchAt_of hx'];exact hxa,hl⟩
 . exact .inr ⟨x,hxu,hxa⟩
theorem oT {t u:Trace} {m:Nat} {x:MemAct} (h:(t ++ u).act? m=some x):(t.act? m=some x∧m<t.size)∨∃ op∈u,op.act=x:=by
 unfold Trace.act? at h;obtain⟨y,hy,rfl⟩:=Option.map_eq_some_iff.1 h
 rcases getElem?_append_cases hy with ⟨hl,hx'⟩|⟨_,hxu⟩
 . exact .inl ⟨by simp[Trace.act?,hx'],hl⟩
 . exact .inr ⟨y,hxu,rfl⟩
section
variable {P:Program} {A:cC} {Fin:ag->ah->Goroutine->Prop} {Z:Base} {s:MS P} {kk kk':Nat->ag} {OO OO':Nat->ah} {J M:Nat->Prop} {gsz:Nat} {w w':World} {t:Trace}
theorem bO.fT (h:bO P A Z s kk OO J M gsz w t) (u:Trace) (hu:∀ op∈u,∀ a,op.act.touch? = some a->Db A a.loc->a.kind ≠ .plain):∀ m a,touchAt (t ++ u) m=some a->Db A a.loc->a.kind = .plain->∀ i,be P A s i->Knows (t ++ u) i m:=fun m a ha hs hk i hi=>by
 rcases jy ha with ⟨h1,_⟩|⟨op,hop,h1⟩
 . exact (h.quiet m a h1 hs hk i hi).app u
 . exact absurd hk (hu op hop a h1 hs)
theorem bO.jz (h:bO P A Z s kk OO J M gsz w t) (u:Trace) (hu:∀ op∈u,∀ a,op.act.touch? = some a->Db A a.loc->a.kind ≠ .said):∀ m a,touchAt (t ++ u) m=some a->Db A a.loc->a.kind = .said->Knows (t ++ u) (if s.c.isNone then 0 else A.b+A.n) m:=fun m a ha hs hk=>by
 rcases jy ha with ⟨h1,_⟩|⟨op,hop,h1⟩
 . exact (h.said m a h1 hs hk).app u
 . exact absurd hk (hu op hop a h1 hs)
theorem bO.kE (h:bO P A Z s kk OO J M gsz w t) (u:Trace):∀ i,be P A s i->∀ m a,m<Z.N0->touchAt (t ++ u) m=some a->a.loc.isMemory=true -> ¬ Z.Shun a.loc->Knows (t ++ u) i m:=fun i hi m a hm ha hmem hz=>by
 have hlt:m<t.size:=Nat.lt_of_lt_of_le hm h.n0
 have h1:touchAt t m=some a:=by
  obtain⟨x,hx,hxa⟩:=touch_of ha;rw[Array.getElem?_append_left hlt] at hx;rw[touchAt_of hx];exact hxa
 exact (h.old i hi m a hm h1 hmem hz).app u
theorem bO.eL (h:bO P A Z s kk OO J M gsz w t) (u:Trace) (hu:∀ op∈u,∀ a,op.act ≠ .mark (.release a)):∀ m a,Z.N0≤m->(t ++ u).act? m≠some (.mark (.release a)):=fun m a hm e=>by
 rcases oT e with ⟨h1,_⟩|⟨op,hop,h1⟩
 . exact h.norel m a hm h1
 . exact hu op hop a h1
theorem bO.nK (h:bO P A Z s kk OO J M gsz w t) (u:Trace):∀ p,M p->(t ++ u).heard p∧Z.N0≤p∧(((t ++ u).act? p=some (.mark (.releaseMerge ⟨A.gb,0,none⟩))∧(s.c = .none∨s.c = .cT∨∃ q,s.c = .wt q))∨(s.c = .gone∧(t ++ u).act? p=some (.close A.cF))):=fun p hp=>by
 obtain⟨h1,h2,h3⟩:=h.hM p hp
 rcases h3 with ⟨h3,h4⟩|⟨h3,h4⟩
 . obtain⟨e1,e2⟩:=rn u h3 h1
   exact⟨e2,h2,.inl ⟨e1,h4⟩⟩
 . obtain⟨e1,e2⟩:=rn u h4 h1
   exact⟨e2,h2,.inr ⟨h3,e1⟩⟩
theorem bO.iL (h:bO P A Z s kk OO J M gsz w t) (u:Trace):s.c = .gone->∃ p,M p∧(t ++ u).act? p=some (.close A.cF)∧(t ++ u).heard p:=fun hc=>by
 obtain⟨p,h1,h2,h3⟩:=h.shut hc;obtain⟨e1,e2⟩:=rn u h2 h3;exact⟨p,h1,e1,e2⟩
theorem yl (I:bd A.n s) {i:Nat} (hl:bW P A s i):be P A s i:=by
 rcases hl with ⟨h,_⟩|⟨j,h1,h2,h3⟩|⟨h1,h2⟩
 . exact .inl h
 . refine .inr (.inl ⟨j,?_,h2⟩)
   have hid:=I.idle j h1;cases e:s.w j with
   | idle=>rw[e] at h3;exact h3.elim
   | _=>rw[e] at hid;simp[aM.fS] at hid;omega
 . refine .inr (.inr ⟨h1,fun e=>?_⟩)
   rw[e] at h2;exact h2
theorem Dd {i:Nat} (hl:bW P A s i):i<A.b+A.n+1:=by
 have:=A.hb
 rcases hl with ⟨h,_⟩|⟨j,h1,h2,h3⟩|⟨h1,h2⟩ <;> omega
theorem sH (h:bO P A Z s kk OO J M gsz w t) {i:Nat} {e:Event} (he:fK (kk i) (OO i) w.heap.size e) {a:Touch} (ha:(MemAct.ofEvent e).touch? = some a) : ¬ Db A a.loc:=fun hs=>by
 have hF:A.fb<w.heap.size:=by obtain⟨c,e,h1⟩:=h.pN;exact (Array.getElem?_eq_some_iff.1 h1).1
 have hG:A.gb<w.heap.size:=by obtain⟨c,e,h1⟩:=h.sG;exact (Array.getElem?_eq_some_iff.1 h1).1
 have hcovF:∀ l,¬ aG (OO i) A.fb l:=fun l hc=>by
  obtain⟨x,hx⟩:=hc.own;obtain⟨j,f,_,_,_,rfl,hf⟩:=h.tok i x hx
  rcases hc with ⟨o,q⟩|⟨m,q,_⟩|⟨g,q,hg⟩
  . rw[hx] at q;cases q
  . rw[hx] at q;cases q
  . rw[hx] at q;cases q;exact hg (hf l)
 have hcovG:∀ l,¬ aG (OO i) A.gb l:=fun l=>cu (h.dA i).2
 obtain⟨k1,k2,k3,k4⟩:=h.cx i;have hC:A.cF<w.heap.size:=by obtain⟨x,tm,h1⟩:=h.sf;exact (Array.getElem?_eq_some_iff.1 h1).1
 rcases jL he ha with ⟨ad,hl,hc⟩|⟨r,hl,hr⟩
 . rw [hl] at hs
   obtain⟨_,hs⟩:=hs
   rcases hs with ⟨h1,h2⟩|⟨h1,h2⟩
   . rw[h1] at hc
     rcases hc with hc|hc|⟨_,v,hc⟩
     . exact hcovF _ hc
     . omega
     . rcases h2 with h2|h2 <;> rw[h2] at hc
       . rw[k1] at hc;cases hc
       . rw[k2] at hc;cases hc
   . rw[h1] at hc
     rcases hc with hc|hc|⟨_,v,hc⟩
     . exact hcovG _ hc
     . omega
     . rcases h2 with h2|h2 <;> rw[h2] at hc
       . rw[k3] at hc;cases hc
       . rw[k4] at hc;cases hc
 . rw[hl] at hs
   have hs:r=A.cF:=hs;subst hs
   rcases hr with ⟨o,hr⟩|hr
   . rw[(h.dA i).1] at hr;cases hr
   . omega
theorem sI {k:ag} {O:ah} {B:Nat} {e:Event} (he:fK k O B e) (a:Addr):MemAct.ofEvent e ≠ .mark (.release a):=by
 obtain⟨loc,wr,sy⟩:=e;cases loc with
 | mark m=>
   simp only[fK] at he;cases m <;> simp_all [gN,jI,MemAct.ofEvent]
 | cell ad=>simp[MemAct.ofEvent]
 | obj r=>cases wr <;> cases sy <;> simp[MemAct.ofEvent]
 | _=>simp[fK] at he
theorem bO.own (h:bO P A Z s kk OO J M gsz w t) (hZ:A.b+A.n+1≤Z.lk) {i:Nat} (hl:bW P A s i) {k':ag} {O':ah} {es:List Event} (he:Eff (kk i) (OO i) w k' O' w' es) (u:Trace)
 (hev:∀ op∈u,∃ e,fK (kk i) (OO i) w.heap.size e∧op.act = .ofEvent e):bO P A Z s (ba kk i k') (ba OO i O') J M gsz w' (t ++ u):=by
 have hlk:i≠Z.lk:=by have:=Dd hl;omega
 have hbeg:=yl h.I hl;have hF:A.fb<w.heap.size:=by obtain⟨c,e,h1⟩:=h.pN;exact (Array.getElem?_eq_some_iff.1 h1).1
 have hG:A.gb<w.heap.size:=by obtain⟨c,e,h1⟩:=h.sG;exact (Array.getElem?_eq_some_iff.1 h1).1
 have hC:A.cF<w.heap.size:=by obtain⟨x,tm,h1⟩:=h.sf;exact (Array.getElem?_eq_some_iff.1 h1).1
 have hcF:=he.keep A.cF hC (h.dA i).1;have hgb:=he.keep A.gb hG (h.dA i).2
 have hfb:ww A.fb w w'∧∃ c e,w'.heap[A.fb]? = some (.cells c e (0,0)):=by
  cases q:OO i A.fb with
  | none=>
    have:=he.keep A.fb hF q;exact⟨.of_heap this,by rw[this];exact h.pN⟩
  | some x=>
    obtain⟨j,f,_,_,_,rfl,hf⟩:=h.tok i x q;obtain⟨c,e,h1⟩:=h.pN;obtain⟨c',h2,h3,h4⟩:=he.part A.fb f hF q c e h1;refine⟨⟨fun l=>?_,fun l=>?_⟩,c',e,h2⟩
    . simp only[World.cell?,h1,h2];rw[h4 l (hf l)]
    . simp only[World.frozen?,h1,h2]
 have hnone:∀ c,c<w.heap.size->OO i c=none->O' c=none:=fun c hc hn=>by
  cases q:O' c with
  | none=>rfl
  | some x=>
    rcases he.own c x q with ⟨y,hy,_⟩|hy
    . rw[hn] at hy;cases hy
    . omega
 have hcovF:∀ l,¬ aG (OO i) A.fb l:=fun l hc=>by
  obtain⟨x,hx⟩:=hc.own;obtain⟨j,f,_,_,_,rfl,hf⟩:=h.tok i x hx
  rcases hc with ⟨o,q⟩|⟨m,q,_⟩|⟨g,q,hg⟩
  . rw[hx] at q;cases q
  . rw[hx] at q;cases q
  . rw[hx] at q;cases q;exact hg (hf l)
 have hkn:∀ c l,c<w.heap.size -> ¬ aG (OO i) c l->(kk i).cell c l=none->k'.cell c l=none:=fun c l hc hcv hn=>by
  cases q:k'.cell c l with
  | none=>rfl
  | some v=>
    rcases he.cell c l v q with h1|h1|h1
    . rw[hn] at h1;cases h1
    . exact absurd h1 hcv
    . omega
 obtain⟨kf1,kf2,kf3,kf4⟩:=h.cx i
 have hns:∀ op∈u,∀ a,op.act.touch? = some a -> ¬ Db A a.loc:=fun op hop a ha=>by
  obtain⟨e,he1,he2⟩:=hev op hop;rw[he2] at ha;exact sH h he1 ha
 refine⟨h.I,h.size,by rw[hcF];exact h.sf,h.mu.same hfb.1,h.gr.same (.of_heap hgb),hfb.2,by rw[hgb];exact h.sG,fun j=>?_,fun j=>?_,fun j x hx=>?_,fun j hj ho=>?_,fun ho=>?_,fun c hc=>?_,h.hJ,h.nK u,h.iL u,
  h.fT u (fun op hop a ha hs=>absurd hs (hns op hop a ha)),h.jz u (fun op hop a ha hs=>absurd hs (hns op hop a ha)),h.kE u,h.eL u (fun op hop a=>by obtain⟨e,he1,he2⟩:=hev op hop;rw[he2];exact sI he1 a),fun j hj hb=>?_,h.mR,h.gJ,h.cM,h.la,by simp;exact Nat.le_trans h.n0 (Nat.le_add_right _ _)⟩
 . by_cases e:j=i
   . subst e;rw[aj];exact⟨hnone _ hC (h.dA j).1,hnone _ hG (h.dA j).2⟩
   . rw[an _ _ e];exact h.dA j
 . by_cases e:j=i
   . subst e;rw[aj]
     exact⟨hkn _ _ hF (hcovF _) kf1,hkn _ _ hF (hcovF _) kf2,hkn _ _ hG (cu (h.dA j).2) kf3,hkn _ _ hG (cu (h.dA j).2) kf4⟩
   . rw[an _ _ e];exact h.cx j
 . by_cases e:j=i
   . subst e;rw[aj] at hx
     rcases he.own _ x hx with ⟨y,hy,hb⟩|hy
     . obtain⟨l,f,h1,h2,h3,rfl,h4⟩:=h.tok j y hy
       cases x with
       | obj o=>exact hb.elim
       | tail m=>exact hb.elim
       | part g=>exact⟨l,g,h1,h2,h3,rfl,fun a=>Classical.byContradiction fun q=>hb a q (h4 a)⟩
     . omega
   . rw[an _ _ e] at hx;exact h.tok j x hx
 . have h1:=h.rm j hj ho
   by_cases e:A.b+j=i
   . rw[e,aj]
     rw[e] at h1;cases q:OO i A.fb with
     | none=>exact absurd q h1
     | some x=>
       obtain⟨_,f,_,_,_,rfl,_⟩:=h.tok i x q;obtain⟨f',h2⟩:=he.tok _ f q;rw[h2];simp
   . rw[an _ _ e];exact h1
 . rw[an _ _ (Ne.symm hlk),an _ _ (Ne.symm hlk)];exact h.Dc ho
 . rw[an _ _ (Ne.symm hlk)] at hc;exact h.Cf c hc
 . have e:j≠i:=fun e=>hb (e ▸ hbeg)
   rw[an _ _ e,an _ _ e];exact h.wv j hj hb
theorem bO.still (h:bO P A Z s kk OO J M gsz w t) (u:Trace) (hu:∀ op∈u,op.act.touch? = none∧∀ a,op.act ≠ .mark (.release a)):bO P A Z s kk OO J M gsz w (t ++ u):=
 ⟨h.I,h.size,h.sf,h.mu,h.gr,h.pN,h.sG,h.dA,h.cx,h.tok,h.rm,h.Dc,h.Cf,h.hJ,h.nK u,h.iL u,h.fT u (fun op hop a ha=>by rw[(hu op hop).1] at ha;cases ha),h.jz u (fun op hop a ha=>by rw[(hu op hop).1] at ha;cases ha),
   h.kE u,h.eL u (fun op hop=>(hu op hop).2),h.wv,h.mR,h.gJ,h.cM,h.la,by simp;exact Nat.le_trans h.n0 (Nat.le_add_right _ _)⟩
theorem aJ (hZ:A.b+A.n+1≤Z.lk):ti (bn P A Fin Z hZ) where
 own:=fun hE hl _ he u _ _ hev=>bO.own hE hZ hl he u hev
 slip:=fun hE u _ hu=>bO.still hE u hu
 draw:=fun {s kk OO J M n w t} hE d=>by
  have hE:bO P A Z s kk OO J M n w t:=hE;exact⟨hE.I,hE.size,hE.sf,hE.mu.heap rfl,hE.gr.same (.of_heap rfl),hE.pN,hE.sG,hE.dA,hE.cx,hE.tok,hE.rm,hE.Dc,hE.Cf,hE.hJ,hE.hM,hE.shut,hE.quiet,hE.said,hE.old,hE.norel,hE.wv,hE.mR,hE.gJ,hE.cM,hE.la,hE.n0⟩
 oE := fun {s kk OO J M n w t j g} hE hh k O hA=>by
  have hE:bO P A Z s kk OO J M n w t:=hE;obtain⟨x,tm,hF⟩:=hE.sf
  have hng:s.c.cG=false:=by
   rcases hh with ⟨_,hm⟩|⟨l,hl,_,hw⟩
   . have:=hE.I.ms
     rw[hm] at this;have:=this.2.2.1;cases e:s.c <;> simp_all [gl.cG]
   . cases e:s.c with
     | gone=>
       have:=(hE.I.g8 (by rw[e];rfl)).2.2.2 l hl
       rw[hw] at this;cases this
     | _=>rfl
  rw[hng] at hF
  rcases hA with ⟨_,g₂,z,rfl,_⟩|⟨l,_,_,g₂,z,v,rfl,_⟩
  . exact again_recv_open hF
  . exact again_send_open hF
 wd:=fun {s kk OO J M n w t} hE=>by
  have hE:bO P A Z s kk OO J M n w t:=hE;exact⟨⟨_,hE.gr.cw⟩,⟨_,hE.gr.cs⟩,⟨_,hE.mu.cw⟩⟩
 je:=fun {s i k O g} hA=>by
  rcases hA with ⟨_,hA⟩|⟨j,_,_,hA⟩|⟨_,hA⟩
  . cases e:s.ms with
    | aS j p=>rw[e] at hA;obtain⟨c,rest,h1,_⟩:=hA;exact h1.running
    | _=>rw[e] at hA;exact hA.elim
  . cases e:s.w j with
    | lk p Y=>rw[e] at hA;obtain⟨kind,c,rest,_,_,h1,_⟩:=hA;exact h1.running
    | un p Y=>rw[e] at hA;obtain⟨kind,c,rest,_,h1,_⟩:=hA;exact h1.running
    | dn p=>rw[e] at hA;obtain⟨fw,fn,tmps,todo,_,_,h1⟩:=hA;exact h1.running
    | _=>rw[e] at hA;exact hA.elim
  . cases e:s.c with
    | wt p=>rw[e] at hA;obtain⟨c,rest,h1,_⟩:=hA;exact h1.running
    | _=>rw[e] at hA;exact hA.elim
end
end Go.aZ
namespace Go.aZ
open Go.Conc
open Go.ConcN (sumTo upd sumTo_upd upd_ne upd_same)
variable {P:Program}
def MS.aC (s:MS P) (j:Nat) (x:aM P) (sh:Mu.Sh):MS P:={ s with w:=fun i=>if i=j then x else s.w i,sh:=sh }
section
variable {s:MS P} {j n:Nat} {x:aM P} {sh:Mu.Sh}
theorem aA:(s.aC j x sh).w j=x:=by simp[MS.aC]
theorem aN {i:Nat} (h:i≠j):(s.aC j x sh).w i=s.w i:=by simp[MS.aC,h]
theorem uZ:(fun i=>((s.aC j x sh).w i).pc)=Mu.set (fun i=>(s.w i).pc) j x.pc:=by
 funext i
 by_cases h:i=j
 . subst h;rw[aA,Mu.ao]
 . rw[aN h,Mu.ak _ _ h]
theorem lz (F:aM P->Nat) (hj:j<n):sumTo n (fun i=>F ((s.aC j x sh).w i))+F (s.w j)=sumTo n (fun i=>F (s.w i))+F x:=by
 have e:(fun i=>F ((s.aC j x sh).w i))=upd (fun i=>F (s.w i)) j (F x):=by
  funext i
  by_cases h:i=j
  . subst h;rw[aA,upd_same]
  . rw[aN h,upd_ne _ _ h]
 rw[e];have:=sumTo_upd (fun i=>F (s.w i)) (F x) id hj
 simpa using this
def aM.work:aM P->Bool
 | .run .. => true | .lk .. => true | .un .. => true|_=>false
theorem aK {x:aM P} (h:x.work=true):x.cnt=1∧x.bw=20∧x.ez=false∧x.last=false∧x.fS=false∧x.busy=true∧x ≠ .gone∧x ≠ .wait∧∀ p,x ≠ .dn p:=by
 cases x <;> simp_all [aM.work,aM.cnt,aM.bw,aM.ez,aM.last,aM.fS,aM.busy]
theorem bd.work (I:bd n s) (hj:j<n) (h1:(s.w j).work=true) (h2:x.work=true) (hx:x.ok=true) (hm:Mu.Inv n (Mu.set (fun i=>(s.w i).pc) j x.pc) sh):bd n (s.aC j x sh):=by
 obtain⟨a1,a2,a3,a4,a5,a6,a7,a8,a9⟩:=aK h1;obtain⟨b1,b2,b3,b4,b5,b6,b7,b8,b9⟩:=aK h2;have hcnt:=lz (s:=s) (x:=x) (sh:=sh) aM.cnt hj
 have look:∀ {i:Nat} {y:aM P},(s.aC j x sh).w i=y->x≠y->i≠j∧s.w i=y:=fun {i y} h hn=>by
  by_cases e:i=j
  . subst e;rw[aA] at h;exact absurd h hn
  . rw[aN e] at h;exact⟨e,h⟩
 have back:∀ {i:Nat} {y:aM P},s.w i=y->(s.w j)≠y->(s.aC j x sh).w i=y:=fun {i y} h hn=>by
  by_cases e:i=j
  . subst e;exact absurd h hn
  . rw[aN e];exact h
 have lastI:∀ {i:Nat},((s.aC j x sh).w i).last=(s.w i).last:=fun {i}=>by
  by_cases e:i=j
  . subst e;rw[aA,a4,b4]
  . rw[aN e]
 refine⟨?_,I.g2,I.xK,fun i hi h=>?_,fun i l hi hl h h'=>?_,fun i hi h=>?_,⟨I.g5.1,fun h=>?_⟩,fun h h' h''=>?_,fun h h'=>?_,fun h=>?_,I.g9,fun i hi=>?_,I.HV,I.sp,fun i hi=>?_,?_,fun h i hi=>?_,by rw[uZ];exact hm⟩
 . have:=I.g1
   show s.gc=sumTo n (fun i=>((s.aC j x sh).w i).cnt)+s.ms.pend
   omega
 . exact I.g3 i hi (h.imp (fun h=>(look h (b9 _)).2) (fun h=>(look h (b9 _)).2))
 . rw[lastI] at h h';exact I.xL i l hi hl h h'
 . exact I.g4 i hi (look h (b9 _)).2
 . obtain⟨c1,c2,c3,c4⟩:=I.g5.2 h
   exact⟨c1,c2,c3,fun i hi=>by rw[lastI];exact c4 i hi⟩
 . obtain⟨i,hi,h3⟩:=I.g6 h h' h''
   exact⟨i,hi,back h3 (a9 _)⟩
 . obtain⟨i,hi,h3⟩:=I.g7 h h'
   exact⟨i,hi,h3.imp (fun h=>back h (a9 _)) (fun h=>back h (a9 _))⟩
 . obtain⟨_,_,_,c4⟩:=I.g8 h
   exact absurd (c4 j hj) a7
 . by_cases e:i=j
   . subst e;rw[aA];exact hx
   . rw[aN e];exact I.ok i hi
 . by_cases e:i=j
   . subst e
     rw[aA,b5];have:=I.idle i hi;rw[a5] at this;exact this
   . rw[aN e];exact I.idle i hi
 . have:=I.ms
   show match s.ms with
   | .add l=>s.sp+l=n∧s.c = .none
   | .aS l p=>s.sp+l=n∧s.c = .none∧1≤l∧(p = .a0∨p = .a2∨p = .a4∨p = .ae)
   | .spawn l=>s.sp+l+1=n∧s.c = .none
   | .recv=>s.sp=n∧s.c ≠ .none
   | .parked=>s.sp=n∧s.c ≠ .none∧s.c ≠ .gone∧∀ i,i<n->(s.aC j x sh).w i ≠ .wait
   cases e:s.ms with
   | parked=>
     rw[e] at this;obtain⟨c1,c2,c3,c4⟩:=this;exact⟨c1,c2,c3,fun i hi h=>c4 i hi (look h b8).2⟩
   | _=>rw[e] at this;exact this
 . by_cases e:i=j
   . subst e;rw[aA];exact b3
   . rw[aN e];exact I.early h i hi
theorem HY (F:aM P->Nat) (hj:j<n) (h:F x=F (s.w j)):sumTo n (fun i=>F ((s.aC j x sh).w i))=sumTo n (fun i=>F (s.w i)):=by
 have:=lz (s:=s) (x:=x) (sh:=sh) F hj;omega
theorem wx (hj:j<n) (h1:(s.w j).work=true) (h2:x.work=true):(s.aC j x sh).bw n=s.bw n:=by
 have:=HY (s:=s) (x:=x) (sh:=sh) aM.bw hj (by rw[(aK h1).2.1,(aK h2).2.1])
 show s.ms.bw+sumTo n (fun i=>((s.aC j x sh).w i).bw)+s.c.bw s.gc=_
 rw[this];rfl
theorem u0 (hj:j<n) (h1:(s.w j).work=true) (h2:x.work=true) (h:Ay x.nd (s.w j).nd):MS.dR n (s.aC j x sh) s:=
 .inr ⟨wx hj h1 h2,.inl ⟨j,hj,fun i hi=>by show ((s.aC j x sh).w i).nd=_;rw[aN hi],by simp only[aA];exact h⟩⟩
theorem ql (hj:j<n) (h1:(s.w j).work=true) (h2:x.work=true) (h:x.nd=(s.w j).nd) (hi:4*Mu.meas n (Mu.set (fun i=>(s.w i).pc) j x.pc) sh+x.ex n<4*Mu.meas n (fun i=>(s.w i).pc) s.sh+(s.w j).ex n):MS.dR n (s.aC j x sh) s:=by
 refine .inr ⟨wx hj h1 h2,.inr ⟨?_,?_⟩⟩
 . funext i
   by_cases e:i=j
   . subst e;rw[aA];exact h
   . rw[aN e]
 . have:=lz (s:=s) (x:=x) (sh:=sh) (aM.ex n) hj
   show 4*Mu.meas n (fun i=>((s.aC j x sh).w i).pc) sh+sumTo n (fun i=>((s.aC j x sh).w i).ex n)<4*Mu.meas n (fun i=>(s.w i).pc) s.sh+sumTo n (fun i=>(s.w i).ex n)
   rw[uZ];omega
theorem zJ (I:bd n s) (hj:j<n) (h1:(s.w j).work=true) (h2:x.work=true) (h:x.nd=(s.w j).nd) (hm:(x.pc,sh)∈Mu.mv (s.w j).pc s.sh) (hx:x.ex n≤3):MS.dR n (s.aC j x sh) s:=by
 have:=(Mu.Al (pcs:=fun i=>(s.w i).pc) hj (I.mu.j0 j hj) hm).1
 exact ql hj h1 h2 h (by omega)
theorem bd.mv (I:bd n s) (hj:j<n) (h1:(s.w j).work=true) (h2:x.work=true) (hx:x.ok=true) (hm:(x.pc,sh)∈Mu.mv (s.w j).pc s.sh):bd n (s.aC j x sh):=
 I.work hj h1 h2 hx (I.mu.step hj hm)
theorem jg (pcs:Nat->Mu.Pc) (i:Nat):Mu.set pcs i (pcs i)=pcs:=by
 funext l
 by_cases e:l=i
 . subst e;exact Mu.ao _ _ _
 . exact Mu.ak _ _ e
theorem jh (hj:j<n) (h1:(s.w j).work=true) (h2:x.work=true) (h:x.nd=(s.w j).nd) (hp:x.pc=(s.w j).pc) (hx:x.ex n<(s.w j).ex n):MS.dR n (s.aC j x s.sh) s:=by
 refine ql hj h1 h2 h ?_;rw[hp,jg (fun i=>(s.w i).pc)]
 omega
theorem bd.still (I:bd n s) (hj:j<n) (h1:(s.w j).work=true) (h2:x.work=true) (hx:x.ok=true) (hp:x.pc=(s.w j).pc):bd n (s.aC j x s.sh):=
 I.work hj h1 h2 hx (by rw[hp,jg (fun i=>(s.w i).pc)];exact I.mu)
theorem dB (F:Mu.Pc->Nat) {pcs:Nat->Mu.Pc} {i:Nat} (ho:pcs i = .out) (h:F .er=F .out):(fun l=>F (Mu.set pcs i .er l))=fun l=>F (pcs l):=by
 funext l
 by_cases e:l=i
 . subst e;rw[Mu.ao,ho,h]
 . rw[Mu.ak _ _ e]
theorem Gc {n:Nat} {pcs:Nat->Mu.Pc} {s:Mu.Sh} {i:Nat} (h:Mu.Inv n pcs s) (ho:pcs i = .out):Mu.Inv n (Mu.set pcs i .er) s:=by
 obtain⟨⟨h0,h1,h2,h3,h4⟩,h5,h6⟩:=h;refine⟨⟨fun l hl=>?_,?_,?_,?_,?_⟩,h5,fun l hl old sv hp=>?_⟩
 . by_cases e:l=i
   . subst e;rw[Mu.ao];trivial
   . rw[Mu.ak _ _ e];exact h0 l hl
 . rw[dB Mu.bh ho rfl];exact h1
 . rw[dB Mu.du ho rfl,dB Mu.br ho rfl,dB Mu.jM ho rfl,dB Mu.bH ho rfl,dB Mu.bq ho rfl];exact h2
 . rw[dB Mu.du ho rfl,dB Mu.br ho rfl,dB Mu.jM ho rfl,dB Mu.bH ho rfl,dB Mu.bq ho rfl];exact h3
 . rw[dB Mu.eu ho rfl];exact h4
 . by_cases e:l=i
   . subst e;rw[Mu.ao] at hp;cases hp
   . rw[Mu.ak _ _ e] at hp;exact h6 l hl old sv hp
theorem wy {n:Nat} {pcs:Nat->Mu.Pc} {s:Mu.Sh} {i:Nat} (hi:i<n) (ho:pcs i = .out):Mu.meas n (Mu.set pcs i .er) s=Mu.meas n pcs s+(6*(18*n+1)+16):=by
 have C:=Mu.dH Mu.dN pcs i .er hi;have R:=Mu.dH (Mu.gg s.w) pcs i .er hi;rw[ho] at C R;have c0:Mu.dN .out=0:=rfl;have c1:Mu.dN .er=6:=rfl;have r0:Mu.gg s.w .out=0:=rfl;have r1:Mu.gg s.w .er=16:=rfl;rw[c0,c1] at C;rw[r0,r1] at R;have hp:Mu.phi n (Mu.set pcs i .er) s=Mu.phi n pcs s+6:=by unfold Mu.phi;omega
 unfold Mu.meas;rw[hp,Nat.add_mul];omega
theorem De (hj:j<n) (h1:(s.w j).work=true) (h2:x.work=true) (h:x.nd=(s.w j).nd) (ho:(s.w j).pc = .out) (hp:x.pc = .er) (he:(s.w j).ex n=uY n) (hx:x.ex n=0):MS.dR n (s.aC j x s.sh) s:=by
 refine ql hj h1 h2 h ?_;rw[hp,wy hj ho,he,hx];unfold uY;omega
theorem bd.MX (I:bd n s) (hj:j<n) (h1:(s.w j).work=true) (h2:x.work=true) (hx:x.ok=true) (ho:(s.w j).pc = .out) (hp:x.pc = .er):bd n (s.aC j x s.sh):=
 I.work hj h1 h2 hx (by rw[hp];exact Gc I.mu ho)
end
end Go.aZ
namespace Go.aZ
open Go.Conc
open Go.ConcN (sumTo upd sumTo_upd upd_ne upd_same)
section
variable {P:Program} {A:mp P} {Z:Base} {s s':A.S} {f f':Nat->Node P} {q q':Nat->Nat} {kk kk':Nat->ag} {OO OO':Nat->ah} {J J' M M':Nat->Prop} {gs:Array Goroutine} {w w':World} {t u:Trace} {i:Nat} {g g1:Goroutine}
structure Beside (A:mp P) (s s':A.S) (f f':Nat->Node P) (q q':Nat->Nat) (kk kk':Nat->ag) (OO OO':Nat->ah) (J J':Nat->Prop) (w':World) (i:Nat) (g g1:Goroutine):Prop where
 ef:∀ j,j≠i->f' j=f j
 eq:∀ j,j≠i->q' j=q j
 ek:∀ j,j≠i->j<A.top->kk' j=kk j
 eO:∀ j,j≠i->j<A.top->OO' j=OO j
 eJ:∀ j,j≠i->A.Live s j->J j->J' j
 live:∀ j,j≠i->(A.Live s' j ↔ A.Live s j)
 walk:∀ j,j≠i->(A.Walk s' j ↔ A.Walk s j)
 held:∀ j,j≠i->(A.kA s' j ↔ A.kA s j)
 mo:∀ j,j≠i->A.Live s j->A.mo s' j=A.mo s j
 at':∀ j k O x,j≠i->A.Walk s j->A.At s j k O x->A.At s' j k O x
 deaf:∀ j,j≠i->A.Walk s j->A.deaf s' j=A.deaf s j
 th:∀ j,j≠i->A.Walk s j->A.th s j->A.th s' j∨∀ x,A.At s j (kk j) (OO j) x->woken P g g1 w' (blk x)=x
 HZ:∀ j k O x,j≠i->A.kA s j->A.yb s j k O x->A.yb s' j k O x
 tie:∀ j x,j≠i->A.Live s j->A.FX s j x->A.FX s' j x
structure Self (P:Program) (A:mp P) (s':A.S) (f':Nat->Node P) (q':Nat->Nat) (kk':Nat->ag) (OO':Nat->ah) (J':Nat->Prop) (t':Trace) (i:Nat) (g1:Goroutine):Prop where
 live:A.Live s' i->i<A.top∧g1=(f' i).g∧(f' i).m=A.mo s' i∧(f' i).k=kk' i∧(f' i).O=OO' i∧(f' i).g.status = .running∧Deaf t' i=0∧(i=0∨J' i)∧A.FX s' i (f' i)
 walk:A.Walk s' i -> ¬ A.Live s' i∧i<A.top∧Deaf t' i=A.deaf s' i∧∃ g',A.At s' i (kk' i) (OO' i) g'∧CP P A.Wd (A.th s' i) (q' i) g1 g'
 held:A.kA s' i -> ¬ A.Live s' i ∧ ¬ A.Walk s' i∧i<A.top∧Deaf t' i=0∧g1.status = .blocked∧A.yb s' i (kk' i) (OO' i) g1
 rest : ¬ A.Live s' i -> ¬ A.Walk s' i -> ¬ A.kA s' i->i≠0∧QuitsD P (q' i) (Deaf t' i) g1
theorem aW.step (B:ti A) (hC:aW A Z s f q kk OO J M gs w t) (hi:gs[i]? = some g) (hops:∀ op∈u,op.g=i) (hP:bm Z kk' OO' J' M' w' (t ++ u)) (hEx:A.Ex s' kk' OO' J' M' gs.size w' (t ++ u))
 (hw:∀ j x,A.kA s j->A.yb s j (kk j) (OO j) x->x.again w'=x) (hb:Beside A s s' f f' q q' kk kk' OO OO' J J' w' i g g1) (hs:Self P A s' f' q' kk' OO' J' (t ++ u) i g1) :
 aW A Z s' f' q' kk' OO' J' M' ((gs.map (woken P g g1 w')).setIfInBounds i g1) w' (t ++ u):=by
 have hlt:i<gs.size:=(Array.getElem?_eq_some_iff.1 hi).1;have hR:=hC.FY B (i:=i) (a:=g) (a':=g1) (x:=g1) (w':=w') hw;have hself:((gs.map (woken P g g1 w')).setIfInBounds i g1)[i]? = some g1:=Array.getElem?_setIfInBounds_self_of_lt (by simpa using hlt)
 have hD:∀ j,j≠i->Deaf (t ++ u) j=Deaf t j:=fun j hj=>Deaf_other t (Ne.symm hj) _ hops
 refine⟨hC.lk,hP,fun j hj=>?_,fun j hj=>?_,fun j hj=>?_,fun j x hx n1 n2 n3=>?_,fun j hj=>?_,by simpa using hEx⟩
 . by_cases e:j=i
   . subst e
     obtain⟨p0,p1,p2⟩:=hs.live hj;exact⟨p0,by rw[hself,p1],p2⟩
   . have hj0:=(hb.live j e).1 hj
     obtain⟨p0,p1,pm,p2,p3,p4,p5,p6⟩:=hC.live j hj0;rw[hb.ef j e,hb.ek j e p0,hb.eO j e p0,hD j e,hb.mo j e hj0];exact⟨p0,hR.live j e hj0,pm,p2,p3,p4,p5,p6.1.imp id (hb.eJ j e hj0),hb.tie j _ e hj0 p6.2⟩
 . by_cases e:j=i
   . subst e
     obtain⟨p0,p1,p2,g',p3,p4⟩:=hs.walk hj;exact⟨p0,p1,p2,g1,g',hself,p3,p4⟩
   . have hj0:=(hb.walk j e).1 hj
     obtain⟨p0,p1,p2,x,x',p3,p4,p5⟩:=hC.walk j hj0;refine⟨fun h=>p0 ((hb.live j e).1 h),p1,by rw[hD j e,hb.deaf j e hj0];exact p2,?_⟩
     rw[hb.ek j e p1,hb.eO j e p1,hb.eq j e];obtain⟨y,y',r1,r2,r3⟩:=hR.walk j e hj0
     by_cases hd:∃ x,A.th s j∧y=blk x∧A.At s j (kk j) (OO j) x∧q j=0
     . obtain⟨x0,d1,d2,d3,d4⟩:=hd
       rcases hb.th j e hj0 d1 with h|h
       . exact⟨y,x0,r1,hb.at' j _ _ _ e hj0 d3,.inl ⟨h,d2,d4⟩⟩
       ·
        have hget:((gs.map (woken P g g1 w')).setIfInBounds i g1)[j]? = some (woken P g g1 w' x):=by
         rw[Array.getElem?_setIfInBounds_ne (Ne.symm e),Array.getElem?_map,p3];rfl
        obtain⟨a1,a2⟩:=B.je p4
        rcases p5 with ⟨_,rfl,_⟩|p5
        . rw[h _ p4] at hget
          rw[hget] at r1;have:=Option.some.inj r1;rw[d2] at this;have hbad:x'.status = .blocked:=by rw[this];rfl
          rw[a1] at hbad;cases hbad
        . rw[woken_run (p5.first a1)] at hget
          rw[hget] at r1;have hh:=Option.some.inj r1;have hbad:x.status = .blocked:=by rw[hh,d2];rfl
          rw[p5.first a1] at hbad;cases hbad
     . rcases r3 with ⟨d1,rfl,d2⟩|r3
       . exact absurd ⟨y',d1,rfl,r2,d2⟩ hd
       . exact⟨y,y',r1,hb.at' j _ _ _ e hj0 r2,.inr r3⟩
 . by_cases e:j=i
   . subst e
     obtain⟨p0,p1,p2,p3,p4,p5⟩:=hs.held hj;exact⟨p0,p1,p2,p3,g1,hself,p4,p5⟩
   . have hj0:=(hb.held j e).1 hj
     obtain⟨p0,p1,p2,p3,_⟩:=hC.held j hj0;obtain⟨x,r1,r2,r3⟩:=hR.held j e hj0;refine⟨fun h=>p0 ((hb.live j e).1 h),fun h=>p1 ((hb.walk j e).1 h),p2,by rw[hD j e];exact p3,x,r1,r2,?_⟩
     rw[hb.ek j e p2,hb.eO j e p2];exact hb.HZ j _ _ _ e hj0 r3
 . by_cases e:j=i
   . subst e
     rw[hself] at hx;obtain rfl:=Option.some.inj hx;exact hs.rest n1 n2 n3
   . rw[hb.eq j e,hD j e]
     exact hR.rest j x e hx (fun h=>n1 ((hb.live j e).2 h)) (fun h=>n2 ((hb.walk j e).2 h)) (fun h=>n3 ((hb.held j e).2 h))
 . have hj':gs.size≤j:=by simpa using hj
   rw[hD j (by omega)];exact hC.above j hj'
end
theorem knows_own {t u:Trace} {i m:Nat} {op:MemOp} (h:u[m]? = some op) (hg:op.g=i):Knows (t ++ u) i (t.size+m):=⟨t.size+m,op,bQ h,hg,.inl rfl⟩
section
variable {Z:Base} {kk:Nat->ag} {OO:Nat->ah} {J M:Nat->Prop} {w w':World} {t u:Trace} {i:Nat}
def u6 (kk:Nat->ag) (OO:Nat->ah) (B:Nat) (t:Trace) (i:Nat) (u:Trace):Prop:=
 ∀ op∈u,∀ a,op.act.touch? = some a->a.kind = .atomic∧(a.loc.isMemory=true->CE kk OO B a.loc)∧∀ n b,touchAt t n=some b->b.loc=a.loc->b.kind = .plain->Knows t i n
theorem bm.Hn (h:bm Z kk OO J M w t) (hops:∀ op∈u,op.g=i) (hw:w'.heap.size=w.heap.size) (hq:Calm Z w w') (hb:∀ b,Kept kk OO w w' b) (hl:∀ op∈u,op.act.low w.heap.size) (hu:u6 kk OO w.heap.size t i u)
 (hun:∀ m op a,u[m]? = some op->op.act.touch? = some a->a.loc.isMemory=true->Told Z J M (t ++ u) (t.size+m) a):bm Z kk OO J M w' (t ++ u):=
 h.oB (fun a b=>a=b) hw hq hb hl (fun a b e n x _ _ _ hk=>by subst e;exact hk.app u) (fun j b n v h=>⟨j,rfl,h⟩) (fun j b s h=>⟨j,rfl,h⟩) (fun j b x h=>⟨j,rfl,h,fun _ h=>h⟩) h.fR
  (fun said=>noRace_append (h.clean said) hops fun n a ha op hop b hb hc=>by
    obtain⟨h1,h2,h3⟩:=hu op hop b hb;obtain⟨c1,_,_,c4⟩:=hc
    rcases c4 with c4|c4|⟨_,_,c4⟩
    . exact h3 n a ha c1 c4
    . rw[h1] at c4;cases c4
    . rw[h1] at c4;cases c4)
  (fun op hop a ha hm=>(hu op hop a ha).2.1 hm) hun
  (fun n a ha hm h=>h.elim (fun ⟨j,h1,h2⟩ => .inr (.inl ⟨j,h1,h2.app _⟩)) (fun ⟨p,h1,h2⟩ => .inr (.inr (.inl ⟨p,h1,h2.app _⟩))))
theorem bm.sync (h:bm Z kk OO J M w t) (hJ:i=0∨J i) (hops:∀ op∈u,op.g=i) (hw:w'.heap.size=w.heap.size) (hq:Calm Z w w') (hb:∀ b,Kept kk OO w w' b) (hl:∀ op∈u,op.act.low w.heap.size) (hu:u6 kk OO w.heap.size t i u):bm Z kk OO J M w' (t ++ u):=
 h.Hn hops hw hq hb hl hu fun m op a h1 h2 h3=>by
  have hk:Knows (t ++ u) i (t.size+m):=knows_own h1 (hops op (Array.mem_of_getElem? h1))
  rcases hJ with rfl|hJ
  . exact .inl hk
  . exact .inr (.inl ⟨i,hJ,hk⟩)
end
section
variable {P:Program} {A:cC} {Z:Base} {s:MS P} {kk:Nat->ag} {OO:Nat->ah} {J M:Nat->Prop} {gsz:Nat} {w w':World} {t u:Trace} {j:Nat} {x:aM P} {sh:Mu.Sh}
theorem ji (hj:j<A.n) (h:x.busy=(s.w j).busy) (i:Nat):dk P A (s.aC j x sh) i ↔ dk P A s i:=by
 have:∀ l,((s.aC j x sh).w l).busy=(s.w l).busy:=fun l=>by
  by_cases e:l=j
  . subst e;rw[aA,h]
  . rw[aN e]
 unfold dk;simp only[this];rfl
theorem bO.work (h:bO P A Z s kk OO J M gsz w t) (hj:j<A.n) (h1:(s.w j).work=true) (h2:x.work=true) (ho:x.owns=(s.w j).owns) (hI:bd A.n (s.aC j x sh)) (hmu:ShM A.fb A.fo w' sh)
 (hheap:∀ b,b≠A.fb->w'.heap[b]? = w.heap[b]?) (hfb:∃ c e,w'.heap[A.fb]? = some (.cells c e (0,0))) (hu:∀ op∈u,(∀ a,op.act.touch? = some a->a.kind = .atomic)∧∀ a,op.act ≠ .mark (.release a)) :
 bO P A Z (s.aC j x sh) kk OO J M gsz w' (t ++ u):=by
 have hown:∀ l,((s.aC j x sh).w l).owns=(s.w l).owns:=fun l=>by
  by_cases e:l=j
  . subst e;rw[aA,ho]
  . rw[aN e]
 have hbusy:x.busy=(s.w j).busy:=by rw[(aK h1).2.2.2.2.2.1,(aK h2).2.2.2.2.2.1]
 refine⟨hI,h.size,by rw[hheap _ A.d1];exact h.sf,hmu,h.gr.same (.of_heap (hheap _ (Ne.symm A.d4))),hfb,by rw[hheap _ (Ne.symm A.d4)];exact h.sG,h.dA,h.cx,fun i y hy=>?_,fun l hl hlo=>h.rm l hl (by rw[← hown l];exact hlo),fun hlo=>h.Dc fun l hl=>by rw[← hown l];exact hlo l hl,fun c hc=>?_,
  fun i=>by rw[h.hJ i];exact (ji hj hbusy i).symm,h.nK u,h.iL u,h.fT u (fun op hop a ha _ hk=>?_),h.jz u (fun op hop a ha _ hk=>?_),h.kE u,h.eL u (fun op hop=>(hu op hop).2),h.wv,h.mR,h.gJ,h.cM,h.la,by simp;exact Nat.le_trans h.n0 (Nat.le_add_right _ _)⟩
 . obtain⟨l,f,h3,h4,h5,h6⟩:=h.tok i y hy
   exact⟨l,f,h3,h4,by rw[hown];exact h5,h6⟩
 . obtain⟨h3,h4⟩:=h.Cf c hc
   exact⟨h3,fun l hl=>by rw[hown];exact h4 l hl⟩
 . rw[(hu op hop).1 a ha] at hk;cases hk
 . rw[(hu op hop).1 a ha] at hk;cases hk
end
section
variable {P:Program}
theorem u' {y:Sy} {s:gi} {fr:Frame} {f:FuncId} {l:List SV} {e:Array Value->Sem Value} {cs:List Frame} (hr:FR y s fr) (h:aH s=some (f,l)) (he:Ext P f e):mayWake P (G fr cs)=true:=by
 obtain⟨ops,i,rest,kk,o,as,ats,h1,h2,h3,h4,h5,h6⟩:=bM hr h;obtain⟨fn,e1,e2,e3,e4,e5⟩:=he.ex;have hm:fr.mode = .run:=by rw[h5];rfl
 have ht:fr.todo = .inRegion ops (i :: rest) :: kk:=by rw[h5];rfl
 unfold mayWake;simp only[G,Goroutine.frame,hm,ht,h1,Option.map_some,h3,Frame.eval,e1,Option.any_some];simpa using e3
theorem AA {n:tl} {b o:Nat} {kind:CallKind} {cs:List Frame} {g:Goroutine} (C:fA P n) (X:fB P n) (h:kq P n b o kind .give cs g):mayWake P g=true:=by
 obtain⟨c,y,fr,frs,hc,hy,hr,hrs,rfl⟩:=h
 rcases hc with rfl|rfl
 . exact u' hr (C.Lp b o kind) X.kC
 . exact u' hr (C.Lq b o kind) X.kC
theorem jA {b o:Nat} {w w':World} (h:MW b o w w') (hc:∃ c e,w.heap[b]? = some (.cells c e (0,0))) :
 w'.heap.size=w.heap.size∧(∀ r,r≠b->w'.heap[r]? = w.heap[r]?)∧∃ c e c',w.heap[b]? = some (.cells c e (0,0))∧w'.heap[b]? = some (.cells c' e (0,0))∧c'.size=c.size∧∀ n,n≠o->n≠o+1->c'[n]? = c[n]?:=by
 obtain⟨c,e,hc⟩:=hc
 rcases h.2 with h|⟨i,v,hi,hv,h⟩
 . exact⟨by rw[h],fun r _=>by rw[h],c,e,c,hc,by rw[h];exact hc,rfl,fun _ _ _=>rfl⟩
 . refine⟨by rw[h];simp[World.setCell],fun r hr=>?_,c,e,c.setIfInBounds i v,hc,?_,by simp,fun n h1 h2=>?_⟩
   . rw[h];simp only[World.setCell,Array.getElem?_modify,if_neg (Ne.symm hr)]
   . rw[h];simp[World.setCell,Array.getElem?_modify,hc]
   . exact Array.getElem?_setIfInBounds_ne (by rcases hi with rfl|rfl <;> omega)
end
section
variable {P:Program} {A:cC} {Z:Base} {s:MS P} {kk:Nat->ag} {OO:Nat->ah} {J M:Nat->Prop} {gsz:Nat} {w w':World} {t:Trace} {j:Nat} {x:aM P} {sh:Mu.Sh}
theorem bO.calm (h:bO P A Z s kk OO J M gsz w t) (hm:MW A.fb A.fo w w'):Calm Z w w':=by
 obtain⟨h1,h2,_⟩:=jA hm h.pN;have:=h.cM.2.1;exact⟨hm.1,fun b hb=>h2 b (by omega)⟩
theorem bO.kept (h:bO P A Z s kk OO J M gsz w t) (hm:MW A.fb A.fo w w'):∀ b,Kept kk OO w w' b:=fun b=>by
 obtain⟨h1,h2,c,e,c',h3,h4,h5,h6⟩:=jA hm h.pN
 by_cases hb:b=A.fb
 . subst hb
   refine .inr (.inr ⟨c,c',e,h3,h4,h5,fun i x hx=>by obtain⟨_,g,_,_,_,rfl,hg⟩:=h.tok i x hx;exact⟨g,rfl,fun n hn=>absurd (hg n) hn⟩,fun n=>?_⟩)
   by_cases e1:n=A.fo
   . subst e1;exact .inr fun i=>(h.cx i).1
   . by_cases e2:n=A.fo+1
     . subst e2;exact .inr fun i=>(h.cx i).2.1
     . exact .inl (h6 n e1 e2)
 . exact .inl (h2 b hb)
theorem bO.J2 (h:bO P A Z s kk OO J M gsz w t) {n:Nat} (hn:n=A.fo∨n=A.fo+1):CE kk OO w.heap.size (.cell ⟨A.fb,n,none⟩):=by
 have hF:A.fb<w.heap.size:=by obtain⟨c,e,h1⟩:=h.pN;exact (Array.getElem?_eq_some_iff.1 h1).1
 refine⟨hF,fun i=>⟨fun hc=>?_,?_⟩⟩
 . obtain⟨x,hx⟩:=hc.own
   obtain⟨j,f,_,_,_,rfl,hf⟩:=h.tok i x hx
   rcases hc with ⟨o,q⟩|⟨m,q,_⟩|⟨g,q,hg⟩
   . rw[hx] at q;cases q
   . rw[hx] at q;cases q
   . rw[hx] at q;cases q;exact hg (hf _)
 . rcases hn with rfl|rfl
   . exact (h.cx i).1
   . exact (h.cx i).2.1
theorem kf {b o:Nat} {e:Event} (he:(e.loc = .mark .disable∨e.loc = .mark .enable)∨∃ i,(i=o∨i=o+1)∧e.loc = .cell ⟨b,i,none⟩∧e.sync=true) :
 (∀ a,(MemAct.ofEvent e).touch? = some a->a.kind = .atomic∧∃ i,(i=o∨i=o+1)∧a.loc = .cell ⟨b,i,none⟩)∧(∀ a,MemAct.ofEvent e ≠ .mark (.release a))∧∀ B,b<B->(MemAct.ofEvent e).low B:=by
 obtain⟨loc,wr,sy⟩:=e
 rcases he with (h|h) | ⟨i,hi,h,h'⟩
 . simp only at h;subst h
   simp[MemAct.ofEvent,MemAct.touch?,MemAct.low]
 . simp only at h;subst h
   simp[MemAct.ofEvent,MemAct.touch?,MemAct.low]
 . simp only at h h';subst h;subst h'
   refine⟨fun a ha=>?_,by simp[MemAct.ofEvent],fun B hB=>by simpa[MemAct.ofEvent,MemAct.low,Loc.low] using hB⟩
   simp only[MemAct.ofEvent,MemAct.touch?,Option.some.injEq] at ha;subst ha;exact⟨rfl,i,hi,rfl⟩
theorem bO.Df (h:bO P A Z s kk OO J M gsz w t) {es:Array Event} (he:EvM A.fb A.fo es) {i:Nat} (hi:be P A s i) (fn:FuncId) (pos:String) :
 u6 kk OO w.heap.size t i (MemOp.ofEvents i fn pos es)∧(∀ op∈MemOp.ofEvents i fn pos es,op.act.low w.heap.size)∧∀ op∈MemOp.ofEvents i fn pos es,(∀ a,op.act.touch? = some a->a.kind = .atomic)∧∀ a,op.act ≠ .mark (.release a):=by
 have hF:A.fb<w.heap.size:=by obtain⟨c,e,h1⟩:=h.pN;exact (Array.getElem?_eq_some_iff.1 h1).1
 refine⟨fun op hop a ha=>?_,fun op hop=>?_,fun op hop=>?_⟩ <;> obtain⟨e,he1,rfl⟩:=Go.Conc.mem_ofEvents hop <;> obtain⟨t1,t2,t3⟩:=kf (he e he1)
 . obtain⟨h1,n,hn,h2⟩:=t1 a ha
   refine⟨h1,fun _=>by rw[h2];exact h.J2 hn,fun m b hb hl hk=>h.quiet m b hb ?_ hk i hi⟩
   rw[hl,h2];exact⟨rfl,.inl ⟨rfl,hn⟩⟩
 . exact t3 _ hF
 . exact⟨fun a ha=>(t1 a ha).1,t2⟩
end
section
variable {P:Program} {A:cC} {Fin:ag->ah->Goroutine->Prop} {Z:Base} {s:MS P} {f f':Nat->Node P} {q q':Nat->Nat} {kk kk':Nat->ag} {OO OO':Nat->ah} {J J' M:Nat->Prop} {gs:Array Goroutine} {w w':World} {t:Trace} {j:Nat} {x:aM P} {sh:Mu.Sh} {g g1:Goroutine}
theorem wA {n:Nat} (h:x.ez=(s.w j).ez):MS.rem P n (s.aC j x sh)=MS.rem P n s:=by
 unfold MS.rem;congr 1
 funext l
 by_cases e:l=j
 . subst e;rw[aA,h]
 . rw[aN e]
theorem ib (hZ:A.b+A.n+1≤Z.lk) (hj:j<A.n) (h1:(s.w j).work=true) (h2:x.work=true) (hf:∀ i,i≠A.b+j->f' i=f i) (hq:∀ i,i≠A.b+j->q' i=q i) (hk:∀ i,i≠A.b+j->i<A.b+A.n+1->kk' i=kk i) (hO:∀ i,i≠A.b+j->i<A.b+A.n+1->OO' i=OO i) (hJ:∀ i,J i->J' i)
 (hdry:(s.sh.ms=0->sh.ms=0)∨(mayWake P g=true∧g1.status = .running)) (hE:∀ {i k O y},J1 P A Fin s i k O y->y.status = .running∧y.offers=none) :
 Beside (bn P A Fin Z hZ) s (s.aC j x sh) f f' q q' kk kk' OO OO' J J' w' (A.b+j) g g1:=by
 have hb:=A.hb;have wl:∀ {i l:Nat},i≠A.b+j->i=A.b+l->(s.aC j x sh).w l=s.w l:=fun {i l} h e=>aN (by omega)
 have hr:MS.rem P A.n (s.aC j x sh)=MS.rem P A.n s:=wA (by rw[(aK h2).2.2.1,(aK h1).2.2.1])
 have live:∀ i,i≠A.b+j->(bW P A (s.aC j x sh) i ↔ bW P A s i):=fun i hi=>by
  constructor <;> rintro (h|⟨l,h1,h2,h3⟩|h)
  . exact .inl h
  . exact .inr (.inl ⟨l,h1,h2,by rw[← wl hi h2];exact h3⟩)
  . exact .inr (.inr h)
  . exact .inl h
  . exact .inr (.inl ⟨l,h1,h2,by rw[wl hi h2];exact h3⟩)
  . exact .inr (.inr h)
 have walk:∀ i,i≠A.b+j->(di P A (s.aC j x sh) i ↔ di P A s i):=fun i hi=>by
  constructor <;> rintro (h|⟨l,h1,h2,h3⟩|h)
  . exact .inl h
  . exact .inr (.inl ⟨l,h1,h2,by rw[← wl hi h2];exact h3⟩)
  . exact .inr (.inr h)
  . exact .inl h
  . exact .inr (.inl ⟨l,h1,h2,by rw[wl hi h2];exact h3⟩)
  . exact .inr (.inr h)
 have held:∀ i,i≠A.b+j->(cL P A (s.aC j x sh) i ↔ cL P A s i):=fun i hi=>by
  constructor <;> rintro (h|⟨l,h1,h2,h3⟩)
  . exact .inl h
  . exact .inr ⟨l,h1,h2,by rw[← wl hi h2];exact h3⟩
  . exact .inl h
  . exact .inr ⟨l,h1,h2,by rw[wl hi h2];exact h3⟩
 refine⟨hf,hq,hk,hO,fun i _ _ h=>hJ i h,live,walk,held,fun i hi hl=>?_,fun i k O y hi _ hA=>?_,fun i hi hw=>?_,fun i hi hw hd=>?_,fun i k O y hi _ hA=>?_,fun i y hi _ ht=>?_⟩
 . show aY P A Fin (s.aC j x sh) i=aY P A Fin s i
   unfold aY;rw[hr]
   rcases hl with ⟨rfl,_⟩|⟨l,h3,rfl,_⟩|⟨rfl,_⟩
   . rfl
   . have e:A.b+l-A.b=l:=by omega
     rw[e,aN (by omega)]
     rfl
   . rw[if_neg (by omega),if_neg (by omega),if_neg (by omega),if_neg (by omega)]
     rfl
 . rcases hA with h|⟨l,h3,h4,h5⟩|h
   . exact .inl h
   . exact .inr (.inl ⟨l,h3,h4,by rw[wl hi h4];exact h5⟩)
   . exact .inr (.inr h)
 . show bF P A (s.aC j x sh) i=bF P A s i
   unfold bF
   rcases hw with ⟨rfl,_⟩|⟨l,h3,rfl,_⟩|⟨rfl,_⟩
   . rfl
   . have e:A.b+l-A.b=l:=by omega
     rw[e,aN (by omega)]
     rfl
   . rw[if_neg (by omega),if_neg (by omega),if_neg (by omega),if_neg (by omega)]
     rfl
 . rcases hdry with hdry|⟨hm,hr⟩
   . refine .inl ?_
     rcases hd with ⟨l,sv,Y,h3,h4,h5,h6⟩|h
     . exact .inl ⟨l,sv,Y,h3,h4,by rw[wl hi h4];exact h5,hdry h6⟩
     . exact .inr h
   . refine .inr fun y hy=>?_
     obtain⟨a1,a2⟩:=hE hy;have hc:(mayWake P g && g1.status != .blocked && g1.status != .waiting)=true:=by rw[hm,hr];rfl
     unfold Go.Conc.woken;rw[if_pos hc,lU a1 a2]
 . rcases hA with ⟨h0,g₂,z,h3,h4,h5,h6⟩|h
   . exact .inl ⟨h0,g₂,z,h3,h4,h5,by rw[hr];exact h6⟩
   . exact .inr h
 . exact fun l b X h3 h4 h5=>ht l b X h3 h4 (by rw[← h5];exact (wl hi h4).symm)
end
end Go.aZ
