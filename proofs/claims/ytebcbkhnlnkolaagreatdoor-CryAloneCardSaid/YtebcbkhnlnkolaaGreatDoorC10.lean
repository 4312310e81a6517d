import Derived.Conc.CrowdComm
import Derived.Test.YtebcbkhnlnkolaaGreatDoorC9
set_option linter.all false
namespace Go.bN
section
open Go.Conc
open Go.ConcN (sumTo upd sumTo_upd upd_ne upd_same)
structure cd where
 b:Nat
 n:Nat
 cl:Nat
 cF:Nat
 fb:Nat
 fo:Nat
 gb:Nat
 mb:Nat
 GI:uq->Prop
 res:Nat->AV
 val:Nat->Value
 nm:FY
 ng:Sb
 hb:0<b/\(cl=0\/cl=b+n)
 hn:n<=900
 d1:cF≠fb
 d2:cF≠gb
 d3:cF≠mb
 d4:fb≠gb
 d5:fb≠mb
 d6:gb≠mb
def cd.dir(A:cd):Bool:=A.cl==0
def cd.cell(A:cd)(j:Nat):Nat:=A.fo+2+j
def Oz{A:cd}(h:A.dir=true):A.cl=0:=by simpa[cd.dir]using h
def xX{A:cd}(h:A.dir=false):A.cl=A.b+A.n:=by have:=A.hb;simp[cd.dir]at h;omega
def jb:aeE:=λ_ _ _=>False
def OA:Nat->aeR:=λ_=>none
def cd.Tk(A:cd)(j:Nat)(f:Nat->aeR):Prop:=if A.dir then ∃v,f=λi=>if i=A.cell j then some v else none else f=OA
def bW(fo:Nat):Nat->aeR:=λi=>if i=fo then some (.int .i32 0)else if i=fo+1 then some (.int .u32 0)else none
section
variable(P:afn)(A:cd)(Fin:aeE)
def TS(j:Nat)(k:ar)(O:an)(g:afd)(N:aeE):Prop:=
 ∃ kind c rest e,kind≠.early/\g=G (Frame.enter P A.nm.lock #[.pointer (some ⟨A.fb,A.fo,none⟩)] kind) (c::rest)/\O A.fb=none/\k.sh A.fb=some e/\(A.dir=true->A.cell j<e.2)/\
   ∀b x a f,k.Le b->mC b x a->A.GI a->O A.mb=none->A.Tk j f->N b ((O.set A.mb x).set A.fb (.part f)) (lS kind c rest (.tuple #[]))
def J6(j:Nat)(k:ar)(O:an)(g:afd)(N:aeE):Prop:=
 ∃ kind c rest f x a,kind≠.early/\g=G (Frame.enter P A.nm.unlock #[.pointer (some ⟨A.fb,A.fo,none⟩)] kind) (c::rest)/\O A.fb=some (.part f)/\O A.mb=some x/\mC k x a/\A.GI a/\(A.dir=true->k.cell A.fb (A.cell j)=some (A.val j))/\
   N k ((O.del A.mb).del A.fb) (lS kind c rest (.tuple #[]))
def mY:Mo:=⟨false,false,λk O g N=>N=jb/\∃a fn tmps todo,P.funcs[a]?=some fn/\fn.results=#[]/\g=G (Frame.enter P A.ng.done #[.pointer (some ⟨A.gb,0,none⟩)] .deferred) [mH P a tmps todo,de P]⟩
def Hz(N:aeE):aeE:=if A.dir then T P (mY P A) jb else N
def jv(j:Nat):Mo:=⟨false,false,λk O g N=>TS P A j k O g N\/J6 P A j k O g (Hz P A N)\/(A.dir=false/\N=jb/\O A.fb=none/\∃a z v,(∀w,Sat k O w->stepG P false g w=.comm a #[scase A.cF v z] true .send w #[])/\V k v (A.res j)/\T P (mY P A) jb k O (Go.Conc.served a undef))⟩
def uE:Mo:=⟨false,false,λk O g N=>N=jb/\∃a n,mayWake P g=true/\(∀w s r b,Sat k O w->w.heap[A.cF]?=some (.chan 0 #[] false s r b)->stepG P false g w=.go a {w with heap:=w.heap.setIfInBounds A.cF (.chan 0 #[] true s r b)} #[⟨.obj A.cF,false,true⟩,⟨.obj A.cF,true,true⟩])/\QuitsD P n 0 a⟩
def Aw:Mo:=⟨false,false,λk O g N=>N=jb/\∃c rest,g=G (Frame.enter P A.ng.wait #[.pointer (some ⟨A.gb,0,none⟩)] .normal) (c::rest)/\∀a,k.Le a->T P (uE P A) jb a O (lS .normal c rest (.tuple #[]))⟩
def XH(k:ar)(O:an)(c:Frame)(rest:aeY):Prop:=(∃e,k.sh A.fb=some e)/\∀b x a,k.Le b->(∀j,j<A.n->b.cell A.fb (A.cell j)=some (A.val j))->mC b x a->A.GI a->Fin b ((O.set A.mb x).set A.fb (.part (bW A.fo))) (lS .normal c rest (.tuple #[]))
def eS(k:ar)(O:an)(g a:afd)(z:Value):Prop:=∀w,Sat k O w->stepG P true g w=.comm a #[rcase A.cF z] true (.recv true) w #[]
def ua:Nat->aff->Mo
 | 0,R=>⟨true,false,λk O g N=>N=jb/\∃b z,eS P A k O g b z/\eS P A k O b b z/\b.status=.running/\(∃e,k.sh A.fb=some e)/\
    ∀c x a,k.Le c->mC c x a->A.GI a->Fin c ((O.set A.mb x).set A.fb (.part (bW A.fo))) (Go.Conc.served b (.tuple #[z,.bool false]))⟩
 | m + 1,R=>⟨true,false,λk O g N=>N=jb/\∃b z,eS P A k O g b z/\eS P A k O b b z/\b.status=.running/\
     ∀j∈R,∀c v,k.Le c->V c v (A.res j)->T P (ua m (R.erase j)) jb c O (Go.Conc.served b (.tuple #[v,.bool true]))⟩
def rX:Nat->Mo
 |0=>if A.dir then⟨true,false,λk O g N=>N=jb/\∃c rest,g=G (Frame.enter P A.ng.wait #[.pointer (some ⟨A.gb,0,none⟩)] .normal) (c::rest)/\XH A Fin k O c rest⟩else⟨true,false,λk O g N=>N=jb/\∃a child,(∀w,Sat k O w->stepG P true g w=.spawn a child w #[])/\T P (Aw P A) jb k an.bot child/\T P (ua P A Fin A.n (List.range A.n)) jb k O a⟩
 | m + 1=>⟨true,false,λk O g N=>N=jb/\∃c rest,g=G (Frame.enter P A.ng.add #[.pointer (some ⟨A.gb,0,none⟩),.int .i64 1] .normal) (c::rest)/\
     T P ⟨true,false,λk O g N=>N=jb/\∃a child,(∀w,Sat k O w->stepG P true g w=.spawn a child w #[])/\T P (jv P A (A.n-(m+1))) jb k an.bot child/\T P (rX m) jb k O a⟩ jb k O (lS .normal c rest (.tuple #[]))⟩
def Ir(m:Nat):Mo:=⟨true,false,λk O g N=>N=jb/\∃a child,(∀w,Sat k O w->stepG P true g w=.spawn a child w #[])/\T P (jv P A (A.n-(m+1))) jb k an.bot child/\T P (rX P A Fin m) jb k O a⟩
structure Lu where
 m:Mo
 k:ar
 O:an
 g:afd
 N:aeE
 h0:g.status=.running
 ht:m.dM k O g N
 c:∀k' O' g',N k' O' g'->TT P m k' O' g'
variable {P} in
def Lu.node(y:Lu P):Node P:=⟨y.m,y.k,y.O,y.g,.dM y.N y.h0 y.ht y.c⟩
inductive bE where
 |idle
 |run (h:Bool) (X:Node P)
 |lk (p:Ec) (Y:Lu P)
 |un (p:Ec) (Y:Lu P)
 |wait
 |BD
 |dn (p:J1)
 |gone
inductive lF where
 |none|fH|wt (p:J1)|kQ|gone
inductive sd where
 |add (j:Nat)|bP (j:Nat) (p:J1)|spawn (j:Nat)|recv|parked|off
structure MS where
 d:Bool
 ms:sd
 sp:Nat
 w:Nat->bE P
 c:lF
 sh:Mu.Sh
 gc:Nat
 gv:Nat
 gm:Nat
def Ec.abs:Ec->Mu.Pc
 |.ld=>.out|.js=>.js|.rd l=>.rd l|.sq o l=>.sq o l|.sw o l=>.sw o l|.my o l=>.my o l|.t1 sv=>.iM sv|.iM sv=>.iM sv|.tq=>.tq|.up sv=>.up sv|.add o sv=>.add o sv
 |.le=>.held|.la=>.held|.back=>.held|.JP=>.held|.ur=>.held|.ud=>.held|.held=>.held|.kA o=>.kA o|.yp=>.yp|.give=>.give|.ue=>.out|.F3=>.out
variable{P}
def bE.pc:bE P->Mu.Pc
 |.run true _=>.held
 |.lk p _=>p.abs
 |.un p _=>p.abs
 |_=>.out
def bE.owns:bE P->Bool
 |.run h _=>h
 |.un .JP _=>true
 |.un .ur _=>true
 |_=>false
def Gc:Ec->Bool
 |.ld=>true|.js=>true|.rd _=>true|.sq ..=>true|.sw ..=>true|.my ..=>true|.t1 _=>true|.iM _=>true|.tq=>true|.up _=>true|.add ..=>true|.le=>true|.la=>true
 |_=>false
def BT:Ec->Bool
 |.JP=>true|.ur=>true|.ud=>true|.held=>true|.kA _=>true|.yp=>true|.give=>true|.ue=>true
 |_=>false
def bE.deaf:bE P->Nat
 |.lk .ld _=>0|.lk .la _=>0|.lk _ _=>1
 |.un .JP _=>0|.un .ur _=>0|.un .ud _=>0|.un _ _=>1
 |.dn .d1=>0|.dn .d2=>0|.dn _=>1
 |_=>0
def vH:J1->Nat
 |.a0=>0|.a2=>1|.a4=>1|.ae=>1
 |.w0=>0|.w1=>1|.we=>1|.wa=>0|.w2 _=>1|.w3=>1|.w4=>1|.w5=>1
 |_=>0
def bE.cT:bE P->Nat
 |.idle=>0|.run ..=>20|.lk ..=>20|.un ..=>20|.wait=>19|.BD=>18
 |.dn .d1=>12|.dn .d2=>11|.dn .d4=>10|.dn .d5=>4|.dn .d6=>3|.dn _=>2|.gone=>0
def lF.cT(gc:Nat):lF->Nat
 |.none=>0|.fH=>14
 |.wt .w0=>13|.wt .w1=>10|.wt (.w2 k)=>if gc=k then 9 else 11|.wt .w3=>8|.wt .w4=>7|.wt .w5=>6|.wt .we=>5|.wt _=>4
 |.kQ=>3|.gone=>0
def sd.cT:sd->Nat
 |.add j=>40*j+200|.bP j .a0=>40*j+199|.bP j .a2=>40*j+198|.bP j .a4=>40*j+197|.bP j _=>40*j+196
 |.spawn j=>40*j+225|.recv=>100|.parked=>99|.off=>0
def MS.cT(n:Nat)(s:MS P):Nat:=s.ms.cT+sumTo n (λj=>(s.w j).cT)+s.c.cT s.gc
def Eu(n:Nat):Nat:=4*(6*(18*n+1)+16)+20
def bE.ex(n:Nat):bE P->Nat
 |.run ..=>2*Eu n|.lk .ld _=>Eu n|.lk (.t1 _) _=>1|.lk .le _=>2|.lk .la _=>1
 |.un .JP _=>5|.un .ur _=>4|.un .ud _=>3|.un .ue _=>1|_=>0
def MS.inner(n:Nat)(s:MS P):Nat:=4*Mu.meas n (λj=>(s.w j).pc) s.sh+sumTo n (λj=>(s.w j).ex n)
def bE.nd:bE P->Option (Node P)
 |.run _ X=>some X|.lk _ Y=>some Y.node|.un _ Y=>some Y.node|_=>none
end
def Lv{P}(a b:Option (Node P)):Prop:=∃x y,a=some x/\b=some y/\Relation.TransGen sb x y
def OB{P}:∀a:Option (Node P),Acc Lv a:=by
 have key:∀x:Node P,Acc (Relation.TransGen sb) x->Acc Lv (some x):=by
  intro x b;induction b with
  |intro x _ c=>exact⟨_,λy ⟨u,v,d,f,h⟩=>by simp_all⟩
 intro a;cases a with
 |none=>exact⟨_,λy ⟨u,v,_,e,_⟩=>by cases e⟩
 |some x=>exact key x ((WellFounded.intro FV).transGen.apply x)
def OC{α:Type}(R:α->α->Prop)(n:Nat)(f' f:Nat->α):Prop:=∃i,i<n/\(∀j,j≠i->f' j=f j)/\R (f' i) (f i)
def Gd{α R}(d:∀a,Acc R a):∀  n  (f:Nat->α),Acc (OC R n) f
 |0,f=>⟨_,λy ⟨i,e,_⟩=>by omega⟩
 | n + 1,f=>by
   have key:∀x:α,Acc R x->∀f:Nat->α,f n=x->Acc (OC R (n+1)) f:=by
    intro x g;induction g with
    | intro x _ h=>
      intro f m;have j:=Gd d n f;induction j with
      | intro f _ b=>
        refine⟨_,λf' ⟨i,e,c,k⟩=>?_⟩;by_cases l:i=n
        . grind
        . exact b f' ⟨i,by omega,c,k⟩ (by grind)
   simp_all
def MS.iD{P}(n:Nat)(s' s:MS P):Prop:=s'.cT n<s.cT n\/(s'.cT n=s.cT n/\(OC Lv n (λj=>(s'.w j).nd) (λj=>(s.w j).nd)\/((λj=>(s'.w j).nd)=(λj=>(s.w j).nd)/\s'.inner n<s.inner n)))
def Sk{P}  n :WellFounded (MS.iD (P:=P) n):=by
 have c:WellFounded (OC (Lv (P:=P)) n):=⟨Gd OB n⟩;have d:=(Prod.lex ⟨Nat.lt,Nat.lt_wfRel.wf⟩ (Prod.lex ⟨OC (Lv (P:=P)) n,c⟩ ⟨Nat.lt,Nat.lt_wfRel.wf⟩)).wf;refine Subrelation.wf (r:=InvImage _ (λs:MS P=>(s.cT n,(λj=>(s.w j).nd),s.inner n))) ?_ (InvImage.wf _ d);intro s' s h;rcases h with h|⟨h,b|⟨b,a⟩⟩
 . exact Prod.Lex.left _ _ h
 . show Prod.Lex _ _ (_,_) (_,_)
   grind
 . show Prod.Lex _ _ (_,_) (_,_)
   rw[h,b];exact Prod.Lex.right _ (Prod.Lex.right _ a)
section
variable{P:afn}
def bE.jK:bE P->Bool
 |.BD=>true|.dn _=>true|.gone=>true|_=>false
def bE.jw:bE P->Bool
 |.idle=>false|.run h _=>h|.lk ..=>false|_=>true
def bE.rel(x:bE P):Bool:=x.jw && !x.owns
def bE.cnt:bE P->Nat
 |.run ..=>1|.lk ..=>1|.un ..=>1|.wait=>1|.BD=>1|.dn .d1=>1|.dn .d2=>1|.dn .d4=>1|_=>0
def bE.busy:bE P->Bool
 |.run ..=>true|.lk ..=>true|.un ..=>true|.wait=>true|.BD=>true|.dn .d1=>true|_=>false
def bE.last:bE P->Bool
 |.dn .d5=>true|.dn .d6=>true|.dn .d7=>true|_=>false
def bE.kR:bE P->Bool
 |.idle=>true|_=>false
def bE.ok:bE P->Bool
 |.lk p _=>Gc p
 |.un p _=>BT p
 |.dn p=>(match p with|.d1=>true|.d2=>true|.d4=>true|.d5=>true|.d6=>true|.d7=>true|_=>false)
 |_=>true
def lF.busy:lF->Bool
 |.fH=>true|.wt _=>true|.kQ=>true|_=>false
def lF.ok:lF->Bool
 |.wt p=>(match p with|.w0=>true|.w1=>true|.w2 _=>true|.w3=>true|.w4=>true|.w5=>true|.we=>true|.wa=>true|_=>false)
 |_=>true
def lF.waits:lF->Bool
 |.wt .w3=>true|.wt .w4=>true|_=>false
def lF.OD:lF->Bool
 |.wt .w5=>true|.wt .we=>true|.wt .wa=>true|.kQ=>true|.gone=>true|_=>false
def lF.isNone:lF->Bool
 |.none=>true|_=>false
def lF.fP:lF->Bool
 |.gone=>true|_=>false
def sd.pend:sd->Nat
 |.bP _ .a4=>1|.bP _ .ae=>1|.spawn _=>1|_=>0
structure cq(n:Nat)(s:MS P):Prop where
 g1:s.gc=sumTo n (λj=>(s.w j).cnt)+s.ms.pend
 g2:s.gv<=1
 BH:s.gv=1->s.c.waits=true/\s.gm=0
 g3:∀j,j<n->(s.w j=.dn .d5\/s.w j=.dn .d6)->s.gv=1/\s.gc=0
 J7:∀i j,i<n->j<n->(s.w i).last=true->(s.w j).last=true->i=j
 g4:∀j,j<n->s.w j=.dn .d7->s.gv=0/\s.gc=0/\s.gm=0/\s.c.waits=true
 g5:s.gm<=1/\(s.gm=1->s.c.waits=true/\s.gv=0/\s.gc=0/\∀j,j<n->(s.w j).last=false)
 g6:s.c.waits=true->s.gv=0->s.gm=0->∃j,j<n/\s.w j=.dn .d7
 g7:s.gv=1->s.gc=0->∃j,j<n/\(s.w j=.dn .d5\/s.w j=.dn .d6)
 g8:s.c.OD=true->s.gc=0/\s.gv=0/\s.gm=0/\∀j,j<n->s.w j=.gone
 g9:∀k,s.c=.wt (.w2 k)->k≠0
 ok:∀j,j<n->(s.w j).ok=true
 Wf:s.c.ok=true
 sp:s.sp<=n
 idle:∀j,j<n->((s.w j).kR=true↔s.sp<=j)
 ms:match s.ms with
  |.add j=>s.sp+j=n/\s.c=.none
  |.bP j p=>s.sp+j=n/\s.c=.none/\1<=j/\(p=.a0\/p=.a2\/p=.a4\/p=.ae)
  |.spawn j=>s.sp+j+1=n/\s.c=.none
  |.recv=>s.sp=n/\s.c≠.none
  |.parked=>s.sp=n/\s.c≠.none/\s.c≠.gone/\∀j,j<n->s.w j≠.wait
  |.off=>s.sp=n/\s.c≠.none
 early:s.d=false->s.c=.none->∀j,j<n->(s.w j).jK=false
 mu:Mu.Inv n (λj=>(s.w j).pc) s.sh
end
variable(P:afn)(A:cd)(Fin:aeE)
def MS.rem(n:Nat)(s:MS P):aff:=(List.range n).filter λj=>!(s.w j).jK
def eD(s:MS P)(i:Nat):Prop:=(i=0/\(match s.ms with|.add _=>True|.spawn _=>True|.recv=>True|_=>False))\/(∃j,j<A.n/\i=A.b+j/\(match s.w j with|.run ..=>True|.BD=>True|_=>False))\/(i=A.cl/\(match s.c with|.fH=>True|.kQ=>True|_=>False))
def iK(s:MS P)(i:Nat):Prop:=(i=0/\(match s.ms with|.bP ..=>True|_=>False))\/(∃j,j<A.n/\i=A.b+j/\(match s.w j with|.lk ..=>True|.un ..=>True|.dn _=>True|_=>False))\/(i=A.cl/\(match s.c with|.wt _=>True|_=>False))
def gF(s:MS P)(i:Nat):Prop:=(i=0/\s.ms=.parked)\/(∃j,j<A.n/\i=A.b+j/\s.w j=.wait)
def cZ(s:MS P)(i:Nat):Mo:=
 if i=0 then(match s.ms with|.add j=>rX P A Fin j|.spawn j=>Ir P A Fin j|_=>ua P A Fin (MS.rem P A.n s).length (MS.rem P A.n s))
 else if i<A.b+A.n then(match s.w (i-A.b)with|.run ..=>jv P A (i-A.b)|_=>mY P A)else(match s.c with|.fH=>Aw P A|_=>uE P A)
def Is(s:MS P)(i:Nat):(cZ P A Fin s i).main=(i==0):=by
 have c:∀m R,(ua P A Fin m R).main=true:=λm R=>by cases m<;>rfl
 have b:∀m,(rX P A Fin m).main=true:=λm=>by
  cases m with
  |zero=>unfold rX;grind
  |succ m=>rfl
 unfold cZ;by_cases a:i=0
 . subst a
   simp only[aay,beq_self_eq_true];split
   . exact b _
   . rfl
   simp_all
 . have:(i==0)=false:=by simp_all
   rw[KD a,this];split
   . split<;>rfl
   . split<;>rfl
def J8(j:Nat)(x:bE P)(k:ar)(O:an)(g:afd):Prop:=
 match x with
 |.lk p Y=>∃kind c rest e,kind≠.early/\qC P A.nm A.fb A.fo kind p (c::rest) g/\Y.m=jv P A j/\O A.fb=none/\k.sh A.fb=some e/\(A.dir=true->A.cell j<e.2)/\∀b x a f,k.Le b->mC b x a->A.GI a->O A.mb=none->A.Tk j f->Y.N b ((O.set A.mb x).set A.fb (.part f)) (lS kind c rest (.tuple #[]))
 | .un p Y=>∃kind c rest,kind≠.early/\qC P A.nm A.fb A.fo kind p (c::rest) g/\Y.m=jv P A j/\
    ((p=.JP\/p=.ur)->∃f x a,O A.fb=some (.part f)/\O A.mb=some x/\mC k x a/\A.GI a/\(A.dir=true->k.cell A.fb (A.cell j)=some (A.val j))/\Hz P A Y.N k ((O.del A.mb).del A.fb) (lS kind c rest (.tuple #[])))/\
    (¬(p=.JP\/p=.ur)->Hz P A Y.N k O (lS kind c rest (.tuple #[])))
 |.dn p=>∃d fn tmps todo,P.funcs[d]?=some fn/\fn.results=#[]/\tY P A.ng A.gb .deferred p [mH P d tmps todo,de P] g
 |_=>False
def Wg(x:lF)(k:ar)(O:an)(g:afd):Prop:=
 match x with
 |.wt p=>∃c rest,tY P A.ng A.gb .normal p (c::rest) g/\if A.dir then XH A Fin k O c rest else ∀a,k.Le a->T P (uE P A) jb a O (lS .normal c rest (.tuple #[]))
 |_=>False
def Y3(x:sd)(k:ar)(O:an)(g:afd):Prop:=
 match x with
 |.bP j p=>∃c rest,tY P A.ng A.gb .normal p (c::rest) g/\T P (Ir P A Fin (j-1)) jb k O (lS .normal c rest (.tuple #[]))
 |_=>False
def XI(s:MS P)(i:Nat)(k:ar)(O:an)(g:afd):Prop:=(i=0/\Y3 P A Fin s.ms k O g)\/(∃j,j<A.n/\i=A.b+j/\J8 P A j (s.w j) k O g)\/(i=A.cl/\Wg P A Fin s.c k O g)
def UW(s:MS P)(i:Nat):Prop:=(∃j sv Y,j<A.n/\i=A.b+j/\s.w j=.lk (.iM sv) Y/\s.sh.ms=0)\/(i=A.cl/\s.c=.wt .w4/\s.gm=0)
def ZV(s:MS P)(i:Nat)(k:ar)(O:an)(g:afd):Prop:=
 (i=0/\∃a z,g=parked a #[rcase A.cF z] (.recv true)/\eS P A k O a a z/\a.status=.running/\(ua P A Fin (MS.rem P A.n s).length (MS.rem P A.n s)).dM k O a jb)\/
 (∃j,j<A.n/\i=A.b+j/\∃a z v,g=parked a #[scase A.cF v z] .send/\V k v (A.res j)/\O A.fb=none/\T P (mY P A) jb k O (Go.Conc.served a undef)/\A.dir=false)
def eT(s:MS P)(i:Nat):Nat:=
 if i=0 then(match s.ms with|.bP _ p=>vH p|.off=>(match s.c with|.wt p=>vH p|_=>0)|_=>0)
 else if i<A.b+A.n then(s.w (i-A.b)).deaf else(match s.c with|.wt p=>vH p|_=>0)
def mZ(w:World):Prop:=(∃v,w.cell? ⟨A.gb,0,none⟩=some v)/\(∃v,w.cell? ⟨A.gb,1,none⟩=some v)/\∃v,w.cell? ⟨A.fb,A.fo,none⟩=some v
def BE(A:cd):Loc->Prop
 |.cell a=>a.spot=none/\((a.block=A.fb/\(a.off=A.fo\/a.off=A.fo+1))\/(a.block=A.gb/\(a.off=0\/a.off=1)))
 |.obj r=>r=A.cF/\A.dir=false
 |_=>False
def fB(s:MS P)(i:Nat):Prop:=(∃j,j<A.n/\i=A.b+j/\(s.w j).busy=true)\/(i=A.cl/\s.c.busy=true)
def cA(s:MS P)(i:Nat):Prop:=i=0\/(∃j,j<s.sp/\i=A.b+j)\/(i=A.cl/\s.c≠.none)
abbrev yu(s:MS P):Prop:=(A.dir=true->s.c≠.none->s.ms=.off)/\(A.dir=true->s.ms≠.recv/\s.ms≠.parked/\s.c≠.fH/\s.c≠.kQ/\s.c≠.gone)/\(A.dir=false->s.ms≠.off)
structure dC(Z:Base)(s:MS P)(kk:afm)(OO:afl)(J M:afa)(gsz:Nat)(w:World)(t:Trace):Prop where
 I:cq A.n s
 size:gsz=A.b+s.sp+(if s.c.isNone||A.dir then 0 else 1)
 dd:s.d=A.dir
 off:yu P A s
 BF:A.dir=true->∀j,j<A.n->((s.w j).jw=false->(∀i,(kk i).cell A.fb (A.cell j)=none)/\∀m a ad,touchAt t m=some a->a.loc=.cell ad->ad.block=A.fb/\ad.off=A.cell j->m<Z.N0)/\((s.w j).rel=true->(kk (A.b+j)).cell A.fb (A.cell j)=some (A.val j))
 CE:A.dir=false->∃x tm,w.heap[A.cF]?=some (.chan 0 #[] s.c.fP x x tm)
 mu:ShM A.fb A.fo w s.sh
 gr:tX A.gb w s.gc s.gv s.gm
 xY:∃c e,w.heap[A.fb]?=some (.cells c e (0,0))
 BU:∃c e,w.heap[A.gb]?=some (.cells c e (0,0))
 iL:∀i,(A.dir=false->OO i A.cF=none)/\OO i A.gb=none
 fI:∀i,(kk i).cell A.fb A.fo=none/\(kk i).cell A.fb (A.fo+1)=none/\(kk i).cell A.gb 0=none/\(kk i).cell A.gb 1=none
 tok:∀i x,OO i A.fb=some x->∃j f,j<A.n/\i=A.b+j/\(s.w j).owns=true/\x=.part f/\∀l,f l≠none->A.dir=true/\l=A.cell j
 BV:∀j,j<A.n->(s.w j).owns=true->OO (A.b+j) A.fb≠none
 Rs:(∀j,j<A.n->(s.w j).owns=false)->∃x a,OO Z.lk A.mb=some x/\mC (kk Z.lk) x a/\A.GI a
 Rt:∀c,OO Z.lk c≠none->c=A.mb/\∀j,j<A.n->(s.w j).owns=false
 hJ:∀i,J i↔fB P A s i
 hM:∀p,M p->t.heard p/\Z.N0<=p/\((t.act? p=some (.mark (.releaseMerge ⟨A.gb,0,none⟩))/\(s.c=.none\/s.c=.fH\/∃q,s.c=.wt q))\/(s.c=.gone/\t.act? p=some (.close A.cF)))
 shut:s.c=.gone->∃p,M p/\t.act? p=some (.close A.cF)/\t.heard p
 quiet:∀m a,touchAt t m=some a->BE A a.loc->a.kind=.plain->∀i,cA P A s i->Knows t i m
 said:∀m a,touchAt t m=some a->BE A a.loc->a.kind=.said->Knows t (if s.c.isNone then 0 else A.cl) m
 old:∀i,cA P A s i->∀m a,m<Z.N0->touchAt t m=some a->a.loc.isMemory=true -> ¬Z.Shun a.loc->Knows t i m
 norel:∀m a,Z.N0<=m->t.act? m≠some (.mark (.release a))
 Ge:∀i,i≠Z.lk -> ¬cA P A s i->kk i=ar.bot/\OO i=an.bot
 vn:∀a,BE A a->(∃c,a=.cell c/\c.block=A.gb)->Z.Shun a
 lG:∀c:Addr,c.block=A.fb/\(c.off=A.fo\/c.off=A.fo+1\/(A.dir=true/\∃j,j<A.n/\c.off=A.cell j)) -> ¬Z.Shun (.cell c)
 gq:(A.dir=false->Z.W0.heap.size<=A.cF)/\Z.W0.heap.size<=A.fb/\Z.W0.heap.size<=A.gb
 la:Z.la=⟨A.fb,A.fo,none⟩
 n0:Z.N0<=t.size
def Node.UX{P:afn}:Node P->Prop
 |⟨_,_,_,_,.dM ..⟩=>True
 |_=>False
def xZ{P:afn}(x X:Node P):Prop:=∀y,(y=x\/Relation.TransGen sb y x)->y.UX->(y=X\/Relation.TransGen sb y X)
def xZ.sub{P:afn}{x y X:Node P}(h:xZ x X)(a:sb y x):xZ y X:=λz b c=>h z (b.elim (λe=>.inr (by rw[e];exact .single a)) (λe=>.inr (e.tail a))) c
def xZ.refl{P:afn}(X:Node P):xZ X X:=λy a _=>a
def Sl(s:MS P)(i:Nat)(x:Node P):Prop:=∀j h X,j<A.n->i=A.b+j->s.w j=.run h X->xZ x X
def cI(Z:Base)(a:A.b+A.n+1<=Z.lk):tV P where
 S:=MS P
 r:=MS.iD A.n
 wf:=Sk A.n
 mo:=cZ P A Fin
 main:=Is P A Fin
 top:=A.b+A.n+1
 lk:=Z.lk
 Xf:=a
 Live:=eD P A
 Walk:=iK P A
 At:=XI P A Fin
 Cv:=UW P A
 qS:=gF P A
 H5:=ZV P A Fin
 deaf:=eT P A
 Wd:=mZ A
 Ex:=dC P A Z
 RZ:=Sl P A
 tie:=λs i x y hs h j b X c d e=>(h j b X c d e).sub hs
end
section
open Go.Conc
open Go.ConcN (sumTo upd sumTo_upd upd_ne upd_same)
def Ax{t}(u:Trace){p x}(h:t.act? p=some x)(b:t.heard p):(t++u).act? p=some x/\(t++u).heard p:=by have a:=lt_of_act? h;exact⟨by rw[act?_old a];exact h,(heard_old a).2 b⟩
structure Gf  b o  (w w':World):Prop where
 cell:∀l,l=o\/l=o+1->w'.cell? ⟨b,l,none⟩=w.cell? ⟨b,l,none⟩
 fz:∀l,w'.frozen? ⟨b,l,none⟩=w.frozen? ⟨b,l,none⟩
def Gf.of_heap{b o w w'}(h:w'.heap[b]?=w.heap[b]?):Gf b o w w':=⟨λl _=>by simp only[World.cell?,h],λl=>by simp only[World.frozen?,h]⟩
def ShM.same{b o w w' s}(h:ShM b o w s)(e:Gf b o w w'):ShM b o w' s:=⟨by rw[e.cell _ (.inl rfl)];exact h.cw,by rw[e.cell _ (.inr rfl)];exact h.cs,λi=>by rw[e.fz];exact h.fz i⟩
def tX.same{b w w' c v m}(h:tX b w c v m)(e:Gf b 0 w w'):tX b w' c v m:=⟨by rw[e.cell _ (.inl rfl)];exact h.cw,by rw[e.cell _ (.inr rfl)];exact h.cs,λi=>by rw[e.fz];exact h.fz i⟩
def fh{t u m a}(h:touchAt (t++u) m=some a):(touchAt t m=some a/\m<t.size)\/∃op∈u,op.act.touch?=some a:=by
 obtain⟨x,d,b⟩:=touch_of h;rcases getElem?_append_cases d with⟨e,c⟩|⟨_,f⟩
 . exact .inl ⟨by rw[touchAt_of c];exact b,e⟩
 grind
def tA{t u:Trace}{m x}(h:(t++u).act? m=some x):(t.act? m=some x/\m<t.size)\/∃op∈u,op.act=x:=by
 unfold Trace.act? at h;obtain⟨y,b,rfl⟩:=aaD.1 h;rcases getElem?_append_cases b with⟨c,a⟩|⟨_,d⟩
 . exact .inl ⟨by simp[Trace.act?,a],c⟩
 grind
section
variable{P:afn}{A:cd}{Fin:aeE}{Z:Base}{s:MS P}{kk kk':afm}{OO OO':afl}{J M:afa}{gsz:Nat}{w w':World}{t:Trace}
def dC.mc(h:dC P A Z s kk OO J M gsz w t)  u  (j:∀op∈u,∀a,op.act.touch?=some a->BE A a.loc->a.kind≠.plain):∀m a,touchAt (t++u) m=some a->BE A a.loc->a.kind=.plain->∀i,cA P A s i->Knows (t++u) i m:=λm a c d e i f=>by
 rcases fh c with⟨b,_⟩|⟨op,g,b⟩
 . exact(h.quiet m a b d e i f).app u
 grind
def dC.rl(h:dC P A Z s kk OO J M gsz w t)  u  (i:∀op∈u,∀a,op.act.touch?=some a->BE A a.loc->a.kind≠.said):∀m a,touchAt (t++u) m=some a->BE A a.loc->a.kind=.said->Knows (t++u) (if s.c.isNone then 0 else A.cl) m:=λm a d e f=>by
 rcases fh d with⟨b,_⟩|⟨op,g,b⟩
 . exact(h.said m a b e f).app u
 grind
def dC.sQ(h:dC P A Z s kk OO J M gsz w t)  u :∀i,cA P A s i->∀m a,m<Z.N0->touchAt (t++u) m=some a->a.loc.isMemory=true -> ¬Z.Shun a.loc->Knows (t++u) i m:=λi g m a e j b k=>by
 have c:m<t.size:=aaQ e h.n0
 have l:touchAt t m=some a:=by obtain⟨x,f,d⟩:=touch_of j;rw[aei c]at f;rw[touchAt_of f];exact d
 exact(h.old i g m a e l b k).app u
def dC.kS(h:dC P A Z s kk OO J M gsz w t)  u  (f:∀op∈u,∀a,op.act≠.mark (.release a)):∀m a,Z.N0<=m->(t++u).act? m≠some (.mark (.release a)):=λm a c e=>by
 rcases tA e with⟨b,_⟩|⟨op,d,b⟩
 . exact h.norel m a c b
 simp_all
def dC.ya(h:dC P A Z s kk OO J M gsz w t)  u :∀p,M p->(t++u).heard p/\Z.N0<=p/\(((t++u).act? p=some (.mark (.releaseMerge ⟨A.gb,0,none⟩))/\(s.c=.none\/s.c=.fH\/∃q,s.c=.wt q))\/(s.c=.gone/\(t++u).act? p=some (.close A.cF))):=λp e=>by
 obtain⟨b,i,a⟩:=h.hM p e;rcases a with⟨a,d⟩|⟨a,d⟩
 . obtain⟨f,g⟩:=Ax u a b
   simp_all
 obtain⟨f,g⟩:=Ax u d b
 simp_all
def dC.oX(h:dC P A Z s kk OO J M gsz w t)  u :s.c=.gone->∃p,M p/\(t++u).act? p=some (.close A.cF)/\(t++u).heard p:=λa=>by
 obtain⟨p,e,b,d⟩:=h.shut a;obtain⟨f,g⟩:=Ax u b d
 grind
def It(I:cq A.n s){i}(d:eD P A s i):cA P A s i:=by
 rcases d with⟨h,_⟩|⟨j,b,c,f⟩|⟨b,c⟩
 . exact .inl h
 . refine .inr (.inl ⟨j,?_,c⟩)
   have a:=I.idle j b;cases e:s.w j with
   |idle=>simp_all
   |_=>rw[e]at a;simp[bE.kR]at a;omega
 refine .inr (.inr ⟨b,λe=>?_⟩)
 simp_all
def OE{i}(a:eD P A s i):i<A.b+A.n+1:=by
 have:=A.hb;rcases a with⟨h,_⟩|⟨j,c,d,e⟩|⟨c,d⟩<;>omega
def dC.Sm(h:dC P A Z s kk OO J M gsz w t){i l}(a:aZ (OO i) A.fb l):A.dir=true/\∃j,j<A.n/\(i=A.b+j/\(s.w j).owns=true)/\l=A.cell j:=by
 obtain⟨x,c⟩:=a.own;obtain⟨j,f,d,e,k,rfl,p⟩:=h.tok i x c;rcases a with⟨o,q⟩|⟨m,q,_⟩|⟨g,q,r⟩
 . simp_all
 . simp_all
 rw[c]at q;cases q;grind
def CG{x:bE P}(h:x.owns=true):x.jw=true:=by cases x<;>simp_all [bE.owns,bE.jw]
def BW(h:dC P A Z s kk OO J M gsz w t){i e}(n:kz (kk i) (OO i) w.heap.size e){a}(p:(MemAct.ofEvent e).touch?=some a):¬BE A a.loc:=λb=>by
 have q:A.fb<w.heap.size:=by obtain⟨c,e,k⟩:=h.xY;grind
 have u:A.gb<w.heap.size:=by obtain⟨c,e,k⟩:=h.BU;grind
 have g:∀l,(l=A.fo\/l=A.fo+1) -> ¬aZ (OO i) A.fb l:=λl f m=>by obtain⟨_,_,_,_,e⟩:=h.Sm m;unfold cd.cell at e;omega
 have j:∀l,¬aZ (OO i) A.gb l:=λl=>fA (h.iL i).2
 obtain⟨v,y,z,B⟩:=h.fI i
 rcases lL n p with⟨C,f,m⟩|⟨r,f,d⟩
 . rw[f]at b
   obtain⟨_,b⟩:=b
   grind
 rw[f]at b;obtain⟨b,hd⟩:r=A.cF/\A.dir=false:=b;subst b
 rcases d with⟨o,d⟩|d
 . rw[(h.iL i).1 hd]at d;cases d
 obtain⟨x,D,k⟩:=h.CE hd
 simp_all
def BX{k O B e}(b:kz k O B e)  a :MemAct.ofEvent e≠.mark (.release a):=by
 obtain⟨loc,wr,c⟩:=e;cases loc with
 |mark m=>simp only[kz]at b;cases m<;>simp_all [lK,py,MemAct.ofEvent]
 |cell d=>simp[MemAct.ofEvent]
 |obj r=>cases wr<;>cases c<;>simp[MemAct.ofEvent]
 |_=>simp[kz]at b
def dC.own(h:dC P A Z s kk OO J M gsz w t)(hZ:A.b+A.n+1<=Z.lk){i}(V:eD P A s i){k' O' es}(D:Eff (kk i) (OO i) w k' O' w' es)  u
 (H:∀op∈u,∃e,kz (kk i) (OO i) w.heap.size e/\op.act=.ofEvent e):dC P A Z s (cz kk i k') (cz OO i O') J M gsz w' (t++u):=by
 have K:i≠Z.lk:=by have:=OE V;omega
 have Q:=It h.I V;have W:A.fb<w.heap.size:=by obtain⟨c,e,d⟩:=h.xY;grind
 have X:A.gb<w.heap.size:=by obtain⟨c,e,d⟩:=h.BU;grind
 have hC:A.dir=false->A.cF<w.heap.size:=λhd=>by obtain⟨x,tm,d⟩:=h.CE hd;grind
 have R:=D.keep A.gb X (h.iL i).2
 have S:Gf A.fb A.fo w w'/\∃c e,w'.heap[A.fb]?=some (.cells c e (0,0)):=by
  cases q:OO i A.fb with
  |none=>have:=D.keep A.fb W q;exact⟨.of_heap this,by rw[this];exact h.xY⟩
  | some x=>
    obtain⟨j,f,_,_,_,rfl,hf⟩:=h.tok i x q;obtain⟨c,e,d⟩:=h.xY;obtain⟨c',N,h3,h4⟩:=D.part A.fb f W q c e d;refine⟨⟨λl V=>?_,λl=>?_⟩,c',e,N⟩
    . simp only[World.cell?,d,N];rw[h4 l (aaH λhh=>by have:=(hf l hh).2;unfold cd.cell at this;omega)]
    simp only[World.frozen?,d,N]
 have p:∀c,c<w.heap.size->OO i c=none->O' c=none:=λc hc hn=>by
  cases q:O' c with
  |none=>rfl
  | some x=>
    rcases D.own c x q with⟨y,hy,_⟩|hy
    . simp_all
    omega
 have z:∀l,(l=A.fo\/l=A.fo+1) -> ¬aZ (OO i) A.fb l:=λl V hc=>by obtain⟨_,_,_,_,e⟩:=h.Sm hc;unfold cd.cell at e;omega
 have a7:∀l,l<A.n->(s.w l).jw=false -> ¬aZ (OO i) A.fb (A.cell l):=λl _ O hc=>by
  obtain⟨_,j,_,⟨_,T⟩,e⟩:=h.Sm hc;obtain rfl:l=j:=by unfold cd.cell at e;omega
  rw[CG T]at O;cases O
 have E:∀c l,c<w.heap.size -> ¬aZ (OO i) c l->(kk i).cell c l=none->k'.cell c l=none:=λc l hc ax hn=>by
  cases q:k'.cell c l with
  |none=>rfl
  | some v=>
    rcases D.cell c l v q with d|d|d
    . simp_all
    . simp_all
    omega
 obtain⟨a8,a9,al,av⟩:=h.fI i
 have U:∀op∈u,∀a,op.act.touch?=some a -> ¬BE A a.loc:=λop k a G=>by obtain⟨e,B,C⟩:=H op k;rw[C]at G;exact BW h B G
 refine⟨h.I,h.size,h.dd,h.off,λhd l F=>⟨λO=>⟨λj=>?_,λm a ad G e e'=>?_⟩,λhr=>?_⟩,λhd=>by rw[D.keep A.cF (hC hd) ((h.iL i).1 hd)];exact h.CE hd,h.mu.same S.1,h.gr.same (.of_heap R),S.2,by rw[R];exact h.BU,λj=>?_,λj=>?_,λj x Y=>?_,λj hj T=>?_,λT=>?_,λc hc=>?_,h.hJ,h.ya u,h.oX u,
  h.mc u (λop k a G hs=>absurd hs (U op k a G)),h.rl u (λop k a G hs=>absurd hs (U op k a G)),h.sQ u,h.kS u (λop k a=>by obtain⟨e,B,C⟩:=H op k;rw[C];exact BX B a),λj hj hb=>?_,h.vn,h.lG,h.gq,h.la,by simp;exact aap h.n0 (adh _ _)⟩
 . have d:=((h.BF hd l F).1 O).1 j
   by_cases e:j=i
   . subst e;rw[au];simp_all
   rw[aA _ _ e];exact d
 . rcases fh G with⟨d,_⟩|⟨op,k,d⟩
   . exact((h.BF hd l F).1 O).2 m a ad d e e'
   obtain⟨ev,B,C⟩:=H op k;rw[C]at d
   rcases lL B d with⟨ad,L,hc⟩|⟨r,L,_⟩
   . rw[e]at L
     cases L;rw[e'.1,e'.2]at hc
     rcases hc with hc|hc|⟨_,v,hc⟩
     . simp_all
     . omega
     have:=((h.BF hd l F).1 O).1 i
     simp_all
   simp_all
 . have d:=(h.BF hd l F).2 hr
   by_cases e:A.b+l=i
   . rw[e,au];rw[e]at d;exact D.le.1 _ _ _ d
   rw[aA _ _ e];exact d
 . by_cases e:j=i
   . subst e;rw[au];exact⟨λhd=>p _ (hC hd) ((h.iL j).1 hd),p _ X (h.iL j).2⟩
   rw[aA _ _ e];exact h.iL j
 . by_cases e:j=i
   . subst e;rw[au]
     exact⟨E _ _ W (z _ (.inl rfl)) a8,E _ _ W (z _ (.inr rfl)) a9,E _ _ X (fA (h.iL j).2) al,E _ _ X (fA (h.iL j).2) av⟩
   rw[aA _ _ e];exact h.fI j
 . by_cases e:j=i
   . subst e;rw[au]at Y
     rcases D.own _ x Y with⟨y,hy,hb⟩|hy
     . obtain⟨l,f,d,N,h3,rfl,h4⟩:=h.tok j y hy
       cases x with
       |obj o=>exact hb.elim
       |tail m=>exact hb.elim
       |part g=>exact⟨l,g,d,N,h3,rfl,λa q=>h4 a (hb a q)⟩
     omega
   rw[aA _ _ e]at Y;exact h.tok j x Y
 . have d:=h.BV j hj T
   by_cases e:A.b+j=i
   . rw[e,au]
     rw[e]at d;cases q:OO i A.fb with
     |none=>simp_all
     | some x=>
       obtain⟨_,f,_,_,_,rfl,_⟩:=h.tok i x q;obtain⟨f',N⟩:=D.tok _ f q
       grind
   rw[aA _ _ e];exact d
 . rw[aA _ _ (zs K),aA _ _ (zs K)];exact h.Rs T
 . rw[aA _ _ (zs K)]at hc;exact h.Rt c hc
 have e:j≠i:=λe=>hb (e ▸ Q)
 rw[aA _ _ e,aA _ _ e];exact h.Ge j hj hb
def dC.still(h:dC P A Z s kk OO J M gsz w t)  u  (i:∀op∈u,op.act.touch?=none/\∀a,op.act≠.mark (.release a)):dC P A Z s kk OO J M gsz w (t++u):=
 ⟨h.I,h.size,h.dd,h.off,λhd l c=>⟨λf=>⟨((h.BF hd l c).1 f).1,λm a j d e k=>(fh d).elim (λg=>((h.BF hd l c).1 f).2 m a j g.1 e k) (λ⟨op,b,g⟩=>by simp_all)⟩,(h.BF hd l c).2⟩,h.CE,h.mu,h.gr,h.xY,h.BU,h.iL,h.fI,h.tok,h.BV,h.Rs,h.Rt,h.hJ,h.ya u,h.oX u,h.mc u (λop b a d=>by simp_all),h.rl u (λop b a d=>by simp_all),
   h.sQ u,h.kS u (λop b=>(i op b).2),h.Ge,h.vn,h.lG,h.gq,h.la,by simp;exact aap h.n0 (adh _ _)⟩
def bx  y :Cw (cI P A Fin Z y) where
 own:=λa m _ he u _ _ o=>dC.own a y m he u o
 slip:=λa u _ hu=>dC.still a u hu
 draw:=λ{s kk OO J M n w t} a d=>by have a:dC P A Z s kk OO J M n w t:=a;exact⟨a.I,a.size,a.dd,a.off,a.BF,a.CE,a.mu.heap rfl,a.gr.same (.of_heap rfl),a.xY,a.BU,a.iL,a.fI,a.tok,a.BV,a.Rs,a.Rt,a.hJ,a.hM,a.shut,a.quiet,a.said,a.old,a.norel,a.Ge,a.vn,a.lG,a.gq,a.la,a.n0⟩
 vq := λ{s kk OO J M n w t j g} a B k O b=>by
  have a:dC P A Z s kk OO J M n w t:=a
  have q:s.c.fP=false:=by
   rcases B with⟨_,hm⟩|⟨l,m,_,hw⟩
   . have:=a.I.ms
     rw[hm]at this;have:=this.2.2.1;cases e:s.c<;>simp_all [lF.fP]
   cases e:s.c with
   | gone=>
     have:=(a.I.g8 (by rw[e];rfl)).2.2.2 l m
     simp_all
   |_=>rfl
  have hd:A.dir=false:=by
   cases e:A.dir with
   |false=>rfl
   | true=>
     rcases b with⟨h0,_⟩|⟨l,_,_,h,z,v,_,_,_,_,hd⟩
     . have:=A.hb
       rcases B with⟨_,hm⟩|⟨l,m,f,hw⟩
       . exact absurd hm (a.off.2.1 e).2.1
       omega
     simp_all
  obtain⟨x,C,r⟩:=a.CE hd;rw[q]at r;rcases b with⟨_,h,z,rfl,_⟩|⟨l,_,_,h,z,v,rfl,_⟩
  . exact again_recv_open r
  exact again_send_open r
 wd:=λ{s kk OO J M n w t} a=>by have a:dC P A Z s kk OO J M n w t:=a;exact⟨⟨_,a.gr.cw⟩,⟨_,a.gr.cs⟩,⟨_,a.mu.cw⟩⟩
 mO:=λ{s i k O g} b=>by
  rcases b with⟨_,b⟩|⟨j,_,_,b⟩|⟨_,b⟩
  . cases e:s.ms with
    |bP j p=>rw[e]at b;obtain⟨c,rest,f,_⟩:=b;exact f.running
    |_=>rw[e]at b;exact b.elim
  . cases e:s.w j with
    |lk p Y=>rw[e]at b;obtain⟨kind,c,rest,_,_,f,_⟩:=b;exact f.running
    |un p Y=>rw[e]at b;obtain⟨kind,c,rest,_,f,_⟩:=b;exact f.running
    |dn p=>rw[e]at b;obtain⟨D,fn,tmps,todo,_,_,f⟩:=b;exact f.running
    |_=>rw[e]at b;exact b.elim
  cases e:s.c with
  |wt p=>rw[e]at b;obtain⟨c,rest,f,_⟩:=b;exact f.running
  |_=>rw[e]at b;exact b.elim
end
end
section
open Go.Conc
open Go.ConcN (sumTo upd sumTo_upd upd_ne upd_same)
variable{P:afn}
def MS.bb(s:MS P)(j:Nat)(x:bE P)(sh:Mu.Sh):MS P:={s with w:=λi=>if i=j then x else s.w i,sh:=sh}
section
variable{s:MS P}{j n:Nat}{x:bE P}{sh:Mu.Sh}
def bc:(s.bb j x sh).w j=x:=by simp[MS.bb]
def cU{i}(h:i≠j):(s.bb j x sh).w i=s.w i:=by simp[MS.bb,h]
def J9:(λi=>((s.bb j x sh).w i).pc)=Mu.set (λi=>(s.w i).pc) j x.pc:=by
 funext i;by_cases h:i=j
 . subst h;rw[bc,Mu.ai]
 rw[cU h,Mu.ah _ _ h]
def vI(F:bE P->Nat)(hj:j<n):sumTo n (λi=>F ((s.bb j x sh).w i))+F (s.w j)=sumTo n (λi=>F (s.w i))+F x:=by
 have e:(λi=>F ((s.bb j x sh).w i))=upd (λi=>F (s.w i)) j (F x):=by
  funext i;by_cases h:i=j
  . subst h;rw[bc,upd_same]
  rw[cU h,upd_ne _ _ h]
 rw[e];have:=sumTo_upd (λi=>F (s.w i)) (F x) id hj
 simp_all
def bE.work:bE P->Bool
 |.run ..=>true|.lk ..=>true|.un ..=>true|_=>false
def bQ{x:bE P}(h:x.work=true):x.cnt=1/\x.cT=20/\x.jK=false/\x.last=false/\x.kR=false/\x.busy=true/\x≠.gone/\x≠.wait/\∀p,x≠.dn p:=by cases x<;>simp_all [bE.work,bE.cnt,bE.cT,bE.jK,bE.last,bE.kR,bE.busy]
def bE.Ev:bE P->Bool
 |.run ..=>true|.lk ..=>true|.un ..=>true|.BD=>true|.dn .d1=>true|.dn .d2=>true|.dn .d4=>true|_=>false
def Ay{x:bE P}(h:x.Ev=true):x.cnt=1/\x.last=false/\x.kR=false/\x≠.gone/\x≠.wait/\∀p,(p=.d5\/p=.d6\/p=.d7)->x≠.dn p:=by
 cases x with
 |dn p=>cases p<;>simp_all [bE.Ev,bE.cnt,bE.last,bE.kR]
 |_=>simp_all [bE.Ev,bE.cnt,bE.last,bE.kR]
def cq.same(I:cq n s)(hj:j<n)(o:(s.w j).Ev=true)(q:x.Ev=true)(r:x.jK=(s.w j).jK\/s.d=true)(G:x.ok=true)(t:Mu.Inv n (Mu.set (λi=>(s.w i).pc) j x.pc) sh):cq n (s.bb j x sh):=by
 obtain⟨H,a4,u,J,K,L⟩:=Ay o;obtain⟨M,N,v,O,Q,g⟩:=Ay q;have m:=vI (s:=s) (x:=x) (sh:=sh) bE.cnt hj
 have look:∀{i:Nat}{y:bE P},(s.bb j x sh).w i=y->x≠y->i≠j/\s.w i=y:=λ{i y} h z=>by
  by_cases e:i=j
  . subst e;rw[bc]at h;simp_all
  rw[cU e]at h;simp_all
 have back:∀{i:Nat}{y:bE P},s.w i=y->(s.w j)≠y->(s.bb j x sh).w i=y:=λ{i y} h z=>by
  by_cases e:i=j
  . simp_all
  rw[cU e];exact h
 have b:∀{i:Nat},((s.bb j x sh).w i).last=(s.w i).last:=λ{i}=>by
  by_cases e:i=j
  . grind
  rw[cU e]
 refine⟨?_,I.g2,I.BH,λi a h=>?_,λi l a A h f=>?_,λi a h=>?_,⟨I.g5.1,λh=>?_⟩,λh f k=>?_,λh f=>?_,λh=>?_,I.g9,λi a=>?_,I.Wf,I.sp,λi a=>?_,?_,λhd h i a=>?_,by rw[J9];exact t⟩
 . have:=I.g1
   show s.gc=sumTo n (λi=>((s.bb j x sh).w i).cnt)+s.ms.pend;omega
 . exact I.g3 i a (h.imp (λh=>(look h (g _ (by simp))).2) (λh=>(look h (g _ (by simp))).2))
 . rw[b]at h f;exact I.J7 i l a A h f
 . exact I.g4 i a (look h (g _ (by simp))).2
 . obtain⟨B,C,D,E⟩:=I.g5.2 h
   exact⟨B,C,D,λi a=>by grind⟩
 . obtain⟨i,a,F⟩:=I.g6 h f k
   grind
 . obtain⟨i,a,F⟩:=I.g7 h f
   grind
 . obtain⟨_,_,_,E⟩:=I.g8 h
   simp_all
 . by_cases e:i=j
   . grind
   rw[cU e];exact I.ok i a
 . by_cases e:i=j
   . subst e
     rw[bc,v];have:=I.idle i a;rw[u]at this;exact this
   rw[cU e];exact I.idle i a
 . have:=I.ms
   show match s.ms with
   |.add l=>s.sp+l=n/\s.c=.none
   |.bP l p=>s.sp+l=n/\s.c=.none/\1<=l/\(p=.a0\/p=.a2\/p=.a4\/p=.ae)
   |.spawn l=>s.sp+l+1=n/\s.c=.none
   |.recv=>s.sp=n/\s.c≠.none
   |.parked=>s.sp=n/\s.c≠.none/\s.c≠.gone/\∀i,i<n->(s.bb j x sh).w i≠.wait
   |.off=>s.sp=n/\s.c≠.none
   grind
 by_cases e:i=j
 . subst e;rw[bc,r.resolve_right λe=>by have hd:s.d=false:=hd;grind];exact I.early hd h i a
 rw[cU e];exact I.early hd h i a
def CH{x:bE P}(h:x.work=true):x.Ev=true:=by cases x<;>simp_all [bE.work,bE.Ev]
def cq.work(I:cq n s)(hj:j<n)(a:(s.w j).work=true)(b:x.work=true)(c:x.ok=true)(d:Mu.Inv n (Mu.set (λi=>(s.w i).pc) j x.pc) sh):cq n (s.bb j x sh):=I.same hj (CH a) (CH b) (.inl (by rw[(bQ a).2.2.1,(bQ b).2.2.1])) c d
def UY(F:bE P->Nat)(hj:j<n)(h:F x=F (s.w j)):sumTo n (λi=>F ((s.bb j x sh).w i))=sumTo n (λi=>F (s.w i)):=by have:=vI (s:=s) (x:=x) (sh:=sh) F hj;omega
def Gg(hj:j<n)(a:(s.w j).work=true)(b:x.work=true):(s.bb j x sh).cT n=s.cT n:=by
 have:=UY (s:=s) (x:=x) (sh:=sh) bE.cT hj (by rw[(bQ a).2.1,(bQ b).2.1]);show s.ms.cT+sumTo n (λi=>((s.bb j x sh).w i).cT)+s.c.cT s.gc=_;rw[this];rfl
def Ew(hj:j<n)(a:(s.w j).work=true)(b:x.work=true)(h:Lv x.nd (s.w j).nd):MS.iD n (s.bb j x sh) s:=.inr ⟨Gg hj a b,.inl ⟨j,hj,λi c=>by show((s.bb j x sh).w i).nd=_;rw[cU c],by simp only[bc];exact h⟩⟩
def yM(hj:j<n)(a:(s.w j).work=true)(b:x.work=true)(h:x.nd=(s.w j).nd)(hi:4*Mu.meas n (Mu.set (λi=>(s.w i).pc) j x.pc) sh+x.ex n<4*Mu.meas n (λi=>(s.w i).pc) s.sh+(s.w j).ex n):MS.iD n (s.bb j x sh) s:=by
 refine .inr ⟨Gg hj a b,.inr ⟨?_,?_⟩⟩
 . funext i
   by_cases e:i=j
   . subst e;rw[bc];exact h
   rw[cU e]
 have:=vI (s:=s) (x:=x) (sh:=sh) (bE.ex n) hj;show 4*Mu.meas n (λi=>((s.bb j x sh).w i).pc) sh+sumTo n (λi=>((s.bb j x sh).w i).ex n)<4*Mu.meas n (λi=>(s.w i).pc) s.sh+sumTo n (λi=>(s.w i).ex n);rw[J9];omega
def Ka(I:cq n s)(hj:j<n)(a:(s.w j).work=true)(b:x.work=true)(h:x.nd=(s.w j).nd)(c:(x.pc,sh)∈Mu.mv (s.w j).pc s.sh)(d:x.ex n<=3):MS.iD n (s.bb j x sh) s:=by
 have:=(Mu.K5 (pcs:=λi=>(s.w i).pc) hj (I.mu.j0 j hj) c).1;exact yM hj a b h (by omega)
def cq.mv(I:cq n s)(hj:j<n)(a:(s.w j).work=true)(b:x.work=true)(c:x.ok=true)(d:(x.pc,sh)∈Mu.mv (s.w j).pc s.sh):cq n (s.bb j x sh):=I.work hj a b c (I.mu.step hj d)
def kT  pcs   i :Mu.set pcs i (pcs i)=pcs:=by
 funext l;by_cases e:l=i
 . subst e;exact Mu.ai _ _ _
 exact Mu.ah _ _ e
def og(hj:j<n)(a:(s.w j).work=true)(b:x.work=true)(h:x.nd=(s.w j).nd)(c:x.pc=(s.w j).pc)(d:x.ex n<(s.w j).ex n):MS.iD n (s.bb j x s.sh) s:=by
 refine yM hj a b h ?_;rw[c,kT (λi=>(s.w i).pc)];omega
def cq.still(I:cq n s)(hj:j<n)(a:(s.w j).work=true)(b:x.work=true)(c:x.ok=true)(d:x.pc=(s.w j).pc):cq n (s.bb j x s.sh):=I.work hj a b c (by rw[d,kT (λi=>(s.w i).pc)];exact I.mu)
def iu(F:Mu.Pc->Nat){pcs i}(a:pcs i=.out)(h:F .js=F .out):(λl=>F (Mu.set pcs i .js l))=λl=>F (pcs l):=by
 funext l;by_cases e:l=i
 . subst e;rw[Mu.ai,a,h]
 rw[Mu.ah _ _ e]
def Sn{n pcs s i}(h:Mu.Inv n pcs s)(a:pcs i=.out):Mu.Inv n (Mu.set pcs i .js) s:=by
 obtain⟨⟨m,c,d,f,g⟩,j,o⟩:=h;refine⟨⟨λl k=>?_,?_,?_,?_,?_⟩,j,λl k old sv b=>?_⟩
 . by_cases e:l=i
   . subst e;rw[Mu.ai];trivial
   rw[Mu.ah _ _ e];grind
 . rw[iu Mu.cM a rfl];exact c
 . rw[iu Mu.gZ a rfl,iu Mu.dh a rfl,iu Mu.pI a rfl,iu Mu.dG a rfl,iu Mu.dg a rfl];exact d
 . rw[iu Mu.gZ a rfl,iu Mu.dh a rfl,iu Mu.pI a rfl,iu Mu.dG a rfl,iu Mu.dg a rfl];exact f
 . rw[iu Mu.ju a rfl];exact g
 by_cases e:l=i
 . subst e;rw[Mu.ai]at b;cases b
 rw[Mu.ah _ _ e]at b;grind
def Gh{n pcs s i}(hi:i<n)(a:pcs i=.out):Mu.meas n (Mu.set pcs i .js) s=Mu.meas n pcs s+(6*(18*n+1)+16):=by
 have C:=Mu.iG Mu.iN pcs i .js hi;have R:=Mu.iG (Mu.lg s.w) pcs i .js hi;rw[a]at C R;have b:Mu.iN .out=0:=rfl;have c:Mu.iN .js=6:=rfl;have d:Mu.lg s.w .out=0:=rfl;have e:Mu.lg s.w .js=16:=rfl;rw[b,c]at C;rw[d,e]at R;have f:Mu.phi n (Mu.set pcs i .js) s=Mu.phi n pcs s+6:=by unfold Mu.phi;omega
 unfold Mu.meas
 grind
def OF(hj:j<n)(a:(s.w j).work=true)(b:x.work=true)(h:x.nd=(s.w j).nd)(c:(s.w j).pc=.out)(d:x.pc=.js)(e:(s.w j).ex n=Eu n)(f:x.ex n=0):MS.iD n (s.bb j x s.sh) s:=by refine yM hj a b h ?_;rw[d,Gh hj c,e,f];unfold Eu;omega
def cq.enq(I:cq n s)(hj:j<n)(a:(s.w j).work=true)(b:x.work=true)(c:x.ok=true)(d:(s.w j).pc=.out)(e:x.pc=.js):cq n (s.bb j x s.sh):=I.work hj a b c (by rw[e];exact Sn I.mu d)
end
end
open Go.Conc
open Go.ConcN (sumTo upd sumTo_upd upd_ne upd_same)
section
variable{P:afn}{A:tV P}{Z:Base}{s s':A.S}{f f':Nat->Node P}{q q':afh}{kk kk':afm}{OO OO':afl}{J J' M M':afa}{gs:aeK}{w w':World}{t u:Trace}{i:Nat}{g g1:afd}
structure Beside(A:tV P)(s s':A.S)(f f':Nat->Node P)(q q':afh)(kk kk':afm)(OO OO':afl)(J J':afa)(w':World)(i:Nat)(g g1:afd):Prop where
 ef:∀j,j≠i->f' j=f j
 eq:∀j,j≠i->q' j=q j
 ek:∀j,j≠i->j<A.top->kk' j=kk j
 eO:∀j,j≠i->j<A.top->OO' j=OO j
 eJ:∀j,j≠i->A.Live s j->J j->J' j
 live:∀j,j≠i->(A.Live s' j↔A.Live s j)
 walk:∀j,j≠i->(A.Walk s' j↔A.Walk s j)
 held:∀j,j≠i->(A.qS s' j↔A.qS s j)
 mo:∀j,j≠i->A.Live s j->A.mo s' j=A.mo s j
 at':∀j k O x,j≠i->A.Walk s j->A.At s j k O x->A.At s' j k O x
 deaf:∀j,j≠i->A.Walk s j->A.deaf s' j=A.deaf s j
 Cv:∀j,j≠i->A.Walk s j->A.Cv s j->A.Cv s' j\/∀x,A.At s j (kk j) (OO j) x->woken P g g1 w' (blk x)=x
 Wh:∀j k O x,j≠i->A.qS s j->A.H5 s j k O x->A.H5 s' j k O x
 tie:∀j x,j≠i->A.Live s j->A.RZ s j x->A.RZ s' j x
structure Self(P:afn)(A:tV P)(s':A.S)(f':Nat->Node P)(q':afh)(kk':afm)(OO':afl)(J':afa)(t':Trace)(i:Nat)(g1:afd):Prop where
 live:A.Live s' i->i<A.top/\g1=(f' i).g/\(f' i).m=A.mo s' i/\(f' i).k=kk' i/\(f' i).O=OO' i/\(f' i).g.status=.running/\Deaf t' i=0/\(i=0\/J' i)/\A.RZ s' i (f' i)
 walk:A.Walk s' i -> ¬A.Live s' i/\i<A.top/\Deaf t' i=A.deaf s' i/\∃g',A.At s' i (kk' i) (OO' i) g'/\N5 P A.Wd (A.Cv s' i) (q' i) g1 g'
 held:A.qS s' i -> ¬A.Live s' i/\¬A.Walk s' i/\i<A.top/\Deaf t' i=0/\g1.status=.blocked/\A.H5 s' i (kk' i) (OO' i) g1
 rest:¬A.Live s' i -> ¬A.Walk s' i -> ¬A.qS s' i->i≠0/\QuitsD P (q' i) (Deaf t' i) g1
def bT.step(B:Cw A)(v:bT A Z s f q kk OO J M gs w t)(hi:gs[i]?=some g)(C:∀op∈u,op.g=i)(U:cV Z kk' OO' J' M' w' (t++u))(V:A.Ex s' kk' OO' J' M' gs.size w' (t++u))
 (W:∀j x,A.qS s j->A.H5 s j (kk j) (OO j) x->x.again w'=x) (hb:Beside A s s' f f' q q' kk kk' OO OO' J J' w' i g g1) (E:Self P A s' f' q' kk' OO' J' (t++u) i g1):
 bT A Z s' f' q' kk' OO' J' M' ((gs.map (woken P g g1 w')).setIfInBounds i g1) w' (t++u):=by
 have X:i<gs.size:=(zG.1 hi).1;have F:=v.R1 B (i:=i) (a:=g) (a':=g1) (x:=g1) (w':=w') W;have p:((gs.map (woken P g g1 w')).setIfInBounds i g1)[i]?=some g1:=aah (by simp_all)
 have G:∀j,j≠i->Deaf (t++u) j=Deaf t j:=λj d=>Deaf_other t (zs d) _ C
 refine⟨v.lk,U,λj d=>?_,λj d=>?_,λj d=>?_,λj x I N O Q=>?_,λj d=>?_,by simp_all⟩
 . by_cases e:j=i
   . subst e
     obtain⟨l,n,m⟩:=E.live d
     simp_all
   have b:=(hb.live j e).1 d;obtain⟨l,n,pm,m,D,z,r,R⟩:=v.live j b;rw[hb.ef j e,hb.ek j e l,hb.eO j e l,G j e,hb.mo j e b];exact⟨l,F.live j e b,pm,m,D,z,r,R.1.imp id (hb.eJ j e b),hb.tie j _ e b R.2⟩
 . by_cases e:j=i
   . subst e
     obtain⟨l,n,m,g',D,z⟩:=E.walk d
     grind
   have b:=(hb.walk j e).1 d;obtain⟨l,n,m,x,Y,D,z,r⟩:=v.walk j b;refine⟨λh=>l ((hb.live j e).1 h),n,by rw[G j e,hb.deaf j e b];exact m,?_⟩
   rw[hb.ek j e n,hb.eO j e n,hb.eq j e];obtain⟨y,y',o,K,r3⟩:=F.walk j e b
   by_cases hd:∃x,A.Cv s j/\y=blk x/\A.At s j (kk j) (OO j) x/\q j=0
   . obtain⟨x0,S,H,d3,d4⟩:=hd
     rcases hb.Cv j e b S with h|h
     . exact⟨y,x0,o,hb.at' j _ _ _ e b d3,.inl ⟨h,H,d4⟩⟩
     have c:((gs.map (woken P g g1 w')).setIfInBounds i g1)[j]?=some (woken P g g1 w' x):=by grind
     obtain⟨T,a2⟩:=B.mO z
     rcases r with⟨_,rfl,_⟩|r
     . rw[h _ z]at c
       rw[c]at o;have:=aax o;rw[H]at this;have k:Y.status=.blocked:=by rw[this];rfl
       simp_all
     rw[woken_run (r.first T)]at c
     rw[c]at o;have hh:=aax o;have k:x.status=.blocked:=by rw[hh,H];rfl
     rw[r.first T]at k;cases k
   rcases r3 with⟨S,rfl,H⟩|r3
   . simp_all
   exact⟨y,y',o,hb.at' j _ _ _ e b K,.inr r3⟩
 . by_cases e:j=i
   . subst e
     obtain⟨l,n,m,D,z,r⟩:=E.held d
     simp_all
   have b:=(hb.held j e).1 d;obtain⟨l,n,m,D,_⟩:=v.held j b;obtain⟨x,o,K,r3⟩:=F.held j e b;refine⟨λh=>l ((hb.live j e).1 h),λh=>n ((hb.walk j e).1 h),m,by simp_all,x,o,K,?_⟩
   rw[hb.ek j e m,hb.eO j e m];exact hb.Wh j _ _ _ e b r3
 . by_cases e:j=i
   . subst e
     rw[p]at I;obtain rfl:=aax I;exact E.rest N O Q
   rw[hb.eq j e,G j e];exact F.rest j x e I (λh=>N ((hb.live j e).2 h)) (λh=>O ((hb.walk j e).2 h)) (λh=>Q ((hb.held j e).2 h))
 have L:gs.size<=j:=by simp_all
 rw[G j (by omega)];exact v.above j L
end
def knows_own{t u i m op}(h:u[m]?=some op)(a:op.g=i):Knows (t++u) i (t.size+m):=⟨t.size+m,op,dX h,a,.inl rfl⟩
section
variable{Z:Base}{kk:afm}{OO:afl}{J M:afa}{w w':World}{t u:Trace}{i:Nat}
def Ey(kk:afm)(OO:afl)(B:Nat)(t:Trace)(i:Nat)(u:Trace):Prop:=∀op∈u,∀a,op.act.touch?=some a->a.kind=.atomic/\(a.loc.isMemory=true->NU kk OO B a.loc)/\∀n b,touchAt t n=some b->b.loc=a.loc->b.kind=.plain->Knows t i n
def cV.TU(h:cV Z kk OO J M w t)(d:∀op∈u,op.g=i)(y:w'.heap.size=w.heap.size)(z:Calm Z w w')(hb:∀b,Kept kk OO w w' b)(A:∀op∈u,op.act.low w.heap.size)(q:Ey kk OO w.heap.size t i u)
 (l:∀m op a,u[m]?=some op->op.act.touch?=some a->a.loc.isMemory=true->Told Z J M (t++u) (t.size+m) a):cV Z kk OO J M w' (t++u):=
 h.wG (λa b=>a=b) y z hb A (λa b e n x _ _ _ B=>by subst e;exact B.app u) (λj b n v h=>⟨j,rfl,h⟩) (λj b s h=>⟨j,rfl,h⟩) (λj b x h=>⟨j,rfl,h,λ_ h=>h⟩) h.kO
  (fun said=>noRace_append (h.clean said) d λn a o op c b hb C=>by
    obtain⟨f,k,D⟩:=q op c b hb;obtain⟨E,_,_,F⟩:=C
    simp_all)
  (λop c a o r=>(q op c a o).2.1 r) l
  (λn a o r h=>h.elim (λ⟨j,f,k⟩=>.inr (.inl ⟨j,f,k.app _⟩)) (λ⟨p,f,k⟩=>.inr (.inr (.inl ⟨p,f,k.app _⟩))))
def cV.sync(h:cV Z kk OO J M w t)(hJ:i=0\/J i)(c:∀op∈u,op.g=i)(f:w'.heap.size=w.heap.size)(j:Calm Z w w')(hb:∀b,Kept kk OO w w' b)(k:∀op∈u,op.act.low w.heap.size)(l:Ey kk OO w.heap.size t i u):cV Z kk OO J M w' (t++u):=
 h.TU c f j hb k l λm op a d n o=>by
  have e:Knows (t++u) i (t.size+m):=knows_own d (c op (acb d));rcases hJ with rfl|hJ
  . exact .inl e
  . exact .inr (.inl ⟨i,hJ,e⟩)
end
section
variable{P:afn}{A:cd}{Z:Base}{s:MS P}{kk:afm}{OO:afl}{J M:afa}{gsz:Nat}{w w':World}{t u:Trace}{j:Nat}{x:bE P}{sh:Mu.Sh}
def rp(hj:j<A.n)(h:x.busy=(s.w j).busy)  i :fB P A (s.bb j x sh) i↔fB P A s i:=by
 have:∀l,((s.bb j x sh).w l).busy=(s.w l).busy:=λl=>by
  by_cases e:l=j
  . subst e;rw[bc,h]
  . rw[cU e]
 unfold fB;simp only[this];rfl
def OG{a:Touch}{l ad}(h:BE A a.loc)(e:a.loc=.cell ad)(e':ad.block=A.fb/\ad.off=A.cell l):False:=by rw[e]at h;obtain⟨_,h⟩:=h;have:=A.d4;rw[e'.1,e'.2]at h;unfold cd.cell at h;omega
def dC.Iu(h:dC P A Z s kk OO J M gsz w t){s':MS P}(d:A.dir=true->∀l,l<A.n->(s'.w l).jw=(s.w l).jw/\(s'.w l).owns=(s.w l).owns)(p:∀op∈u,∀a,op.act.touch?=some a->BE A a.loc):
 A.dir=true->∀j,j<A.n->((s'.w j).jw=false->(∀i,(kk i).cell A.fb (A.cell j)=none)/\∀m a ad,touchAt (t++u) m=some a->a.loc=.cell ad->ad.block=A.fb/\ad.off=A.cell j->m<Z.N0)/\((s'.w j).rel=true->(kk (A.b+j)).cell A.fb (A.cell j)=some (A.val j)):=λhd l c=>by
 obtain⟨q,r⟩:=d hd l c;rw[bE.rel,q,r];exact⟨λk=>⟨((h.BF hd l c).1 k).1,λm a ad v e o=>(fh v).elim (λf=>((h.BF hd l c).1 k).2 m a ad f.1 e o) (λ⟨op,g,f⟩=>(OG (p op g a f) e o).elim)⟩,(h.BF hd l c).2⟩
def dC.Az(h:dC P A Z s kk OO J M gsz w t)(hj:j<A.n)(k:x.busy=(s.w j).busy)(E:x.owns=(s.w j).owns)(o:A.dir=true->x.jw=(s.w j).jw)(F:cq A.n (s.bb j x sh))(p:ShM A.fb A.fo w' sh)
 (d:∀b,b≠A.fb->w'.heap[b]?=w.heap[b]?) (q:∃c e,w'.heap[A.fb]?=some (.cells c e (0,0))) (z:∀op∈u,(∀a,op.act.touch?=some a->a.kind=.atomic/\BE A a.loc)/\∀a,op.act≠.mark (.release a)):
 dC P A Z (s.bb j x sh) kk OO J M gsz w' (t++u):=by
 have m:∀l,((s.bb j x sh).w l).owns=(s.w l).owns:=λl=>by
  by_cases e:l=j
  . subst e;rw[bc,E]
  . rw[cU e]
 refine⟨F,h.size,h.dd,h.off,h.Iu (λhd l _=>⟨?_,m l⟩) (λop g a r=>((z op g).1 a r).2),λhd=>by rw[d _ A.d1];exact h.CE hd,p,h.gr.same (.of_heap (d _ (zs A.d4))),q,by rw[d _ (zs A.d4)];exact h.BU,h.iL,h.fI,λi y G=>?_,λl B v=>h.BV l B (by simp_all),λv=>h.Rs λl B=>by simp_all,λc H=>?_,
  λi=>by rw[h.hJ i];exact(rp hj k i).symm,h.ya u,h.oX u,h.mc u (λop g a r _ I=>?_),h.rl u (λop g a r _ I=>?_),h.sQ u,h.kS u (λop g=>(z op g).2),h.Ge,h.vn,h.lG,h.gq,h.la,by simp;exact aap h.n0 (adh _ _)⟩
 . by_cases e:l=j
   . subst e;rw[bc,o hd]
   . rw[cU e]
 . obtain⟨l,f,C,D,L,K⟩:=h.tok i y G
   exact⟨l,f,C,D,by simp_all,K⟩
 . obtain⟨C,D⟩:=h.Rt c H
   simp_all
 . grind
 grind
def dC.work(h:dC P A Z s kk OO J M gsz w t)(hj:j<A.n)(k:(s.w j).work=true)(l:x.work=true)(m:x.owns=(s.w j).owns)(f:A.dir=true->x.jw=(s.w j).jw)(o:cq A.n (s.bb j x sh))(g:ShM A.fb A.fo w' sh)
 (d:∀b,b≠A.fb->w'.heap[b]?=w.heap[b]?) (i:∃c e,w'.heap[A.fb]?=some (.cells c e (0,0))) (p:∀op∈u,(∀a,op.act.touch?=some a->a.kind=.atomic/\BE A a.loc)/\∀a,op.act≠.mark (.release a)):
 dC P A Z (s.bb j x sh) kk OO J M gsz w' (t++u):=
 h.Az hj (by rw[(bQ k).2.2.2.2.2.1,(bQ l).2.2.2.2.2.1]) m f o g d i p
end
section
variable{P:afn}
def Ez {y s fr f l e cs} (b:FR y s fr) (h:bn s=some (f,l)) (c:Ext P f e):mayWake P (G fr cs)=true:=by
 obtain⟨ops,i,rest,kk,o,as,d,g,p,j,q,a,r⟩:=dQ b h;obtain⟨fn,k,t,u,v,w⟩:=c.ex;have m:fr.mode = .run:=by rw[a];rfl
 have n:fr.todo = .inRegion ops (i :: rest) :: kk:=by rw[a];rfl
 unfold mayWake;simp only[G,m,n,g,aaT,j,Frame.eval,k,Option.any_some]
 grind
def Lw{n b o kind cs g}(C:iH P n)(X:iI P n)(h:qC P n b o kind .give cs g):mayWake P g=true:=by
 obtain⟨c,y,fr,d,e,i,a,f,rfl⟩:=h;rcases e with rfl|rfl
 . exact Ez a (C.Zy b o kind) X.qU
 exact Ez a (C.Zz b o kind) X.qU
def rq{b o w w'}(h:MW b o w w')(a:∃c e,w.heap[b]?=some (.cells c e (0,0))):
 w'.heap.size=w.heap.size/\(∀r,r≠b->w'.heap[r]?=w.heap[r]?)/\∃c e c',w.heap[b]?=some (.cells c e (0,0))/\w'.heap[b]?=some (.cells c' e (0,0))/\c'.size=c.size/\∀n,n≠o->n≠o+1->c'[n]?=c[n]?:=by
 obtain⟨c,e,a⟩:=a;rcases h.2 with h|⟨i,v,f,g,h⟩
 . grind
 refine⟨by simp_all,λr d=>?_,c,e,c.setIfInBounds i v,a,?_,by simp,λn j k=>?_⟩
 . rw[h];simp only[World.setCell,acj,KD (zs d)]
 . rw[h];simp[World.setCell,acj,a]
 grind
end
section
variable{P:afn}{A:cd}{Z:Base}{s:MS P}{kk:afm}{OO:afl}{J M:afa}{gsz:Nat}{w w':World}{t:Trace}{j:Nat}{x:bE P}{sh:Mu.Sh}
def dC.calm(h:dC P A Z s kk OO J M gsz w t)(a:MW A.fb A.fo w w'):Calm Z w w':=by obtain⟨d,c,_⟩:=rq a h.xY;have:=h.gq.2.1;exact⟨a.1,λb hb=>c b (by omega)⟩
def dC.kept(h:dC P A Z s kk OO J M gsz w t)(a:MW A.fb A.fo w w'):∀b,Kept kk OO w w' b:=λb=>by
 obtain⟨u,d,c,e,f,j,k,l,v⟩:=rq a h.xY;by_cases hb:b=A.fb
 . subst hb
   refine .inr (.inr ⟨c,f,e,j,k,l,λi x m=>by obtain⟨_,g,_,_,_,rfl,o⟩:=h.tok i x m;exact⟨g,rfl,λn p=>by have:=(o n p).2;unfold cd.cell at this;grind⟩,λn=>?_⟩);by_cases q:n=A.fo
   . subst q;exact .inr λi=>(h.fI i).1
   by_cases r:n=A.fo+1
   . subst r;exact .inr λi=>(h.fI i).2.1
   simp_all
 exact .inl (d b hb)
def dC.XJ(h:dC P A Z s kk OO J M gsz w t){n}(a:n=A.fo\/n=A.fo+1):NU kk OO w.heap.size (.cell ⟨A.fb,n,none⟩):=by
 have b:A.fb<w.heap.size:=by obtain⟨c,e,f⟩:=h.xY;grind
 refine⟨b,λi=>⟨λd=>?_,?_⟩⟩
 . obtain⟨_,_,_,_,e⟩:=h.Sm d
   have e:n=A.fo+2+_:=e;omega
 rcases a with rfl|rfl
 . exact(h.fI i).1
 exact(h.fI i).2.1
def qu{b o e}(d:(e.loc=.mark .disable\/e.loc=.mark .enable)\/∃i,(i=o\/i=o+1)/\e.loc=.cell ⟨b,i,none⟩/\e.sync=true):
 (∀a,(MemAct.ofEvent e).touch?=some a->a.kind=.atomic/\∃i,(i=o\/i=o+1)/\a.loc=.cell ⟨b,i,none⟩)/\(∀a,MemAct.ofEvent e≠.mark (.release a))/\∀B,b<B->(MemAct.ofEvent e).low B:=by
 obtain⟨loc,wr,j⟩:=e;rcases d with(h|h)|⟨i,k,h,c⟩
 . simp only at h;subst h
   simp[MemAct.ofEvent,MemAct.touch?,MemAct.low]
 . simp only at h;subst h
   simp[MemAct.ofEvent,MemAct.touch?,MemAct.low]
 simp only at h c;subst h;subst c;refine⟨λa f=>?_,by simp[MemAct.ofEvent],λB g=>by simpa[MemAct.ofEvent,MemAct.low,Loc.low]using g⟩;simp only[MemAct.ofEvent,MemAct.touch?,kn]at f
 grind
def dC.OH(h:dC P A Z s kk OO J M gsz w t){es}(p:EvM A.fb A.fo es){i}(hi:cA P A s i)  fn   pos :
 Ey kk OO w.heap.size t i (MemOp.ofEvents i fn pos es)/\(∀op∈MemOp.ofEvents i fn pos es,op.act.low w.heap.size)/\∀op∈MemOp.ofEvents i fn pos es,(∀a,op.act.touch?=some a->a.kind=.atomic/\BE A a.loc)/\∀a,op.act≠.mark (.release a):=by
 have v:A.fb<w.heap.size:=by obtain⟨c,e,f⟩:=h.xY;grind
 refine⟨λop d a k=>?_,λop d=>?_,λop d=>?_⟩<;>obtain⟨e,l,rfl⟩:=LK d<;>obtain⟨o,q,x⟩:=qu (p e l)
 . obtain⟨f,n,g,j⟩:=o a k
   refine⟨f,λ_=>by rw[j];exact h.XJ g,λm b hb r u=>h.quiet m b hb ?_ u i hi⟩
   rw[r,j];exact⟨rfl,.inl ⟨rfl,g⟩⟩
 . grind
 refine⟨λa k=>?_,q⟩
 obtain⟨f,n,g,j⟩:=o a k;exact⟨f,by rw[j];exact⟨rfl,.inl ⟨rfl,g⟩⟩⟩
end
structure gu{P}(A:cd)(s s':MS P)  i :Prop where
 w:∀l,l<A.n->A.b+l≠i->s'.w l=s.w l
 c:i≠A.cl->s'.c=s.c
 ms:i≠0->s'.ms=s.ms
 sp:s'.sp=s.sp
 d:s'.d=s.d
 jK:(∀l,l<A.n->(s'.w l).jK=(s.w l).jK)\/((eD P A s 0->∃m,s.ms=.add m\/s.ms=.spawn m)/\s.ms≠.parked)
section
variable{P:afn}{A:cd}{Fin:aeE}{Z:Base}{s s':MS P}{f f':Nat->Node P}{q q':afh}{kk kk':afm}{OO OO':afl}{J J' M:afa}{gs:aeK}{gsz:Nat}{w w':World}{t u:Trace}{i:Nat}{g g1:afd}
def AA(h:∀l,l<A.n->(s'.w l).jK=(s.w l).jK):MS.rem P A.n s'=MS.rem P A.n s:=by unfold MS.rem;exact ads λl a=>by grind
def gu.live(h:gu A s s' i){j}(hj:j≠i):eD P A s' j↔eD P A s j:=by
 constructor<;>rintro(⟨b,a⟩|⟨l,a,d,f⟩|⟨b,a⟩)
 . exact .inl ⟨b,by rw[<-h.ms (λe=>hj (b.trans e.symm))];exact a⟩
 . exact .inr (.inl ⟨l,a,d,by rw[<-h.w l a (λe=>hj (d.trans e))];exact f⟩)
 . exact .inr (.inr ⟨b,by rw[<-h.c (λe=>hj (b.trans e.symm))];exact a⟩)
 . exact .inl ⟨b,by rw[h.ms (λe=>hj (b.trans e.symm))];exact a⟩
 . exact .inr (.inl ⟨l,a,d,by rw[h.w l a (λe=>hj (d.trans e))];exact f⟩)
 exact .inr (.inr ⟨b,by rw[h.c (λe=>hj (b.trans e.symm))];exact a⟩)
def gu.walk(h:gu A s s' i){j}(hj:j≠i):iK P A s' j↔iK P A s j:=by
 constructor<;>rintro(⟨b,a⟩|⟨l,a,d,f⟩|⟨b,a⟩)
 . exact .inl ⟨b,by rw[<-h.ms (λe=>hj (b.trans e.symm))];exact a⟩
 . exact .inr (.inl ⟨l,a,d,by rw[<-h.w l a (λe=>hj (d.trans e))];exact f⟩)
 . exact .inr (.inr ⟨b,by rw[<-h.c (λe=>hj (b.trans e.symm))];exact a⟩)
 . exact .inl ⟨b,by rw[h.ms (λe=>hj (b.trans e.symm))];exact a⟩
 . exact .inr (.inl ⟨l,a,d,by rw[h.w l a (λe=>hj (d.trans e))];exact f⟩)
 exact .inr (.inr ⟨b,by rw[h.c (λe=>hj (b.trans e.symm))];exact a⟩)
def gu.held(h:gu A s s' i){j}(hj:j≠i):gF P A s' j↔gF P A s j:=by
 constructor<;>rintro(⟨b,a⟩|⟨l,a,c,d⟩)
 . exact .inl ⟨b,by rw[<-h.ms (λe=>hj (b.trans e.symm))];exact a⟩
 . exact .inr ⟨l,a,c,by rw[<-h.w l a (λe=>hj (c.trans e))];exact d⟩
 . exact .inl ⟨b,by rw[h.ms (λe=>hj (b.trans e.symm))];exact a⟩
 exact .inr ⟨l,a,c,by rw[h.w l a (λe=>hj (c.trans e))];exact d⟩
def oh  K  (t:gu A s s' i) (L:∀j,j≠i->f' j=f j) (M:∀j,j≠i->q' j=q j) (N:∀j,j≠i->j<A.b+A.n+1->kk' j=kk j) (Q:∀j,j≠i->j<A.b+A.n+1->OO' j=OO j) (R:∀j,j≠i->J j->J' j)
 (o:((s.sh.ms=0->s'.sh.ms=0)/\(s.gm=0->s'.gm=0))\/(mayWake P g=true/\(g1.status=.running\/g1.status=.finished))) (S:∀{i k O y},XI P A Fin s i k O y->y.status=.running/\y.offers=none):
 Beside (cI P A Fin Z K) s s' f f' q q' kk kk' OO OO' J J' w' i g g1:=by
 have hb:=A.hb;have wl:∀{j l:Nat},l<A.n->j≠i->j=A.b+l->s'.w l=s.w l:=λ{j l} E a e=>t.w l E (λh=>a (e.trans h))
 have x:∀{j:Nat},j≠i->j=0->s'.ms=s.ms:=λa e=>t.ms (λh=>a (e.trans h.symm))
 have H:∀{j:Nat},j≠i->j=A.cl->s'.c=s.c:=λa e=>t.c (λh=>a (e.trans h.symm))
 refine⟨L,M,N,Q,λj a _ h=>R j a h,λj a=>t.live a,λj a=>t.walk a,λj a=>t.held a,λj a E=>?_,λj k O y a _ F=>?_,λj a I=>?_,λj a I hd=>?_,λj k O y a T F=>?_,λj y a _ U=>?_⟩
 . show cZ P A Fin s' j=cZ P A Fin s j
   unfold cZ;by_cases d:j=0
   . rcases t.jK with u|⟨u,_⟩
     . simp only[Rp d,x a d,AA u]
     subst d;obtain⟨m,e|e⟩:=u E<;>simp only[aay,x a rfl,e]
   rcases E with⟨G,_⟩|⟨l,p,r,_⟩|⟨G,_⟩
   . omega
   . have e:j-A.b=l:=by omega
     grind
   grind
 . rcases F with⟨d,h⟩|⟨l,p,r,B⟩|⟨d,h⟩
   . exact .inl ⟨d,by grind⟩
   . exact .inr (.inl ⟨l,p,r,by grind⟩)
   exact .inr (.inr ⟨d,by grind⟩)
 . show eT P A s' j=eT P A s j
   unfold eT;rcases I with⟨d,h1⟩|⟨l,p,r,_⟩|⟨d,_⟩
   . grind
   . grind
   grind
 . rcases o with⟨o,v⟩|⟨hm,u⟩
   . refine .inl ?_
     rcases hd with⟨l,sv,Y,p,r,B,C⟩|⟨d,B,C⟩
     . exact .inl ⟨l,sv,Y,p,r,by grind,o C⟩
     exact .inr ⟨d,by grind,v C⟩
   refine .inr λy V=>?_
   obtain⟨W,a2⟩:=S V;have H:(mayWake P g && g1.status !=.blocked && g1.status !=.waiting)=true:=by grind
   unfold Go.Conc.woken;rw[Rp H,Cx W a2]
 . rcases F with⟨d,D,z,p,r,B,C⟩|h
   . rcases t.jK with u|⟨_,u⟩
     . exact .inl ⟨d,D,z,p,r,B,by rw[AA u];exact C⟩
     rcases T with⟨_,h7⟩|⟨l,_,h7,_⟩
     . simp_all
     omega
   exact .inr h
 exact λl b X p r B=>U l b X p r (by grind)
variable{j:Nat}{x:bE P}{sh:Mu.Sh}
def Az(hj:j<A.n)(h:x.jK=(s.w j).jK\/((eD P A s 0->∃m,s.ms=.add m\/s.ms=.spawn m)/\s.ms≠.parked)):gu A s (s.bb j x sh) (A.b+j):=⟨λl _ a=>cU (by omega),λ_=>rfl,λ_=>rfl,rfl,rfl,h.imp_left λh l _=>by
 by_cases e:l=j
 . subst e;rw[bc,h]
 rw[cU e]⟩
def sR  c  (hj:j<A.n) (d:x.jK=(s.w j).jK) (e:∀i,i≠A.b+j->f' i=f i) (l:∀i,i≠A.b+j->q' i=q i) (m:∀i,i≠A.b+j->i<A.b+A.n+1->kk' i=kk i) (o:∀i,i≠A.b+j->i<A.b+A.n+1->OO' i=OO i) (p:∀i,i≠A.b+j->J i->J' i)
 (a:(s.sh.ms=0->sh.ms=0)\/(mayWake P g=true/\g1.status=.running)) (r:∀{i k O y},XI P A Fin s i k O y->y.status=.running/\y.offers=none):
 Beside (cI P A Fin Z c) s (s.bb j x sh) f f' q q' kk kk' OO OO' J J' w' (A.b+j) g g1:=
 oh c (Az hj (.inl d)) e l m o p (a.imp (λh=>⟨h,id⟩) λh=>⟨h.1,.inl h.2⟩) r
def oY  c  (hj:j<A.n) (d:(s.w j).work=true) (e:x.work=true) (h:∀i,i≠A.b+j->f' i=f i) (l:∀i,i≠A.b+j->q' i=q i) (m:∀i,i≠A.b+j->i<A.b+A.n+1->kk' i=kk i) (o:∀i,i≠A.b+j->i<A.b+A.n+1->OO' i=OO i) (p:∀i,J i->J' i)
 (a:(s.sh.ms=0->sh.ms=0)\/(mayWake P g=true/\g1.status=.running)) (r:∀{i k O y},XI P A Fin s i k O y->y.status=.running/\y.offers=none):
 Beside (cI P A Fin Z c) s (s.bb j x sh) f f' q q' kk kk' OO OO' J J' w' (A.b+j) g g1:=
 sR c hj (by rw[(bQ e).2.2.1,(bQ d).2.2.1]) h l m o (λi _=>p i) a r
end
def bE.me{P}:bE P->Bool
 |.lk ..=>true|.un ..=>true|_=>false
def jZ{P}{x:bE P}(h:x.me=true):x.work=true:=by cases x<;>simp_all [bE.me,bE.work]
section
variable{P:afn}{A:cd}{Fin:aeE}{Z:Base}{s:MS P}{f:Nat->Node P}{q:afh}{kk:afm}{OO:afl}{J M:afa}{gs:aeK}{w w':World}{t:Trace}{j:Nat}{x:bE P}{sh:Mu.Sh}{g g1:afd}
def yN(hj:j<A.n)(h:(s.w j).busy=true):fB P A s (A.b+j):=.inl ⟨j,hj,rfl,h⟩
def jL(I:cq A.n s)(hj:j<A.n)(h:(s.w j).kR=false):cA P A s (A.b+j):=by
 refine .inr (.inl ⟨j,?_,rfl⟩);have:=I.idle j hj
 simp_all
def j7(hj:j<A.n)(h:(s.w j).me=true):iK P A s (A.b+j):=.inr (.inl ⟨j,hj,rfl,by cases e:s.w j<;>simp_all [bE.me]⟩)
def oZ(hj:j<A.n)(h:(s.w j).me=true):¬eD P A s (A.b+j):=by
 have:=A.hb;rintro(⟨e,_⟩|⟨l,a,c,d⟩|⟨e,_⟩)
 . omega
 . obtain rfl:l=j:=by omega
   cases e:s.w l<;>simp_all [bE.me]
 . omega
def sS(hj:j<A.n)(h:(s.w j).me=true):¬gF P A s (A.b+j):=by
 have:=A.hb;rintro(⟨e,_⟩|⟨l,c,d,a⟩)
 . omega
 . obtain rfl:l=j:=by omega
   rw[a]at h;cases h
def fX(hj:j<A.n):eT P A s (A.b+j)=(s.w j).deaf:=by
 have:=A.hb;unfold eT
 grind
def Gi  u  (L:bT (cI P A Fin Z u) Z s f q kk OO J M gs w t) (hj:j<A.n) (K:(s.w j).work=true){d}(N:Deaf t (A.b+j)=d) (Q:¬gF P A s (A.b+j)) (h2:x.me=true) (ho:x.owns=(s.w j).owns) (R:A.dir=true->x.jw=(s.w j).jw) (hI:cq A.n (s.bb j x sh)) (hL:MS.iD A.n (s.bb j x sh) s)
 (hg:gs[A.b+j]?=some g){es}(S:stepG P false g w=.go g1 w' es) (o:MW A.fb A.fo w w') (T:ShM A.fb A.fo w' sh) (U:EvM A.fb A.fo es) (hd:deafBehind d es=x.deaf)
 (hs:∃n g',kB P (mZ A) n g1 g'/\J8 P A j x (kk (A.b+j)) (OO (A.b+j)) g') (v:(s.sh.ms=0->sh.ms=0)\/(mayWake P g=true/\g1.status=.running))  sl :
 ∃ops m',runT P (crowd gs w sl) (A.b+j)=(.next m',ops)/\∃s' f' q' kk' OO' J' M' gs' z V,m'=crowd gs' z V/\MS.iD A.n s' s/\bT (cI P A Fin Z u) Z s' f' q' kk' OO' J' M' gs' z (t++ops):=by
 obtain⟨n,g',C,W⟩:=hs;have hb:=A.hb;have B:=bx (P:=P) (A:=A) (Fin:=Fin) (Z:=Z) u;have w2:=jZ h2;have p:dC P A Z s kk OO J M gs.size w t:=L.ex;have X:(A.b+j==0)=false:=by simp;omega
 have D:=runT_crowd_go (P:=P) (sl:=sl) (i:=A.b+j) hg (by rw[X];exact S)
 have E:cA P A s (A.b+j):=jL p.I hj (bQ K).2.2.2.2.1;obtain⟨y1,y2,y3⟩:=p.OH U E g.frame.fn g.frame.place;have m:∀op∈MemOp.ofEvents (A.b+j) g.frame.fn g.frame.place es,op.g=A.b+j:=λop Y=>by obtain⟨e,_,rfl⟩:=LK Y;rfl
 obtain⟨m1,m2,c,e,c',m3,m4,_⟩:=rq o p.xY;have hP:=L.dp.sync (i:=A.b+j) (.inr ((p.hJ _).2 (yN hj (bQ K).2.2.2.2.2.1))) m m1 (p.calm o) (p.kept o) y2 y1;have F:dC P A Z (s.bb j x sh) kk OO J M gs.size w' (t++MemOp.ofEvents (A.b+j) g.frame.fn g.frame.place es):=p.work hj K w2 ho R hI T m2 ⟨c',e,m4⟩ y3
 have r:Beside (cI P A Fin Z u) s (s.bb j x sh) f f q (upd q (A.b+j) n) kk kk OO OO J J w' (A.b+j) g g1:=oY u hj K w2 (λ_ _=>rfl) (λi hi=>upd_ne q n hi) (λ_ _ _=>rfl) (λ_ _ _=>rfl) (λ_ h=>h) v (λ{i k O y} hA=>B.mO (s:=s) (i:=i) (k:=k) (O:=O) (g:=y) hA)
 have a:((s.bb j x sh).w j).me=true:=by rw[bc];exact h2
 refine⟨_,_,D,s.bb j x sh,f,upd q (A.b+j) n,kk,OO,J,M,_,_,_,rfl,hL,?_⟩;refine bT.step B L hg m hP F (λl y G hA=>?_) r ⟨λG=>absurd G (oZ hj a),λ_=>⟨oZ hj a,?_,?_,g',?_,?_⟩,λhh=>absurd hh (sS hj a),λ_ hn _=>absurd (j7 hj a) hn⟩
 . have H:l≠A.b+j:=λe=>Q (e ▸ G)
   exact B.vq F ((r.held l H).2 G) _ _ (r.Wh l _ _ _ H G hA)
 . show A.b+j<A.b+A.n+1;omega
 . rw[Deaf_own,N]
   show deafBehind d es=eT P A (s.bb j x sh) (A.b+j);rw[fX hj,bc];exact hd
 . exact .inr (.inl ⟨j,hj,rfl,by rw[bc];exact W⟩)
 . exact .inr (by rw[upd_same];exact C)
def AB  d  (u:bT (cI P A Fin Z d) Z s f q kk OO J M gs w t) (hj:j<A.n) (e:(s.w j).me=true) (y:x.me=true) (z:x.owns=(s.w j).owns) (h:A.dir=true->x.jw=(s.w j).jw) (B:cq A.n (s.bb j x sh)) (C:MS.iD A.n (s.bb j x sh) s)
 (D:gs[A.b+j]?=some g){es}(i:stepG P false g w=.go g1 w' es) (k:MW A.fb A.fo w w') (l:ShM A.fb A.fo w' sh) (m:EvM A.fb A.fo es) (hd:deafBehind (s.w j).deaf es=x.deaf)
 (E:∃n g',kB P (mZ A) n g1 g'/\J8 P A j x (kk (A.b+j)) (OO (A.b+j)) g') (a:(s.sh.ms=0->sh.ms=0)\/(mayWake P g=true/\g1.status=.running))  sl :
 ∃ops v,runT P (crowd gs w sl) (A.b+j)=(.next v,ops)/\∃s' f' q' kk' OO' J' M' gs' c o,v=crowd gs' c o/\MS.iD A.n s' s/\bT (cI P A Fin Z d) Z s' f' q' kk' OO' J' M' gs' c (t++ops):=by
 have p:=j7 (P:=P) (A:=A) (s:=s) hj e;obtain⟨_,_,r,_⟩:=u.walk _ p;exact Gi d u hj (jZ e) (r.trans (fX hj)) (sS hj e) y z h B C D i k l m hd E a sl
end
namespace Mu
section
variable{n:Nat}{pcs:Nat->Pc}{s:Sh}{i:Nat}
def So{f:Pc->Nat}(h:∀p,f p<=1)(pcs:Nat->Pc)  n :gL n (λi=>f (pcs i))<=n:=by
 have:=H4 (f:=λi=>f (pcs i)) (c:=1) (λi=>h _) n;omega
def Inv.ZW(h:Inv n pcs s):s.w.N<=n+1/\s.ms<=1:=by
 have b:=So (f:=dg) (λp=>by cases p<;>simp[dg]) pcs n
 cases e:s.w.S with
 | false=>
   obtain⟨c,_,a⟩:=h.j2 e;have:s.w.K.toNat<=1:=by cases s.w.K<;>simp
   omega
 | true=>
   obtain⟨_,_,a,d⟩:=h.j3 e;have:(!s.w.L).toNat<=1:=by cases s.w.L<;>simp
   omega
def Inv.Sp(h:Inv n pcs s)(hi:i<n)(a:pcs i=.held):s.w.L=true:=by
 have:cM (pcs i)<=gL n (λj=>cM (pcs j)):=jX (λj=>cM (pcs j)) hi;rw[h.j1,a,show cM .held=1 from rfl]at this
 grind
def Inv.UZ(h:Inv n pcs s)(hi:i<n){old sv}(a:pcs i=.add old sv):s.w.L=false/\s.w.S=true/\s.w.N≠0:=by
 have:dG (pcs i)<=gL n (λj=>dG (pcs j)):=jX (λj=>dG (pcs j)) hi;rw[a,show dG (.add old sv)=1 from rfl]at this;cases e:s.w.S with
 |false=>obtain⟨_,b,_⟩:=h.j2 e;omega
 | true=>
   obtain⟨_,_,c,d⟩:=h.j3 e
   grind
end
def EA:Pc->Bool
 |.rd _=>true|.sq ..=>true|.sw ..=>true|.my ..=>true|.iM _=>true|.tq=>true|.up _=>true|.add ..=>true|.held=>true|_=>false
def Iv:Pc->Bool
 |.out=>true|.kA _=>true|.yp=>true|.give=>true|_=>false
def TV  old   l :EA (nx old l)=true:=by unfold nx;split<;>rfl
def XK{old l p}(h:p∈hd old l):EA p=true:=by
 unfold hd at h;rw[aan]at h;rcases h with h|h
 . split at h
   . rw[lb]at h;subst h;split<;>rfl
   cases h
 rw[lb]at h;subst h;rfl
def XL{p q s s'}(b:p=.js\/(EA p=true/\p≠.held))(h:(q,s')∈mv p s)(e:q≠.bad):EA q=true:=by
 rcases b with rfl|⟨b,c⟩
 . simp only[mv]at h
   split at h<;>(rw[lb,zU]at h;obtain⟨rfl,rfl⟩:=h;rfl)
 cases p<;>simp only[EA,aal]at b
 case rd l=>simp only[mv,lb,zU]at h;obtain⟨rfl,rfl⟩:=h;exact TV _ _
 case sq old l=>simp only[mv,aab,zU]at h;obtain⟨a,d,rfl,rfl⟩:=h;exact XK d
 case sw old l=>simp only[mv]at h;split at h<;>(rw[lb,zU]at h;obtain⟨rfl,rfl⟩:=h;rfl)
 case my old l=>
  simp only[mv]at h;split at h
  . simp_all
  split at h
  . rw[lb,zU]at h;obtain⟨rfl,rfl⟩:=h;split<;>rfl
  rw[lb,zU]at h;obtain⟨rfl,rfl⟩:=h;rfl
 case iM sv=>
  simp only[mv]at h;split at h
  . cases h
  rw[lb,zU]at h;obtain⟨rfl,rfl⟩:=h;split<;>rfl
 case tq=>
  simp only[mv,aaw,zU,adL,or_false]at h;rcases h with⟨rfl,rfl⟩|⟨rfl,rfl⟩<;>rfl
 case up sv=>
  simp only[mv]at h;split at h
  . split at h
    . simp_all
    rw[lb,zU]at h;obtain⟨rfl,rfl⟩:=h;rfl
  rw[lb,zU]at h;obtain⟨rfl,rfl⟩:=h;exact TV _ _
 case add old sv=>simp only[mv,lb,zU]at h;obtain⟨rfl,rfl⟩:=h;rfl
 simp_all
def XN{p q s s'}(a:p=.held\/(Iv p=true/\p≠.out))(h:(q,s')∈mv p s)(c:q≠.bad):Iv q=true:=by
 rcases a with rfl|⟨a,b⟩
 . simp only[mv]at h
   split at h
   . simp_all
   rw[lb,zU]at h;obtain⟨rfl,rfl⟩:=h;split
   . rfl
   split
   . rfl
   split<;>rfl
 cases p<;>simp only[Iv,aal]at a
 case out=>simp_all
 case kA old=>simp only[mv]at h;split at h<;>(rw[lb,zU]at h;obtain⟨rfl,rfl⟩:=h;rfl)
 case yp=>simp only[mv,lb,zU]at h;obtain⟨rfl,rfl⟩:=h;split<;>rfl
 case give=>simp only[mv,lb,zU]at h;obtain⟨rfl,rfl⟩:=h;rfl
def TW{p q s s'}(b:p≠.give)(h:(q,s')∈mv p s)(a:s.ms=0):s'.ms=0:=by
 cases p<;>simp only[mv]at h
 case out=>cases h
 case bad=>cases h
 case give=>simp_all
 case sq=>grind
 case tq=>grind
 all_goals repeat' split at h
 all_goals first
  |(cases h;done)
  |(rw[lb,zU]at h;obtain⟨_,rfl⟩:=h;first|exact a|(show s.ms-1=0;omega))
end Mu
def xa:Ec->Bool
 |.js=>true|.rd _=>true|.sq ..=>true|.sw ..=>true|.my ..=>true|.iM _=>true|.tq=>true|.up _=>true|.add ..=>true|.held=>true|.kA _=>true|.yp=>true|.give=>true
 |_=>false
def OI{q p}(h:To q p):p.abs=q:=by cases h<;>rfl
def XO{q p}(h:To q p)(a:Mu.EA q=true):Gc p=true/\p≠.ld/\p≠.la:=by cases h<;>simp_all [Mu.EA,Gc]
def XP{q p}(h:To q p)(a:Mu.Iv q=true):BT p=true/\p≠.JP/\p≠.ur/\p≠.ud:=by cases h<;>simp_all [Mu.Iv,BT]
def OJ{q p}(h:To q p):q≠.bad:=by cases h<;>simp
section
variable{P:afn}{nm:FY}(C:iH P nm)(X:iI P nm){n:Nat}{pcs:Nat->Mu.Pc}{s:Mu.Sh}{i:Nat}{p:Ec}{b o:Nat}{kind:afj}{Wd:aeT}{cs:aeY}{g:afd}{w:World}{main:Bool}
include C X in
def Gj(I:Mu.Inv n pcs s)(hi:i<n)(v:n<=900)(c:pcs i=p.abs)(f:xa p=true)(a:ShM b o w s)(h:qC P nm b o kind p cs g):
 nT P nm b o kind Wd cs g w main p.abs s\/((∃sv,p=.iM sv)/\s.ms=0/\stepG P main g w=.go {g with status:=.blocked} w #[]):=by
 obtain⟨x,k⟩:=I.ZW;have hb:s.w.N<=1000:=by omega
 have j:∀{q s'},(q,s')∈Mu.mv (pcs i) s->Mu.loc q:=λ{q s'} f=>by
  have:=(I.step hi f).j0 i hi
  rwa [Mu.ai]at this
 have d:Mu.loc (pcs i):=I.j0 i hi;rw[c]at j d;cases p<;>simp only[xa,aal]at f
 case js=>exact .inl (La C X a h)
 case rd l=>exact .inl (R6 C X a hb (j (q:=Mu.nx s.w l) (s':=s) (by simp[Ec.abs,Mu.mv])) h)
 case sq old l=>exact .inl (R7 C X a d h)
 case sw old l=>exact .inl (R8 C X a d h)
 case my old l=>exact .inl (Oj C X a d h)
 case iM sv=>
  by_cases e:s.ms=0
  . exact .inr ⟨⟨sv,rfl⟩,e,F4 C X a e h⟩
  exact .inl (Lb C X a e h)
 case tq=>exact .inl (R9 C X a h)
 case up sv=>exact .inl (Sa C X a hb (λq s' m=>j m) h)
 case add old sv=>obtain⟨r,t,u⟩:=I.UZ hi c;exact .inl (Ok C X a hb r t u h)
 case held=>exact .inl (Lc C X a hb (I.Sp hi c) h)
 case kA old=>exact .inl (Lf C X a h)
 case yp=>exact .inl (Ol C X a hb h)
 case give=>exact .inl (Lg C X a (by omega) h)
end
section
variable{P:afn}{A:cd}{Fin:aeE}{Z:Base}{s:MS P}{f:Nat->Node P}{q:afh}{kk:afm}{OO:afl}{J M:afa}{gs:aeK}{w:World}{t:Trace}{j:Nat}{g:afd}
def Goes  P  (A:cd) (Fin:aeE) (Z:Base) (f:A.b+A.n+1<=Z.lk) (s:MS P) (gs:aeK) (w:World) (t:Trace) (sl:aeH) (i:Nat):Prop:=∃ops e,runT P (crowd gs w sl) i=(.next e,ops)/\∃s' f' q' kk' OO' J' M' a c d,e=crowd a c d/\MS.iD A.n s' s/\bT (cI P A Fin Z f) Z s' f' q' kk' OO' J' M' a c (t++ops)
def Iw  P  (A:cd) (s:MS P) (gs:aeK) (w:World) (sl:aeH) (i:Nat) (g:afd):Prop:=UW P A s i/\runT P (crowd gs w sl) i=(.next (crowd (gs.setIfInBounds i (blk g)) w sl),#[])
def Gk(e:gs[A.b+j]?=some g)(a:stepG P false g w=.go {g with status:=.blocked} w #[])  sl :runT P (crowd gs w sl) (A.b+j)=(.next (crowd (gs.setIfInBounds (A.b+j) (blk g)) w sl),#[]):=by
 have hb:=A.hb;have c:(A.b+j==0)=false:=by simp;omega
 have h:=runT_crowd_go (P:=P) (sl:=sl) (i:=A.b+j) e (by rw[c];exact a)
 have d:woken P g {g with status:=.blocked} w=id:=funext λo=>by unfold Go.Conc.woken;simp
 rw[d,Array.map_id]at h;exact h
variable(C:iH P A.nm)(X:iI P A.nm)
include C X in
def Sq  G  (H:bT (cI P A Fin Z G) Z s f q kk OO J M gs w t) (hj:j<A.n){p Y}(a:s.w j=.lk p Y) (K:gs[A.b+j]?=some g) (V:J8 P A j (.lk p Y) (kk (A.b+j)) (OO (A.b+j)) g) (W:p≠.la)  sl :
 Goes P A Fin Z G s gs w t sl (A.b+j)\/Iw P A s gs w sl (A.b+j) g:=by
 have m:dC P A Z s kk OO J M gs.size w t:=H.ex;have a7:Gc p=true:=by have:=m.I.ok j hj;rw[a]at this;exact this
 have L:(s.w j).me=true:=by rw[a];rfl
 have v:=jZ L;have l:(s.w j).pc=p.abs:=by rw[a];rfl
 have hn:=A.hn;have hb:=A.hb;have aC:(A.b+j==0)=false:=by simp;omega
 obtain⟨kind,c,rest,e,Q,R,S,T,o,r,U⟩:=V
 by_cases N:xa p=true
 . rcases Gj (Wd:=mZ A) (main:=false) C X m.I.mu hj hn l N m.mu R with⟨g1,w',es,qq,s',z,i,B,D,⟨hr,E,⟨k,d⟩,F⟩,a8,a9,ad,al⟩|⟨⟨sv,rfl⟩,u,i⟩
   . left
     have av:Mu.EA qq=true:=Mu.XL (by cases p<;>simp_all [Gc,xa,Ec.abs,Mu.EA]) B (OJ D)
     obtain⟨k1,k2,k3⟩:=XO D av;have y:((bE.lk z Y).pc,s')∈Mu.mv (s.w j).pc s.sh:=by rw[l,show(bE.lk z Y).pc=z.abs from rfl,OI D];exact B
     have ax:(s.w j).deaf=1:=by rw[a];cases p<;>simp_all [bE.deaf,xa,Gc]
     have ay:(bE.lk z Y).deaf=1:=by cases z<;>simp_all [bE.deaf]
     refine AB (x:=.lk z Y) G H hj L rfl (by rw[a];rfl) (λ_=>by rw[a];rfl) (m.I.mv hj v rfl k1 y) (Ka m.I hj v rfl (by rw[a];rfl) y ?_) K i a8 a9 ad (by rw[al,ax,ay]) ⟨k,E,d,kind,c,rest,e,Q,F,S,T,o,r,U⟩ (.inl λu=>Mu.TW ?_ B u) sl
     . cases z<;>simp_all [bE.ex]
     cases p<;>simp_all [xa,Gc,Ec.abs]
   right;exact⟨.inl ⟨j,sv,Y,hj,rfl,a,u⟩,Gk K i sl⟩
 cases p<;>simp only[xa,Gc,not_true_eq_false,aal]at N a7
 case ld=>obtain⟨g1,i,hr,E,⟨k,d⟩,F⟩:=Ed (Wd:=mZ A) (main:=false) (w:=w) C X R;left;exact AB (x:=.lk .js Y) (sh:=s.sh) G H hj L rfl (by rw[a];rfl) (λ_=>by rw[a];rfl) (m.I.enq hj v rfl rfl l rfl) (OF hj v rfl (by rw[a];rfl) l rfl (by rw[a];rfl) rfl) K i (bC rfl) m.mu (λe O=>by simp at O;subst O;exact .inl (.inl rfl)) (by rw[a];rfl) ⟨k,E,d,kind,c,rest,e,Q,F,S,T,o,r,U⟩ (.inl λu=>u) sl
 case t1 sv=>obtain⟨g1,i,hr,E,⟨k,d⟩,F⟩:=R4 (Wd:=mZ A) (main:=false) (w:=w) C X R;left;exact AB (x:=.lk (.iM sv) Y) (sh:=s.sh) G H hj L rfl (by rw[a];rfl) (λ_=>by rw[a];rfl) (m.I.still hj v rfl rfl (by rw[l];rfl)) (og hj v rfl (by rw[a];rfl) (by rw[l];rfl) (by rw[a];simp[bE.ex])) K i (bC rfl ⟨⟨w.tick,rfl⟩,rfl⟩) (m.mu.heap rfl) hQ (by rw[a];rfl) ⟨k,E,d,kind,c,rest,e,Q,F,S,T,o,r,U⟩ (.inl λu=>u) sl
 case le=>
  obtain⟨g1,i,hr,E,⟨k,d⟩,F⟩:=JV (Wd:=mZ A) (main:=false) (w:=w) C X (λw h=>h.2.2) R
  left;exact AB (x:=.lk .la Y) (sh:=s.sh) G H hj L rfl (by rw[a];rfl) (λ_=>by rw[a];rfl) (m.I.still hj v rfl rfl (by rw[l];rfl)) (og hj v rfl (by rw[a];rfl) (by rw[l];rfl) (by rw[a];simp[bE.ex])) K i (bC rfl) m.mu (λe O=>by simp at O;subst O;exact .inl (.inr rfl)) (by rw[a];rfl) ⟨k,E,d,kind,c,rest,e,Q,F,S,T,o,r,U⟩ (.inl λu=>u) sl
 case la=>exact absurd rfl W
end
section
variable{P:afn}{A:cd}{Fin:aeE}{Z:Base}{s:MS P}{f:Nat->Node P}{q:afh}{kk:afm}{OO:afl}{J M:afa}{gs:aeK}{w:World}{t:Trace}{j:Nat}{g:afd}
variable(C:iH P A.nm)(X:iI P A.nm)
include C X in
def Sr  B  (L:bT (cI P A Fin Z B) Z s f q kk OO J M gs w t) (hj:j<A.n){p Y}(a:s.w j=.un p Y) (Q:gs[A.b+j]?=some g) (R:J8 P A j (.un p Y) (kk (A.b+j)) (OO (A.b+j)) g) (S:p≠.ur) (T:p≠.ue)  sl :
 Goes P A Fin Z B s gs w t sl (A.b+j):=by
 have m:dC P A Z s kk OO J M gs.size w t:=L.ex;have F:BT p=true:=by have:=m.I.ok j hj;rw[a]at this;exact this
 have N:(s.w j).me=true:=by rw[a];rfl
 have D:=jZ N;have i:(s.w j).pc=p.abs:=by rw[a];rfl
 have hn:=A.hn;have hb:=A.hb;obtain⟨kind,c,rest,U,O,V,W,G⟩:=R
 by_cases u:xa p=true
 . have a7:¬(p=.JP\/p=.ur):=by rintro(rfl|rfl)<;>cases u
   have hN:=G a7
   rcases Gj (Wd:=mZ A) (main:=false) C X m.I.mu hj hn i u m.mu O with⟨g1,w',es,qq,s',o,l,y,z,⟨hr,H,⟨k,d⟩,K⟩,a8,a9,ad,al⟩|⟨⟨sv,rfl⟩,E,l⟩
   . have av:Mu.Iv qq=true:=Mu.XN (by cases p<;>simp_all [BT,xa,Ec.abs,Mu.Iv]) y (OJ z)
     obtain⟨k1,k2,k3,k4⟩:=XP z av;have r:((bE.un o Y).pc,s')∈Mu.mv (s.w j).pc s.sh:=by rw[i,show(bE.un o Y).pc=o.abs from rfl,OI z];exact y
     have ax:(s.w j).deaf=1:=by rw[a];cases p<;>simp_all [bE.deaf,xa,BT]
     have ay:(bE.un o Y).deaf=1:=by cases o<;>simp_all [bE.deaf]
     have aC:(s.w j).owns=false:=by rw[a];cases p<;>simp_all [bE.owns,xa,BT]
     have aE:(bE.un o Y).owns=false:=by cases o<;>simp_all [bE.owns]
     refine AB (x:=.un o Y) B L hj N rfl (by rw[aC,aE]) (λ_=>by rw[a];rfl) (m.I.mv hj D rfl k1 r) (Ka m.I hj D rfl (by rw[a];rfl) r ?_) Q l a8 a9 ad (by rw[al,ax,ay]) ⟨k,H,d,kind,c,rest,U,K,V,λh=>absurd h (λh=>h.elim k2 k3),λ_=>hN⟩ ?_ sl
     . cases o<;>simp_all [bE.ex]
     by_cases aL:p=.give
     . subst aL;exact .inr ⟨Lw C X O,hr⟩
     refine .inl λE=>Mu.TW ?_ y E
     cases p<;>simp_all [xa,BT,Ec.abs]
   exact absurd F (by simp[BT])
 cases p<;>simp only[xa,BT,not_true_eq_false,aal]at u F
 case JP=>
  obtain⟨v,hv⟩:=((bx (P:=P) (A:=A) (Fin:=Fin) (Z:=Z) B).wd m).2.2;obtain⟨g1,l,hr,H,⟨k,d⟩,K⟩:=Ae (Wd:=mZ A) (main:=false) (w:=w) C X (λw h=>h.2.2) hv O
  exact AB (x:=.un .ur Y) (sh:=s.sh) B L hj N rfl (by rw[a];rfl) (λ_=>by rw[a];rfl) (m.I.still hj D rfl rfl (by rw[i];rfl)) (og hj D rfl (by rw[a];rfl) (by rw[i];rfl) (by rw[a];simp[bE.ex])) Q l (bC rfl) m.mu hQ (by rw[a];rfl) ⟨k,H,d,kind,c,rest,U,K,V,λ_=>W (.inl rfl),λh=>absurd (.inr rfl) h⟩ (.inl λE=>E) sl
 case ud=>
  have hN:=G (by rintro(h|h)<;>cases h)
  obtain⟨g1,l,hr,H,⟨k,d⟩,K⟩:=JR (Wd:=mZ A) (main:=false) (w:=w) C X O;exact AB (x:=.un .held Y) (sh:=s.sh) B L hj N rfl (by rw[a];rfl) (λ_=>by rw[a];rfl) (m.I.still hj D rfl rfl (by rw[i];rfl)) (og hj D rfl (by rw[a];rfl) (by rw[i];rfl) (by rw[a];simp[bE.ex])) Q l (bC rfl) m.mu (λe he=>by simp at he;subst he;exact .inl (.inl rfl)) (by rw[a];rfl) ⟨k,H,d,kind,c,rest,U,K,V,λh=>absurd h (by simp),λ_=>hN⟩ (.inl λE=>E) sl
 case ur=>exact absurd rfl S
 case ue=>exact absurd rfl T
end
def TT.U1{P m K O g1 a}(h:vo P (λ_=>True) g1 a)(e:TT P m K O a):TT P m K O g1:=.step (λb c d=>b=K/\c=O/\d=a) h.1 (λb c d f=>by obtain⟨rfl,rfl,rfl⟩:=f;exact e) (λw g=>⟨a,w,#[],K,O,h.2 _ w trivial,Eff.refl _ _ _,g,rfl,rfl,rfl⟩)
def TT.Gl{P m K O g1 c}  h   a  {z:Node P}(b:sb z ⟨m,K,O,g1,TT.U1 h a⟩):z=⟨m,K,O,c,a⟩:=by
 unfold TT.U1 at b;cases b with
 |step _ _ _ _ d=>obtain⟨rfl,rfl,rfl⟩:=d;rfl
def TT.pre{P m K O}:∀{k g1 a},kB P (λ_=>True) k g1 a->(X:TT P m K O a)->∃T ,xZ ⟨m,K,O,g1,T⟩ ⟨m,K,O,a,X⟩
 |0,g1,a,h,X=>by obtain rfl:g1=a:=h;exact⟨X,.refl _⟩
 | k + 1,g1,a,⟨d,c,h⟩,X=>by
   obtain⟨b,g⟩:=TT.pre h X;refine⟨TT.U1 c b,λy hy f=>?_⟩;rcases hy with rfl|hy
   . exact f.elim
   have:y=⟨m,K,O,d,b⟩\/Relation.TransGen sb y ⟨m,K,O,d,b⟩:=by
    cases hy with
    |single h=>exact .inl (TT.Gl c b h)
    | tail i j=>
      have e:=TT.Gl c b j
      simp_all
   exact g y this f
section
variable{P:afn}{A:cd}{Fin:aeE}{Z:Base}{s:MS P}{f:Nat->Node P}{q:afh}{kk:afm}{OO:afl}{J M:afa}{gs:aeK}{w:World}{t:Trace}{j:Nat}{g:afd}
def mh(hj:j<A.n){h X}(e:s.w j=.run h X):eD P A s (A.b+j):=.inr (.inl ⟨j,hj,rfl,by simp_all⟩)
def xc(hj:j<A.n){h X}(e:s.w j=.run h X):¬iK P A s (A.b+j):=by
 have:=A.hb;rintro(⟨e,_⟩|⟨l,a,c,d⟩|⟨e,_⟩)
 . omega
 . simp_all
 omega
def lH(hj:j<A.n){h X}(e:s.w j=.run h X):¬gF P A s (A.b+j):=by
 have:=A.hb;rintro(⟨e,_⟩|⟨l,a,c,d⟩)
 . omega
 simp_all
def qv(hj:j<A.n){h X}(e:s.w j=.run h X):cZ P A Fin s (A.b+j)=jv P A j:=by
 have:=A.hb;unfold cZ
 grind
variable(C:iH P A.nm)(X:iI P A.nm)(F:oC P A.nm)
include C X F in
def Ss  z  (D:bT (cI P A Fin Z z) Z s f q kk OO J M gs w t) (hj:j<A.n){Y}(E:s.w j=.un .ue Y) (hg:gs[A.b+j]?=some g) (W:J8 P A j (.un .ue Y) (kk (A.b+j)) (OO (A.b+j)) g) (d:A.dir=false)  sl :
 Goes P A Fin Z z s gs w t sl (A.b+j):=by
 have p:dC P A Z s kk OO J M gs.size w t:=D.ex;have B:=bx (P:=P) (A:=A) (Fin:=Fin) (Z:=Z) z;have h1:(s.w j).me=true:=by rw[E];rfl
 have u:=jZ h1;have hb:=A.hb;have a7:(A.b+j==0)=false:=by simp;omega
 obtain⟨kind,c,rest,hk,hM,hm,ay,a8⟩:=W;have G:=a8 (by simp)
 rw[show Hz P A Y.N=Y.N by simp[Hz,d]]at G
 obtain⟨g1,a9,hr,g2,H,K⟩:=Ee (Wd:=λ_=>True) (main:=false) (w:=w) C X hM
 obtain⟨k,ad⟩:=H.trans (nW F K hk);obtain⟨T,hU⟩:=TT.pre ad (Y.c _ _ _ G);obtain⟨x,v⟩:∃x:bE P,x=.run false ⟨Y.m,kk (A.b+j),OO (A.b+j),_,Y.c _ _ _ G⟩:=⟨_,rfl⟩;have V:x.work=true:=by rw[v];rfl
 have a:∀sh,((s.bb j x sh).w j)=.run false ⟨Y.m,kk (A.b+j),OO (A.b+j),_,Y.c _ _ _ G⟩:=λsh=>by rw[bc,v]
 have al:EvM A.fb A.fo #[⟨.mark .enable,false,true⟩]:=λe he=>by simp at he;subst he;exact .inl (.inr rfl)
 have L:=runT_crowd_go (P:=P) (sl:=sl) (i:=A.b+j) hg (by rw[a7];exact a9)
 have Q:cA P A s (A.b+j):=jL p.I hj (bQ u).2.2.2.2.1;obtain⟨y1,y2,y3⟩:=p.OH al Q g.frame.fn g.frame.place;have o:∀op∈MemOp.ofEvents (A.b+j) g.frame.fn g.frame.place #[⟨.mark .enable,false,true⟩],op.g=A.b+j:=λop av=>by obtain⟨e,_,rfl⟩:=LK av;rfl
 have hJ:J (A.b+j):=(p.hJ _).2 (yN hj (bQ u).2.2.2.2.2.1);have hP:=D.dp.sync (i:=A.b+j) (.inr hJ) o rfl ⟨⟨.refl _,rfl⟩,λ_ _=>rfl⟩ (λb=>.inl rfl) y2 y1
 have hI:cq A.n (s.bb j x s.sh):=p.I.still hj u V (by rw[v];rfl) (by rw[v,E];rfl)
 have hL:MS.iD A.n (s.bb j x s.sh) s:=Ew hj u V ⟨_,_,by rw[v];rfl,by rw[E];rfl,.single (sb.dM Y.N Y.h0 Y.ht Y.c G)⟩
 have R:dC P A Z (s.bb j x s.sh) kk OO J M gs.size w (t++MemOp.ofEvents (A.b+j) g.frame.fn g.frame.place #[⟨.mark .enable,false,true⟩]):=p.work hj u V (by rw[v,E];rfl) (λh=>by rw[d]at h;cases h) hI p.mu (λ_ _=>rfl) p.xY y3
 have r:Beside (cI P A Fin Z z) s (s.bb j x s.sh) f (cz f (A.b+j) ⟨Y.m,kk (A.b+j),OO (A.b+j),g1,T⟩) q q kk kk OO OO J J w (A.b+j) g g1:=oY z hj u V (λi hi=>aA _ _ hi) (λi hi=>rfl) (λ_ _ _=>rfl) (λ_ _ _=>rfl) (λ_ h=>h) (.inl λh=>h) (λ{i k O y} K=>B.mO (s:=s) (i:=i) (k:=k) (O:=O) (g:=y) K)
 have S:=j7 (P:=P) (A:=A) (s:=s) hj h1;refine⟨_,_,L,s.bb j x s.sh,cz f (A.b+j) ⟨Y.m,kk (A.b+j),OO (A.b+j),g1,T⟩,q,kk,OO,J,M,_,_,_,rfl,hL,?_⟩;refine bT.step B D hg o hP R (λl y hl K=>?_) r ⟨λ_=>?_,λh=>absurd h (xc hj (a _)),λh=>absurd h (lH hj (a _)),λh=>absurd (mh hj (a _)) h⟩
 . have U:l≠A.b+j:=λe=>(D.held l hl).2.1 (by rw[e];exact S)
   exact B.vq R ((r.held l U).2 hl) _ _ (r.Wh l _ _ _ U hl K)
 rw[au];refine⟨by show A.b+j<A.b+A.n+1;omega,rfl,?_,rfl,rfl,hr,?_,.inr hJ,λl b X' h3 h4 h5=>?_⟩
 . show Y.m=cZ P A Fin (s.bb j x s.sh) (A.b+j)
   rw[qv hj (a _)];exact hm
 . obtain⟨_,_,ax,_⟩:=D.walk _ S
   rw[Deaf_own,ax];show deafBehind (eT P A s (A.b+j)) _=0;rw[fX hj,E];rfl
 obtain rfl:l=j:=by omega
 rw[a]at h5;cases h5;exact hU
end
section
variable{Z:Base}{kk:afm}{OO:afl}{J M:afa}{w:World}{t:Trace}
def j8(kk:afm)(lk i:Nat):afm:=cz kk i ((kk i).join (kk lk))
def jx(OO:afl)(lk i mb:Nat)(x:Own):afl:=cz (cz OO i ((OO i).set mb x)) lk an.bot
def cV.XQ(h:cV Z kk OO J M w t){i mb x}(hi:i≠Z.lk)(L:OO Z.lk mb=some x)(ho:∀c,OO Z.lk c≠none->c=mb)(N:Z.la.block<w.heap.size)(hd:Deaf t i=0)(hold:∀m a,m<Z.N0->touchAt t m=some a->a.loc.isMemory=true -> ¬Z.Shun a.loc->Knows t i m)(V:∀m a,Z.N0<=m->t.act? m≠some (.mark (.release a)))  fn   pos :
 cV Z (j8 kk Z.lk i) (jx OO Z.lk i mb x) J M w (t++MemOp.ofEvents i fn pos #[⟨.mark (.acquire Z.la),false,true⟩]):=by
 obtain⟨u,S⟩:∃u,u=MemOp.ofEvents i fn pos #[⟨.mark (.acquire Z.la),false,true⟩]:=⟨_,rfl⟩;have G:u=#[⟨i,fn,pos,.mark (.acquire Z.la)⟩]:=by rw[S,ofEvents_eq];simp[MemAct.ofEvent]
 rw[<-S];have A:mD u:=λop d=>by grind
 have W:∀op∈u,op.act.touch?=none:=λop d=>by rw[G]at d;simp at d;subst d;rfl
 have H:∀op∈u,op.g=i:=λop d=>by grind
 have I:∀m a,Z.N0<=m->(t++u).act? m≠some (.mark (.release a)):=λm a O e=>by
  rcases tA e with⟨o,_⟩|⟨op,d,o⟩
  . grind
  grind
 have X:OO i mb=none:=h.kO Z.lk i mb x (zs hi) L;have eK:∀l,l≠i->j8 kk Z.lk i l=kk l:=λl Y=>aA _ _ Y
 have q:j8 kk Z.lk i i=(kk i).join (kk Z.lk):=au _ _ _;have eO:∀l,l≠i->l≠Z.lk->jx OO Z.lk i mb x l=OO l:=λl o B=>by unfold jx;rw[aA _ _ B,aA _ _ o]
 have C:jx OO Z.lk i mb x i=(OO i).set mb x:=by unfold jx;rw[aA _ _ hi,au]
 have D:jx OO Z.lk i mb x Z.lk=an.bot:=by unfold jx;rw[au]
 refine h.wG (λa b=>a=b\/(a=Z.lk/\b=i)) rfl ⟨⟨.refl _,rfl⟩,λ_ _=>rfl⟩ (λb=>.inl rfl) (λop d=>by rw[G]at d;simp at d;subst d;simpa[MemAct.low]using N) (λa b e n y P O hz E=>?_) (λl b n v K=>?_) (λl b sv K=>?_) (λl b y f=>?_) (λa l b y r f=>?_)
  (λsaid=>noRace_append (h.clean said) H λn a Q op d b hb _=>by grind) (λop d a Q=>by grind) (λm op a d Q=>by grind)
  (λn a Q O h=>h.elim (λ⟨j,o,B⟩=>.inr (.inl ⟨j,o,B.app _⟩)) (λ⟨p,o,B⟩=>.inr (.inr (.inl ⟨p,o,B.app _⟩))))
 . rcases e with rfl|⟨rfl,rfl⟩
   . exact E.app u
   refine(qR hi).2 ?_;unfold K4 at E;rw[Rp rfl]at E
   rcases E with E|⟨p,h0,o,B,h3⟩
   . exact(hold n y E P O hz).app u
   exact pH (y:=⟨b,fn,pos,.mark (.acquire Z.la)⟩) (m:=0) A (by grind) rfl hd o B (λk E=>I k _ (by omega)) h3
 . by_cases e:l=i
   . subst e;rw[q]at K
     exact(ar.qg K).elim (λh=>⟨l,.inl rfl,h⟩) (λh=>⟨Z.lk,.inr ⟨rfl,rfl⟩,h⟩)
   grind
 . by_cases e:l=i
   . subst e;rw[q]at K
     exact(ar.JI K).elim (λh=>⟨l,.inl rfl,h⟩) (λh=>⟨Z.lk,.inr ⟨rfl,rfl⟩,h⟩)
   grind
 . by_cases e:l=i
   . subst e;rw[C]at f
     by_cases z:b=mb
     . subst z
       simp only[an.set,aay,kn]at f;subst f;exact⟨Z.lk,.inr ⟨rfl,rfl⟩,L,λsv R=>by rw[q];exact(ar.z5 (h.sat l) (h.sat Z.lk)).2 b sv R⟩
     simp only[an.set,z,aao]at f;exact⟨l,.inl rfl,f,λsv R=>by rw[q];exact(ar.vl _ _).2 b sv R⟩
   by_cases T:l=Z.lk
   . subst T;rw[D]at f;cases f
   rw[eO l e T]at f;grind
 by_cases F:a=Z.lk
 . subst F;rw[D]at f;cases f
 by_cases s:l=Z.lk
 . subst s;rw[D];rfl
 by_cases U:a=i
 . subst U
   rw[C]at f;rw[eO l (zs r) s]
   by_cases z:b=mb
   . subst z;exact h.kO Z.lk l b x (zs s) L
   simp only[an.set,z,aao]at f;exact h.kO a l b y r f
 rw[eO a U F]at f
 by_cases el:l=i
 . subst el
   rw[C]
   by_cases z:b=mb
   . subst z
     have:=h.kO Z.lk a b x (zs F) L
     simp_all
   simp only[an.set,z,aao];exact h.kO a l b y r f
 rw[eO l el s];exact h.kO a l b y r f
end
section
variable{Z:Base}{kk:afm}{OO:afl}{J M:afa}{w:World}{t:Trace}
def ru(kk:afm)(lk i:Nat):afm:=cz kk lk (kk i)
def ig(OO:afl)(lk i mb fb:Nat)(x:Own):afl:=cz (cz OO i (((OO i).del mb).del fb)) lk (an.bot.set mb x)
def cV.XR(h:cV Z kk OO J M w t){i mb fb x}(hi:i≠Z.lk)(T:OO i mb=some x)(ho:∀c,OO Z.lk c=none)(N:Z.la.block<w.heap.size)(hd:Deaf t i=0)  fn   pos :
 cV Z (ru kk Z.lk i) (ig OO Z.lk i mb fb x) J M w (t++MemOp.ofEvents i fn pos #[⟨.mark (.releaseMerge Z.la),false,true⟩]):=by
 obtain⟨u,R⟩:∃u,u=MemOp.ofEvents i fn pos #[⟨.mark (.releaseMerge Z.la),false,true⟩]:=⟨_,rfl⟩;have F:u=#[⟨i,fn,pos,.mark (.releaseMerge Z.la)⟩]:=by rw[R,ofEvents_eq];simp[MemAct.ofEvent]
 rw[<-R];have s:mD u:=λop d=>by grind
 have U:∀op∈u,op.act.touch?=none:=λop d=>by rw[F]at d;simp at d;subst d;rfl
 have G:∀op∈u,op.g=i:=λop d=>by grind
 have z:u[0]?=some ⟨i,fn,pos,.mark (.releaseMerge Z.la)⟩:=by grind
 have eK:∀l,l≠Z.lk->ru kk Z.lk i l=kk l:=λl V=>aA _ _ V
 have W:ru kk Z.lk i Z.lk=kk i:=au _ _ _;have eO:∀l,l≠i->l≠Z.lk->ig OO Z.lk i mb fb x l=OO l:=λl H I=>by unfold ig;rw[aA _ _ I,aA _ _ H]
 have k:ig OO Z.lk i mb fb x i=((OO i).del mb).del fb:=by unfold ig;rw[aA _ _ hi,au]
 have A:ig OO Z.lk i mb fb x Z.lk=an.bot.set mb x:=by unfold ig;rw[au]
 have K:∀b y,(((OO i).del mb).del fb) b=some y->b≠mb/\OO i b=some y:=λb y f=>by
  by_cases q:b=fb
  . simp[an.del,q]at f
  by_cases r:b=mb
  . simp[an.del,r]at f
  exact⟨r,by simpa[an.del,q,r]using f⟩
 have L:∀b y,(an.bot.set mb x) b=some y->b=mb/\y=x:=λb y f=>by
  by_cases e:b=mb
  . subst e;simp only[an.set,aay,kn]at f;simp_all
  simp only[an.set,e,aao]at f;cases f
 have B:∀b,OO i b=none->(((OO i).del mb).del fb) b=none:=λb X=>by
  by_cases q:b=fb
  . simp[an.del,q]
  by_cases r:b=mb
  . grind
  simpa[an.del,q,r]using X
 refine h.wG (λa b=>a=b\/(a=i/\b=Z.lk)) rfl ⟨⟨.refl _,rfl⟩,λ_ _=>rfl⟩ (λb=>.inl rfl) (λop d=>by rw[F]at d;simp at d;subst d;simpa[MemAct.low]using N) (λa b e n y Y hm hz S=>?_) (λl b n v hv=>?_) (λl b sv hv=>?_) (λl b y f=>?_) (λa l b y o f=>?_)
  (λsaid=>noRace_append (h.clean said) G λn a O op d b hb _=>by grind) (λop d a O=>by grind) (λm op a d O=>by grind)
  (λn a O hm h=>h.elim (λ⟨j,H,I⟩=>.inr (.inl ⟨j,H,I.app _⟩)) (λ⟨p,H,I⟩=>.inr (.inr (.inl ⟨p,H,I.app _⟩))))
 . rcases e with rfl|⟨rfl,rfl⟩
   . exact S.app u
   have P:Knows t a n:=(qR hi).1 S;unfold K4;rw[Rp rfl];exact .inr ⟨t.size+0,by have:=h.n0;omega,by rw[act?_of (dX z)],heard_new s z hd,nO P z rfl⟩
 . grind
 . grind
 . by_cases r:l=Z.lk
   . subst r;rw[A]at f
     grind
   by_cases e:l=i
   . subst e;rw[k]at f
     grind
   rw[eO l e r]at f;grind
 by_cases C:a=Z.lk
 . subst C;rw[A]at f
   obtain⟨rfl,rfl⟩:=L b y f
   by_cases el:l=i
   . subst el;rw[k]
     by_cases q:b=fb
     . simp[an.del,q]
     simp[an.del,q]
   rw[eO l el (zs o)];exact h.kO i l b y (zs el) T
 by_cases D:l=Z.lk
 . subst D;rw[A]
   have Q:b≠mb:=by
    by_cases E:a=i
    . subst E;rw[k]at f;grind
    rw[eO a E C]at f;intro e;subst e;have:=h.kO a i b y E f
    grind
   simp only[an.set,Q,aao];rfl
 by_cases E:a=i
 . subst E
   rw[k]at f;rw[eO l (zs o) D];exact h.kO a l b y o (K b y f).2
 rw[eO a E C]at f
 by_cases el:l=i
 . subst el;rw[k];exact B b (h.kO a l b y o f)
 rw[eO l el D];exact h.kO a l b y o f
end
section
variable{P:afn}{A:cd}{Fin:aeE}{Z:Base}{s:MS P}{f:Nat->Node P}{q:afh}{kk:afm}{OO:afl}{J M:afa}{gs:aeK}{gsz:Nat}{w:World}{t u:Trace}{j:Nat}{g:afd}{x:bE P}{xo:Own}
def Lx{x:bE P}(h:x.owns=true):x.pc=.held:=by
 cases x with
 |run b X=>cases b<;>simp_all [bE.owns,bE.pc]
 |un p Y=>cases p<;>simp_all [bE.owns,bE.pc,Ec.abs]
 |_=>simp_all [bE.owns]
def Gm(I:cq A.n s)(hj:j<A.n)(a:(s.w j).pc=.held){l}(b:l<A.n)(c:(s.w l).owns=true):l=j:=by
 by_cases e:l=j
 . exact e
 have g:=I.mu.j1;have d:=Mu.iG Mu.cM (λi=>(s.w i).pc) j .out hj
 have f:Mu.cM (Mu.set (λi=>(s.w i).pc) j .out l)<=Mu.gL A.n (λi=>Mu.cM (Mu.set (λi=>(s.w i).pc) j .out i)):=Mu.jX (λi=>Mu.cM (Mu.set (λi=>(s.w i).pc) j .out i)) b
 rw[Mu.ah _ _ e,Lx c]at f;have h:Mu.cM .held=1:=rfl;have k:Mu.cM .out=0:=rfl;rw[a]at d;have:s.sh.w.L.toNat<=1:=by cases s.sh.w.L<;>simp
 omega
def mQ(A:cd)(Z:Base)(OO:afl)(i:Nat)(x:Own)(a:Nat->aeR):afl:=cz (jx OO Z.lk i A.mb x) i ((jx OO Z.lk i A.mb x i).set A.fb (.part a))
def cd.Tk.Ru{f}(h:A.Tk j f){l}(a:f l≠none):A.dir=true/\l=A.cell j:=by
 unfold cd.Tk at h;split at h
 . grind
 subst h;exact absurd rfl a
def dC.take{p}(H:A.Tk j p)(hZ:A.b+A.n+1<=Z.lk)(h:dC P A Z s kk OO J M gsz w t)(hj:j<A.n)(f:(s.w j).work=true)(K:x.work=true)(L:∀l,l<A.n->(s.w l).owns=false)(F:x.owns=true)(V:cq A.n (s.bb j x s.sh))(W:∀op∈u,op.act.touch?=none/\∀a,op.act≠.mark (.release a)):
 dC P A Z (s.bb j x s.sh) (j8 kk Z.lk (A.b+j)) (mQ A Z OO (A.b+j) xo p) J M gsz w (t++u):=by
 have S:A.b+j≠Z.lk:=by omega
 have r:x.busy=(s.w j).busy:=by rw[(bQ f).2.2.2.2.2.1,(bQ K).2.2.2.2.2.1]
 have N:∀l,l≠A.b+j->j8 kk Z.lk (A.b+j) l=kk l:=λl d=>aA _ _ d
 have O:j8 kk Z.lk (A.b+j) (A.b+j)=(kk (A.b+j)).join (kk Z.lk):=au _ _ _;have eO:∀l,l≠A.b+j->l≠Z.lk->mQ A Z OO (A.b+j) xo p l=OO l:=λl f K=>by unfold mQ jx;rw[aA _ _ f,aA _ _ K,aA _ _ f]
 have z:mQ A Z OO (A.b+j) xo p (A.b+j)=((OO (A.b+j)).set A.mb xo).set A.fb (.part p):=by unfold mQ jx;rw[au,aA _ _ S,au]
 have B:mQ A Z OO (A.b+j) xo p Z.lk=an.bot:=by unfold mQ jx;rw[aA _ _ (zs S),au]
 have C:cA P A s (A.b+j):=jL h.I hj (bQ f).2.2.2.2.1
 have T:∀i,OO i A.fb=none:=λi=>by
  cases e:OO i A.fb with
  |none=>rfl
  | some y=>
    obtain⟨l,_,d,_,ho,_⟩:=h.tok i y e
    grind
 have g:∀{c n:Nat},(∀i,(kk i).cell c n=none)->(j8 kk Z.lk (A.b+j) (A.b+j)).cell c n=none:=λ{c n} X=>by
  rw[O];cases e:((kk (A.b+j)).join (kk Z.lk)).cell c n with
  |none=>rfl
  |some v=>rcases ar.qg e with h|h<;>rw[X]at h<;>cases h
 refine⟨V,h.size,h.dd,h.off,λhd l d=>?_,h.CE,h.mu,h.gr,h.xY,h.BU,λi=>?_,λi=>?_,λi y D=>?_,λl d k=>?_,λk=>?_,λc U=>?_,
  λi=>by rw[h.hJ i];exact(rp hj r i).symm,h.ya u,h.oX u,h.mc u (λop o a Q=>by simp_all),h.rl u (λop o a Q=>by simp_all),h.sQ u,h.kS u (λop o=>(W op o).2),λi d hb=>?_,h.vn,h.lG,h.gq,h.la,by simp;exact aap h.n0 (adh _ _)⟩
 . by_cases e:l=j
   . subst e
     rw[bc];exact⟨λE=>by(rw[CG F]at E;cases E),λR=>by simp[bE.rel,F]at R⟩
   rw[cU e];refine⟨λE=>⟨λi=>?_,λm a Y Q q q'=>(fh Q).elim (λf=>((h.BF hd l d).1 E).2 m a Y f.1 q q') (λ⟨op,o,f⟩=>by simp_all)⟩,λR=>?_⟩
   . have f:=((h.BF hd l d).1 E).1
     grind
   rw[N _ (by omega)];exact(h.BF hd l d).2 R
 . by_cases e:i=A.b+j
   . subst e;rw[z]
     have:=h.iL (A.b+j);simp only[an.set,A.d1,A.d3,zs A.d4,A.d6,aao];exact this
   by_cases G:i=Z.lk
   . subst G;rw[B];exact⟨λ_=>rfl,rfl⟩
   rw[eO i e G];exact h.iL i
 . by_cases e:i=A.b+j
   . subst e
     exact⟨g λi=>(h.fI i).1,g λi=>(h.fI i).2.1,g λi=>(h.fI i).2.2.1,g λi=>(h.fI i).2.2.2⟩
   rw[N i e];exact h.fI i
 . by_cases e:i=A.b+j
   . subst e;rw[z]at D
     simp only[an.set,aay,kn]at D;exact⟨j,p,hj,rfl,by rw[bc];exact F,D.symm,λ_=>H.Ru⟩
   by_cases G:i=Z.lk
   . subst G;rw[B]at D;cases D
   simp_all
 . by_cases e:l=j
   . subst e;rw[z];simp[an.set]
   rw[cU e,L l d]at k;cases k
 . have:=k j hj
   rw[bc,F]at this;cases this
 . rw[B]at U;exact absurd rfl U
 have e:i≠A.b+j:=λe=>hb (e ▸ C)
 rw[N i e,eO i e d];exact h.Ge i d hb
end
section
variable{P:afn}{A:cd}{Fin:aeE}{Z:Base}{s:MS P}{f:Nat->Node P}{q:afh}{kk:afm}{OO:afl}{J M:afa}{gs:aeK}{w:World}{t:Trace}{j:Nat}{g:afd}
variable(C:iH P A.nm)(X:iI P A.nm)(F:oC P A.nm)
include C X F in
def Su  hZ  (H:bT (cI P A Fin Z hZ) Z s f q kk OO J M gs w t) (hj:j<A.n){Y}(S:s.w j=.lk .la Y) (hg:gs[A.b+j]?=some g) (b6:J8 P A j (.lk .la Y) (kk (A.b+j)) (OO (A.b+j)) g)  sl :
 Goes P A Fin Z hZ s gs w t sl (A.b+j):=by
 have d:dC P A Z s kk OO J M gs.size w t:=H.ex;have B:=bx (P:=P) (A:=A) (Fin:=Fin) (Z:=Z) hZ;have r:(s.w j).me=true:=by rw[S];rfl
 have w1:=jZ r;have b7:(s.w j).pc=.held:=by rw[S];rfl
 have hb:=A.hb;have o:A.b+j≠Z.lk:=by omega
 have b8:(A.b+j==0)=false:=by simp;omega
 have U:∀l,l<A.n->(s.w l).owns=false:=λl E=>by
  cases e:(s.w l).owns with
  |false=>rfl
  |true=>obtain rfl:=Gm d.I hj b7 E e;rw[S]at e;cases e
 have L:∀i,OO i A.fb=none:=λi=>by
  cases e:OO i A.fb with
  |none=>rfl
  |some y=>obtain⟨l,_,E,_,ho,_⟩:=d.tok i y e;rw[U l E]at ho;cases ho
 obtain⟨xo,a,a9,b9,bm⟩:=d.Rs U;obtain⟨kind,c,rest,e,hk,hM,hm,hO,al,bq,hN⟩:=b6;obtain⟨cc,ee,av⟩:=d.xY
 have ax:e=(ee,cc.size):=by have hs:=(H.dp.sat (A.b+j)).sh _ _ al;simp only[World.shape?,av]at hs;exact(aax hs).symm
 obtain⟨p,V,ay⟩:∃p,A.Tk j p/\∀n v,p n=some v->A.dir=true/\n=A.cell j/\cc[n]?=some v:=by
  unfold cd.Tk
  by_cases hd:A.dir=true
  . have:=bq hd
    rw[ax]at this;refine⟨λi=>if i=A.cell j then some cc[A.cell j]else none,by rw[Rp hd];exact⟨_,rfl⟩,λn v G=>?_⟩
    simp only at G;split at G
    . next e=>subst e;exact⟨hd,rfl,by rw[<-G];exact aaJ this⟩
    cases G
  exact⟨OA,by rw[KD hd],λn v G=>by cases G⟩
 have aC:(kk Z.lk).Le ((kk (A.b+j)).join (kk Z.lk)):=ar.z5 (H.dp.sat (A.b+j)) (H.dp.sat Z.lk);have u:=hN ((kk (A.b+j)).join (kk Z.lk)) xo a p (ar.vl _ _) (b9.mono aC) bm (H.dp.kO Z.lk (A.b+j) _ _ (zs o) a9) V;obtain⟨g1,aE,hr,g2,aL,hA⟩:=JU (Wd:=λ_=>True) (main:=false) (w:=w) C X hM
 obtain⟨k,bw⟩:=aL.trans (vw F hA hk);rw[<-d.la]at aE;have W:j8 kk Z.lk (A.b+j) (A.b+j)=(kk (A.b+j)).join (kk Z.lk):=au _ _ _;have bA:mQ A Z OO (A.b+j) xo p (A.b+j)=((OO (A.b+j)).set A.mb xo).set A.fb (.part p):=by unfold mQ jx;rw[au,aA _ _ o,au]
 rw[<-W,<-bA]at u;obtain⟨T,hU⟩:=TT.pre bw (Y.c _ _ _ u);obtain⟨x,hx⟩:∃x:bE P,x=.run true ⟨Y.m,j8 kk Z.lk (A.b+j) (A.b+j),mQ A Z OO (A.b+j) xo p (A.b+j),_,Y.c _ _ _ u⟩:=⟨_,rfl⟩;have w2:x.work=true:=by rw[hx];rfl
 have z:∀sh,((s.bb j x sh).w j)=.run true ⟨Y.m,j8 kk Z.lk (A.b+j) (A.b+j),mQ A Z OO (A.b+j) xo p (A.b+j),_,Y.c _ _ _ u⟩:=λsh=>by rw[bc,hx]
 have aO:=runT_crowd_go (P:=P) (sl:=sl) (i:=A.b+j) hg (by rw[b8];exact aE)
 have b0:=j7 (P:=P) (A:=A) (s:=s) hj r
 have K:Deaf t (A.b+j)=0:=by obtain⟨_,_,K,_⟩:=H.walk _ b0;rw[K];show eT P A s (A.b+j)=0;rw[fX hj,S];rfl
 have Q:cA P A s (A.b+j):=jL d.I hj (bQ w1).2.2.2.2.1;have hJ:J (A.b+j):=(d.hJ _).2 (yN hj (bQ w1).2.2.2.2.2.1);have b1:∀op∈MemOp.ofEvents (A.b+j) g.frame.fn g.frame.place #[⟨.mark (.acquire Z.la),false,true⟩],op.g=A.b+j:=λop D=>by obtain⟨e,_,rfl⟩:=LK D;rfl
 have b2:∀op∈MemOp.ofEvents (A.b+j) g.frame.fn g.frame.place #[⟨.mark (.acquire Z.la),false,true⟩],op.act.touch?=none/\∀a,op.act≠.mark (.release a):=λop D=>by obtain⟨e,he,rfl⟩:=LK D;simp at he;subst he;exact⟨rfl,λa h=>by simp[MemAct.ofEvent]at h⟩
 have b3:A.fb<w.heap.size:=by obtain⟨c,e,r⟩:=d.xY;exact(zG.1 r).1
 have bB:=H.dp.XQ o a9 (λc hc=>(d.Rt c hc).1) (by rw[d.la];exact b3) K (λm a hm ha b4 hz=>d.old _ Q m a hm ha b4 hz) d.norel g.frame.fn g.frame.place
 have a7:∀l,jx OO Z.lk (A.b+j) A.mb xo l A.fb=none:=λl=>by
  unfold jx
  by_cases e1:l=Z.lk
  . subst e1;rw[au];rfl
  by_cases e2:l=A.b+j
  . subst e2;rw[aA _ _ e1,au];simp only[an.set,A.d5,aao];exact L _
  rw[aA _ _ e1,aA _ _ e2];exact L _
 have b5:A.dir=true->(∀i,(kk i).cell A.fb (A.cell j)=none)/\∀m a R,touchAt t m=some a->a.loc=.cell R->R.block=A.fb/\R.off=A.cell j->m<Z.N0:=λhd=>(d.BF hd j hj).1 (by rw[S];rfl)
 have a8:∀n,p n≠none->A.dir=true/\n=A.cell j:=λn hn=>V.Ru hn
 have hP:=bB.Xc (f:=p) o a7 (λn v G i=>by
  obtain⟨hd,rfl,_⟩:=ay n v G;have r:=(b5 hd).1
  by_cases ei:i=A.b+j
  . subst ei
    rw[W];cases q:((kk (A.b+j)).join (kk Z.lk)).cell A.fb (A.cell j)with
    |none=>rfl
    |some v=>rcases ar.qg q with h|h<;>rw[r]at h<;>cases h
  . unfold j8;rw[aA _ _ ei];exact r i) (λR r h2=>d.lG R ⟨r,.inr (.inr ⟨(a8 _ h2).1,j,hj,(a8 _ h2).2⟩)⟩) (by
  refine⟨cc,ee,av,?_,λn v G=>(ay n v G).2.2⟩
  rw[W];refine(ar.vl _ _).2 _ _ ?_;rw[al,ax]) (λm a R ha E r h2=>by
  obtain⟨hd,h3⟩:=a8 _ h2
  rcases fh ha with⟨h4,_⟩|⟨op,D,h4⟩
  . exact(d.old _ Q m a ((b5 hd).2 m a R h4 E ⟨r,h3⟩) h4 (by rw[E];rfl) (by rw[E];exact d.lG R ⟨r,.inr (.inr ⟨hd,j,hj,h3⟩)⟩)).app _
  rw[(b2 op D).1]at h4;cases h4) d.gq.2.1
 have hI:cq A.n (s.bb j x s.sh):=d.I.still hj w1 w2 (by rw[hx];rfl) (by rw[hx,S];rfl)
 have hL:MS.iD A.n (s.bb j x s.sh) s:=Ew hj w1 w2 ⟨_,_,by rw[hx];rfl,by rw[S];rfl,.single (sb.dM Y.N Y.h0 Y.ht Y.c u)⟩
 have c5:=d.take (xo:=xo) V hZ hj w1 w2 U (by rw[hx];rfl) hI b2
 have c6:Beside (cI P A Fin Z hZ) s (s.bb j x s.sh) f (cz f (A.b+j) ⟨Y.m,j8 kk Z.lk (A.b+j) (A.b+j),mQ A Z OO (A.b+j) xo p (A.b+j),g1,T⟩) q q kk (j8 kk Z.lk (A.b+j)) OO (mQ A Z OO (A.b+j) xo p) J J w (A.b+j) g g1:=oY hZ hj w1 w2 (λi hi=>aA _ _ hi) (λi hi=>rfl) (λi hi _=>aA _ _ hi) (λi hi ht=>by unfold mQ jx;rw[aA _ _ hi,aA _ _ (show i≠Z.lk by omega),aA _ _ hi]) (λ_ h=>h) (.inl λh=>h) (λ{i k O y} hA=>B.mO (s:=s) (i:=i) (k:=k) (O:=O) (g:=y) hA)
 refine⟨_,_,aO,s.bb j x s.sh,cz f (A.b+j) ⟨Y.m,j8 kk Z.lk (A.b+j) (A.b+j),mQ A Z OO (A.b+j) xo p (A.b+j),g1,T⟩,q,j8 kk Z.lk (A.b+j),mQ A Z OO (A.b+j) xo p,J,M,_,_,_,rfl,hL,?_⟩;refine bT.step B H hg b1 hP c5 (λl y E hA=>?_) c6 ⟨λ_=>?_,λh=>absurd h (xc hj (z _)),λh=>absurd h (lH hj (z _)),λh=>absurd (mh hj (z _)) h⟩
 . have c7:l≠A.b+j:=λe=>(H.held l E).2.1 (by rw[e];exact b0)
   exact B.vq d E _ _ hA
 rw[au];refine⟨by show A.b+j<A.b+A.n+1;omega,rfl,?_,rfl,rfl,hr,?_,.inr hJ,λl b X' h3 h4 h5=>?_⟩
 . show Y.m=cZ P A Fin (s.bb j x s.sh) (A.b+j)
   rw[qv hj (z _)];exact hm
 . rw[Deaf_own,K];rfl
 obtain rfl:l=j:=by omega
 rw[z]at h5;cases h5;exact hU
end
section
variable{P:afn}{A:cd}{Fin:aeE}{Z:Base}{s:MS P}{f:Nat->Node P}{q:afh}{kk:afm}{OO:afl}{J M:afa}{gs:aeK}{gsz:Nat}{w:World}{t u:Trace}{j:Nat}{g:afd}{x:bE P}{xo:Own}{a:uq}
def dC.give(Y:A.b+A.n+1<=Z.lk)(h:dC P A Z s kk OO J M gsz w t)(hj:j<A.n)(k:(s.w j).work=true)(D:x.work=true)(O:∀l,l<A.n->(s.w l).owns=true->l=j)(R:x.owns=false)(S:cq A.n (s.bb j x s.sh))(T:mC (kk (A.b+j)) xo a)(E:A.GI a)(F:x.jw=(s.w j).jw)(U:A.dir=true->(kk (A.b+j)).cell A.fb (A.cell j)=some (A.val j))(V:∀op∈u,op.act.touch?=none/\∀a,op.act≠.mark (.release a)):
 dC P A Z (s.bb j x s.sh) (ru kk Z.lk (A.b+j)) (ig OO Z.lk (A.b+j) A.mb A.fb xo) J M gsz w (t++u):=by
 have W:A.b+j≠Z.lk:=by omega
 have p:x.busy=(s.w j).busy:=by rw[(bQ k).2.2.2.2.2.1,(bQ D).2.2.2.2.2.1]
 have G:∀l,l≠Z.lk->ru kk Z.lk (A.b+j) l=kk l:=λl d=>aA _ _ d
 have H:ru kk Z.lk (A.b+j) Z.lk=kk (A.b+j):=au _ _ _;have eO:∀l,l≠A.b+j->l≠Z.lk->ig OO Z.lk (A.b+j) A.mb A.fb xo l=OO l:=λl k D=>by unfold ig;rw[aA _ _ D,aA _ _ k]
 have z:ig OO Z.lk (A.b+j) A.mb A.fb xo (A.b+j)=((OO (A.b+j)).del A.mb).del A.fb:=by unfold ig;rw[aA _ _ W,au]
 have f:ig OO Z.lk (A.b+j) A.mb A.fb xo Z.lk=an.bot.set A.mb xo:=by unfold ig;rw[au]
 have B:cA P A s (A.b+j):=jL h.I hj (bQ k).2.2.2.2.1
 have C:∀l,l<A.n->((s.bb j x s.sh).w l).owns=false:=λl d=>by
  by_cases e:l=j
  . subst e;rw[bc];exact R
  rw[cU e]
  grind
 refine⟨S,h.size,h.dd,h.off,λhd l d=>⟨λr=>?_,λQ=>?_⟩,h.CE,h.mu,h.gr,h.xY,h.BU,λi=>?_,λi=>?_,λi y v=>?_,λl d K=>?_,λK=>?_,λc L=>?_,
  λi=>by rw[h.hJ i];exact(rp hj p i).symm,h.ya u,h.oX u,h.mc u (λop g a N=>by grind),h.rl u (λop g a N=>by grind),h.sQ u,h.kS u (λop g=>(V op g).2),λi d hb=>?_,h.vn,h.lG,h.gq,h.la,by simp;exact aap h.n0 (adh _ _)⟩
 . have r:(s.w l).jw=false:=by
    by_cases e:l=j
    . subst e;rw[bc,F]at r;exact r
    rw[cU e]at r;exact r
   refine⟨λi=>?_,λm a X N q q'=>(fh N).elim (λk=>((h.BF hd l d).1 r).2 m a X k.1 q q') (λ⟨op,g,k⟩=>by grind)⟩
   have k:=((h.BF hd l d).1 r).1
   grind
 . rw[G _ (by omega)]
   by_cases e:l=j
   . grind
   rw[cU e]at Q;exact(h.BF hd l d).2 Q
 . by_cases o:i=Z.lk
   . subst o;rw[f];simp only[an.set,A.d3,A.d6,aao];exact⟨λ_=>rfl,rfl⟩
   by_cases e:i=A.b+j
   . subst e;rw[z]
     have:=h.iL (A.b+j);simp only[an.del,A.d1,A.d3,zs A.d4,A.d6,aao];exact this
   rw[eO i e o];exact h.iL i
 . by_cases o:i=Z.lk
   . subst o;rw[H];exact h.fI _
   rw[G i o];exact h.fI i
 . exfalso
   by_cases o:i=Z.lk
   . subst o;rw[f]at v
     simp only[an.set,A.d5,aao]at v;cases v
   by_cases e:i=A.b+j
   . subst e;rw[z]at v;simp[an.del]at v
   rw[eO i e o]at v;obtain⟨l,_,d,h3,ho,_⟩:=h.tok i y v
   grind
 . grind
 . refine⟨xo,a,by rw[f];simp[an.set],by grind,E⟩
 . rw[f]at L
   refine⟨?_,C⟩
   by_cases e:c=A.mb
   . exact e
   simp only[an.set,e,aao]at L;exact absurd rfl L
 have e:i≠A.b+j:=λe=>hb (e ▸ B)
 rw[G i d,eO i e d];exact h.Ge i d hb
variable(C:iH P A.nm)(X:iI P A.nm)
include C X in
def Sv  z  (S:bT (cI P A Fin Z z) Z s f q kk OO J M gs w t) (hj:j<A.n){Y}(o:s.w j=.un .ur Y) (hg:gs[A.b+j]?=some g) (W:J8 P A j (.un .ur Y) (kk (A.b+j)) (OO (A.b+j)) g)  sl :
 Goes P A Fin Z z s gs w t sl (A.b+j):=by
 have u:dC P A Z s kk OO J M gs.size w t:=S.ex;have B:=bx (P:=P) (A:=A) (Fin:=Fin) (Z:=Z) z;have T:(s.w j).me=true:=by rw[o];rfl
 have U:=jZ T;have a7:(s.w j).pc=.held:=by rw[o];rfl
 have hb:=A.hb;have d:A.b+j≠Z.lk:=by omega
 have a8:(A.b+j==0)=false:=by simp;omega
 have D:∀l,l<A.n->(s.w l).owns=true->l=j:=λl E e=>Gm u.I hj a7 E e
 obtain⟨kind,c,rest,hk,hM,hm,a9,b0⟩:=W;obtain⟨tf,xo,a,b1,Ff,ad,al,av,hN⟩:=a9 (.inr rfl);obtain⟨g1,F,hr,g2,⟨k,G⟩,H⟩:=JS (Wd:=mZ A) (main:=false) (w:=w) C X hM;rw[<-u.la]at F;have ax:ru kk Z.lk (A.b+j) (A.b+j)=kk (A.b+j):=aA _ _ d;have ay:ig OO Z.lk (A.b+j) A.mb A.fb xo (A.b+j)=((OO (A.b+j)).del A.mb).del A.fb:=by unfold ig;rw[aA _ _ d,au]
 have K:=runT_crowd_go (P:=P) (sl:=sl) (i:=A.b+j) hg (by rw[a8];exact F)
 have aC:=j7 (P:=P) (A:=A) (s:=s) hj T
 have p:Deaf t (A.b+j)=0:=by obtain⟨_,_,p,_⟩:=S.walk _ aC;rw[p];show eT P A s (A.b+j)=0;rw[fX hj,o];rfl
 have L:∀op∈MemOp.ofEvents (A.b+j) g.frame.fn g.frame.place #[⟨.mark (.releaseMerge Z.la),false,true⟩],op.g=A.b+j:=λop v=>by obtain⟨e,_,rfl⟩:=LK v;rfl
 have aE:∀op∈MemOp.ofEvents (A.b+j) g.frame.fn g.frame.place #[⟨.mark (.releaseMerge Z.la),false,true⟩],op.act.touch?=none/\∀a,op.act≠.mark (.release a):=λop v=>by obtain⟨e,he,rfl⟩:=LK v;simp at he;subst he;exact⟨rfl,λa h=>by simp[MemAct.ofEvent]at h⟩
 have N:A.fb<w.heap.size:=by obtain⟨c,e,T⟩:=u.xY;exact(zG.1 T).1
 have Q:∀c,OO Z.lk c=none:=λc=>by
  cases e:OO Z.lk c with
  |none=>rfl
  | some y=>
    have:=(u.Rt c (by rw[e];simp)).2 j hj
    rw[o]at this;cases this
 have hP:=S.dp.XR (fb:=A.fb) d Ff Q (by rw[u.la];exact N) p g.frame.fn g.frame.place
 obtain⟨x,m⟩:∃x:bE P,x=.un .ud Y:=⟨_,rfl⟩;have V:x.work=true:=by rw[m];rfl
 have r:((s.bb j x s.sh).w j).me=true:=by rw[bc,m];rfl
 have hI:cq A.n (s.bb j x s.sh):=u.I.still hj U V (by rw[m];rfl) (by rw[m,o];rfl)
 have hL:MS.iD A.n (s.bb j x s.sh) s:=og hj U V (by rw[m,o];rfl) (by rw[m,o];rfl) (by rw[m,o];simp[bE.ex])
 have aL:=u.give z hj U V D (by rw[m];rfl) hI ad al (by rw[m,o];rfl) av aE
 have aO:Beside (cI P A Fin Z z) s (s.bb j x s.sh) f f q (upd q (A.b+j) k) kk (ru kk Z.lk (A.b+j)) OO (ig OO Z.lk (A.b+j) A.mb A.fb xo) J J w (A.b+j) g g1:=oY z hj U V (λi R=>rfl) (λi R=>upd_ne q k R) (λi R ht=>aA _ _ (show i≠Z.lk by omega)) (λi R ht=>by unfold ig;rw[aA _ _ (show i≠Z.lk by omega),aA _ _ R]) (λ_ h=>h) (.inl λh=>h) (λ{i k O y} H=>B.mO (s:=s) (i:=i) (k:=k) (O:=O) (g:=y) H)
 refine⟨_,_,K,s.bb j x s.sh,f,upd q (A.b+j) k,ru kk Z.lk (A.b+j),ig OO Z.lk (A.b+j) A.mb A.fb xo,J,M,_,_,_,rfl,hL,?_⟩;refine bT.step B S hg L hP aL (λl y E H=>B.vq u E _ _ H) aO ⟨λE=>absurd E (oZ hj r),λ_=>⟨oZ hj r,?_,?_,g2,?_,?_⟩,λhh=>absurd hh (sS hj r),λ_ hn _=>absurd (j7 hj r) hn⟩
 . show A.b+j<A.b+A.n+1;omega
 . rw[Deaf_own,p]
   show _=eT P A (s.bb j x s.sh) (A.b+j);rw[fX hj,bc,m];rfl
 . refine .inr (.inl ⟨j,hj,rfl,?_⟩)
   rw[bc,m,ax,ay];exact⟨kind,c,rest,hk,H,hm,λh=>absurd h (by simp),λ_=>hN⟩
 exact .inr (by rw[upd_same];exact G)
end
