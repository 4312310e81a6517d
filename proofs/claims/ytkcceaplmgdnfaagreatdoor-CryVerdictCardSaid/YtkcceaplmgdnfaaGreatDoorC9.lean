import Derived.Conc.DeferLaws
import Derived.Conc.AtomicLaws
import Derived.Test.YtkcceaplmgdnfaaGreatDoorC8
set_option linter.all false
namespace Go.cG
open Go.Conc
def sn (s:jT):Option FuncId:=
 match s.mode,s.defers with
 | .ret,[{ target:=.fn (.func g) cap,args:=as }]=>if cap=#[]∧as=#[] then some g else none
 | _,_=>none
def kq(s:jT)(f:FuncId):Bool:=(match s.mode with|.ret=>true|.run=>false) && s.defers.isEmpty && s.fn==f
section
variable{P:adS}{Wd:adr}{main:Bool}{y:Sy}{s:jT}{fr:Frame}{f:FuncId}{svs:adP}{cs:adt}{w:World}
def BQ (p:FR y s fr) (h:sn s=some f) (q:Ext P f (fun _=>do mark .enable;pure Extern.Race.none_)) :
 stepG P main (G fr cs) w = .go (G { fr with defers:=[] } cs) w #[⟨.mark .enable,false,true⟩]∧FR y { s with defers:=[] } { fr with defers:=[] }:=by
 obtain⟨fn,tmps,todo,defs,mode,kind,ro⟩:=fr;obtain⟨i,j,d,c,k,l,m,n⟩:=p;simp only at i j d c k l m n;subst l;unfold sn at h;split at h
 . rename_i g cap as o hd
   split at h
   . rename_i e
     obtain⟨rfl,rfl⟩:=e;simp only[kn] at h;subst h;rw[o] at c;have c:mode = .returning:=c;subst c;rw[hd] at d;subst d;obtain⟨r,t,u,x,z,A⟩:=q.ex;refine⟨?_,⟨i,j,rfl,by rw[o];rfl,k,rfl,m,n⟩⟩
     exact stepG_unwind_entry (P:=P) (main:=main) (b:=⟨fn,tmps,todo,[],.returning,kind,none⟩) (a:=⟨tmps,[{ target:=.fn (.func g) #[],args:=#[] }]⟩) (todo:=todo) (cs:=cs) (w:=w) (ds:=[]) (f:=g) (args:=#[]) (v:=.tuple #[]) rfl t u x z A (by simp[Extern.Race.none_]) (by simp) (by
      simp_all)
   . cases h
 . cases h
def lD{fn:Func}{c:Frame}{rest:adt}(o:FR y s fr)(h:kq s f=true)(j:P.funcs[f]?=some fn)(a:fn.results=#[])(k:s.kind≠.early):sk P Wd (G fr (c::rest)) (ki s.kind c rest (.tuple #[])):=by
 obtain⟨p,tmps,todo,defs,mode,kind,ro⟩:=fr;obtain⟨l,q,g,d,m,n,r,t⟩:=o;simp only at l q g d m n r t;subst n;unfold kq at h;simp only[zj,abI,List.isEmpty_iff]at h;obtain⟨⟨u,hd⟩,rfl⟩:=h;have i:s.mode=.ret:=by grind
 rw[i]at d;have d:mode=.returning:=d;subst d;rw[hd]at g;subst g;subst l;subst m;have b:∀w:World,(results fn tmps).run P w=.ok (.tuple #[]) w:=λw=>by simp[results,a]
 have e:∀w:World,(results fn tmps).events P w #[]=#[]:=λw=>by simp[results,a]
 refine⟨rfl,λmain w _=>?_⟩;generalize s.kind=kd at k ⊢
 cases kd<;>first
  |exact absurd rfl k
  |(simp[G,stepG,unwind,j,b,e,doReturn,GStep.after,ki,lx,gQ];done)
  |(simp[G,stepG,unwind,j,b,e,doReturn,GStep.after,ki,lx,gQ];rfl)
def uO {ad:Addr} {v:Int} (c:FR y s fr) (h:bb s=some (f,[.lit (.pointer (some ad))])) (d:s.kind ≠ .early) (e:Ext P f (Extern.Atomic.loadT (.int .u64))) (g:w.cell? ad=some (.int .u64 v)) :
 stepG P main (G fr cs) w = .go (G (fr.finish (.int .u64 v)) cs) w #[⟨.cell ad,false,true⟩]:=by
 obtain⟨ops,i,rest,kk,o,as,j,k,l,m,n,A,B⟩:=dv c h;obtain⟨fn,p,q,r,t,u⟩:=e.ex;obtain⟨x,rfl,z⟩:=Lr n;have:=stepG_load_atomic (P:=P) (main:=main) (b:=fr) (a:=⟨fr.tmps,fr.defers⟩) (kk:=kk) (cs:=cs) (w:=w) (rest:=rest) k l (by rw[c.kind];exact d) m p q r t .u64 u (iU c z) g
 grind
def IK {ad:Addr} {v:Int} {u:Value} (c:FR y s fr) (h:bb s=some (f,[.lit (.pointer (some ad)),.lit (.int .u64 v)])) (e:s.kind ≠ .early) (g:Ext P f Extern.Atomic.storeT) (j:w.cell? ad=some u) (k:w.frozen? ad=false) :
 stepG P main (G fr cs) w = .go (G (fr.finish (.tuple #[])) cs) (w.setCell ad (.int .u64 v)) #[⟨.cell ad,true,true⟩]:=by
 obtain⟨ops,i,rest,kk,o,as,l,m,n,p,q,E,F⟩:=dv c h;obtain⟨fn,r,t,A,B,C⟩:=g.ex;obtain⟨x,z,rfl,D,d⟩:=Lq q;have:=stepG_store_atomic (P:=P) (main:=main) (b:=fr) (a:=⟨fr.tmps,fr.defers⟩) (kk:=kk) (cs:=cs) (w:=w) (rest:=rest) m n (by rw[c.kind];exact e) p r t A B C (iU c D) (iU c d) j k
 grind
end
structure IL where
 add:Nat
 done:Nat
 wait:Nat
 jA:Nat
 en:Nat
 acq:Nat
 rel:Nat
 rd:Nat
 wr:Nat
 Pw:Nat
 tp:Nat
 wx:Nat
 IM:Nat
 xR:Nat
 FE:Nat
 oO:Nat
 tG:Nat
 tU:Nat
 tS:Nat
def u64(n:Int):SV:=.lit (.int .u64 n)
def rO:adQ->List adH->adQ
 |[],_=>[]
 |s::st,[]=>keep [] s::rO st []
 |s::st,l::ls=>keep l s::rO st ls
def HE(live:adH)(a:List adH)(c:cO):cO:=(keep live c.1,rO c.2 a)
section
variable(P:adS)(n:IL)(b:Nat)(kind:adK)(fl:Fl)
def A0:cO:=sgo P lC 400 (dJ P n.add [pt b 0,i64 1] kind) []
def A1:cO:=next P lC (A0 P n b kind) un
def A2:cO:=next P lC (A1 P n b kind) ff
def A3:cO:=next P fl (A2 P n b kind) (.eF 0)
def A4:cO:=next P fl (A3 P n b kind fl) (pt b 1)
def A5:cO:=next P fl (A4 P n b kind fl) un
def D0:cO:=sgo P lC 400 (dJ P n.done [pt b 0] .deferred) []
def D1:cO:=next P lC (D0 P n b) (pt b 0)
def D2:cO:=next P lC (D1 P n b) un
def D3:cO:=next P lC (D2 P n b) un
def D4:cO:=next P lC (D3 P n b) ff
def DE(w:Nat):cO:=next P fl (D4 P n b) (.eF w)
def D6:cO:=next P fl (DE P n b fl 1) (.eF 1)
def D7:cO:=next P fl (D6 P n b fl) un
def D8:cO:=next P fl (D7 P n b fl) un
def mG(c:cO):cO:=sgo P fl 400 {c.1 with defers:=[]} c.2
def W0:cO:=HE [0] [] (sgo P lC 400 (dJ P n.wait [pt b 0] kind) [])
def W1:cO:=HE [5] [[0]] (next P lC (W0 P n b kind) un)
def WE:cO:=next P fl (W1 P n b kind) (.eF 0)
def WC:cO:=next P fl (WE P n b kind fl) un
def WA:cO:=next P fl (WC P n b kind fl) (pt b 0)
def WB:cO:=next P fl (WA P n b kind fl) un
def W3:cO:=next P fl (WE P n b kind fl) tt
def Ty:cO:=next P fl (W3 P n b kind fl) (pt b 1)
def W4:cO:=next P fl (Ty P n b kind fl) un
def W5:cO:=next P fl (W4 P n b kind fl) un
def Tz:cO:=next P fl (W5 P n b kind fl) (u64 0)
def UL:cO:=next P fl (Tz P n b kind fl) un
def TA:cO:=next P fl (UL P n b kind fl) (pt b 0)
def Q2:cO:=next P fl (TA P n b kind fl) un
end
def f1(fl:Fl)(x:Bool):Fl:={fl with c1:=x}
def f0(fl:Fl)(x:Bool):Fl:={fl with c0:=x}
def wO(c:cO):Bool:=c.1.kind==.normal
structure gT(P:adS)(n:IL):Prop where
 a0:∀b kind,bb (A0 P n b kind).1=some (n.jA,[])/\(A0 P n b kind).1.env.all plain=true/\(A0 P n b kind).2=[]/\(A0 P n b kind).1.kind=kind
 a1:∀b kind,bb (A1 P n b kind).1=some (n.Pw,[])/\(A1 P n b kind).1.env.all plain=true/\(A1 P n b kind).2=[]/\(A1 P n b kind).1.kind=kind
 a2:∀b kind,bb (A2 P n b kind).1=some (n.tp,[pt b 0,u64 4294967296])/\wO (A2 P n b kind)=true/\(A2 P n b kind).1.env.all plain=true/\(A2 P n b kind).2.all (·.env.all plain)=true
 a3:∀b kind fl,kM (A3 P n b kind (f1 fl true)).1=some (n.tS,n.tU,pt b 1)
 a4:∀b kind fl,bb (A4 P n b kind (f1 fl true)).1=some (n.rd,[pt b 1])/\(A4 P n b kind (f1 fl true)).1.kind=kind
 a5:∀b kind fl,sn (A5 P n b kind (f0 (f1 fl true) false)).1=some n.en/\(A5 P n b kind (f0 (f1 fl true) false)).2=[]/\(A5 P n b kind (f0 (f1 fl true) false)).1.kind=kind/\(A5 P n b kind (f0 (f1 fl true) false)).1.fn=n.add
 a6:∀b kind fl,sn (A3 P n b kind (f0 (f1 fl false) false)).1=some n.en/\(A3 P n b kind (f0 (f1 fl false) false)).2=[]/\(A3 P n b kind (f0 (f1 fl false) false)).1.kind=kind/\(A3 P n b kind (f0 (f1 fl false) false)).1.fn=n.add
 d0:∀b,kM (D0 P n b).1=some (n.tG,n.tU,pt b 0)/\(D0 P n b).1.env.all plain=true/\(D0 P n b).2.all (·.env.all plain)=true
 d1:∀b,bb (D1 P n b).1=some (n.rel,[pt b 0])/\wO (D1 P n b)=true/\(D1 P n b).1.env.all plain=true/\(D1 P n b).2.all (·.env.all plain)=true
 d2:∀b,bb (D2 P n b).1=some (n.jA,[])/\wO (D2 P n b)=true/\(D2 P n b).1.env.all plain=true/\(D2 P n b).2.all (·.env.all plain)=true
 d3:∀b,bb (D3 P n b).1=some (n.Pw,[])/\wO (D3 P n b)=true/\(D3 P n b).1.env.all plain=true/\(D3 P n b).2.all (·.env.all plain)=true
 d4:∀b,bb (D4 P n b).1=some (n.tp,[pt b 0,u64 18446744069414584320])/\wO (D4 P n b)=true/\(D4 P n b).1.env.all plain=true/\(D4 P n b).2.all (·.env.all plain)=true
 d5:∀b fl x,sn (DE P n b (f0 fl x) 0).1=some n.en
 Yi:∀b fl x,kq (mG P (f0 fl x) (DE P n b (f0 fl x) 0)).1 n.done=true/\(mG P (f0 fl x) (DE P n b (f0 fl x) 0)).2=[]/\(mG P (f0 fl x) (DE P n b (f0 fl x) 0)).1.kind=.deferred
 d6:∀b fl,sn (DE P n b (f0 fl false) 1).1=some n.en
 Yj:∀b fl,kq (mG P (f0 fl false) (DE P n b (f0 fl false) 1)).1 n.done=true/\(mG P (f0 fl false) (DE P n b (f0 fl false) 1)).2=[]/\(mG P (f0 fl false) (DE P n b (f0 fl false) 1)).1.kind=.deferred
 d7:∀b fl,bb (DE P n b (f0 fl true) 1).1=some (n.wx,[pt b 0])/\wO (DE P n b (f0 fl true) 1)=true
 d8:∀b fl,bb (D6 P n b (f0 fl true)).1=some (n.IM,[pt b 0,u64 0])/\wO (D6 P n b (f0 fl true))=true
 d9:∀b fl,bb (D7 P n b (f0 fl true)).1=some (n.oO,[pt b 1,ff,i64 0])/\wO (D7 P n b (f0 fl true))=true
 da:∀b fl,sn (D8 P n b (f0 fl true)).1=some n.en
 db:∀b fl,kq (mG P (f0 fl true) (D8 P n b (f0 fl true))).1 n.done=true/\(mG P (f0 fl true) (D8 P n b (f0 fl true))).2=[]/\(mG P (f0 fl true) (D8 P n b (f0 fl true))).1.kind=.deferred
 w0:∀b kind,bb (W0 P n b kind).1=some (n.jA,[])/\(W0 P n b kind).1.env.all plain=true/\(W0 P n b kind).2=[]/\(W0 P n b kind).1.kind=kind
 w1:∀b kind,bb (W1 P n b kind).1=some (n.wx,[pt b 0])/\wO (W1 P n b kind)=true/\(W1 P n b kind).1.env.all plain=true/\(W1 P n b kind).2.all (·.env.all plain)=true
 w2:∀b kind fl,bb (WE P n b kind (f0 fl true)).1=some (n.en,[])/\(WE P n b kind (f0 fl true)).1.kind=kind
 w3:∀b kind fl,kM (WC P n b kind (f0 fl true)).1=some (n.tG,n.tU,pt b 0)
 w4:∀b kind fl,bb (WA P n b kind (f0 fl true)).1=some (n.acq,[pt b 0])/\(WA P n b kind (f0 fl true)).1.kind=kind
 w5:∀b kind fl,kq (WB P n b kind (f0 fl true)).1 n.wait=true/\(WB P n b kind (f0 fl true)).2=[]/\(WB P n b kind (f0 fl true)).1.kind=kind
 w6:∀b kind fl,bb (WE P n b kind (f0 fl false)).1=some (n.xR,[pt b 0,.eF 0,.eF 1])/\wO (WE P n b kind (f0 fl false))=true
 w7:∀b kind fl,HE [5] [[0]] (next P (f0 fl false) (WE P n b kind (f0 fl false)) ff)=W1 P n b kind
 w8:∀b kind fl,kM (W3 P n b kind (f0 fl false)).1=some (n.tS,n.tU,pt b 1)
 w9:∀b kind fl,bb (Ty P n b kind (f0 fl false)).1=some (n.wr,[pt b 1])/\(Ty P n b kind (f0 fl false)).1.kind=kind
 wa:∀b kind fl,bb (W4 P n b kind (f0 fl false)).1=some (n.FE,[pt b 1,ff])/\(W4 P n b kind (f0 fl false)).1.kind=kind
 wb:∀b kind fl,bb (W5 P n b kind (f0 fl false)).1=some (n.wx,[pt b 0])/\wO (W5 P n b kind (f0 fl false))=true
 wc:∀b kind fl,bb (Tz P n b kind (f0 fl false)).1=some (n.en,[])/\(Tz P n b kind (f0 fl false)).1.kind=kind
 wd:∀b kind fl,kM (UL P n b kind (f0 fl false)).1=some (n.tG,n.tU,pt b 0)
 we:∀b kind fl,bb (TA P n b kind (f0 fl false)).1=some (n.acq,[pt b 0])/\(TA P n b kind (f0 fl false)).1.kind=kind
 wf:∀b kind fl,kq (Q2 P n b kind (f0 fl false)).1 n.wait=true/\(Q2 P n b kind (f0 fl false)).2=[]/\(Q2 P n b kind (f0 fl false)).1.kind=kind
structure iN(P:adS)(n:IL):Prop where
 jA:Ext P n.jA (λ_=>do mark .disable;pure Extern.Race.none_)
 en:Ext P n.en (λ_=>do mark .enable;pure Extern.Race.none_)
 acq:Ext P n.acq (Extern.Race.marked .acquire)
 rel:Ext P n.rel (Extern.Race.marked .releaseMerge)
 rd:Ext P n.rd (Extern.Race.marked .read)
 wr:Ext P n.wr (Extern.Race.marked .write)
 Pw:Ext P n.Pw (λ_=>pure (.bool false))
 tp:Ext P n.tp (Extern.Atomic.update (Op.intArith .add) .u64 true)
 wx:Ext P n.wx (Extern.Atomic.loadT (.int .u64))
 IM:Ext P n.IM Extern.Atomic.storeT
 xR:Ext P n.xR (Extern.Atomic.casT (.int .u64))
 FE:Ext P n.FE Extern.Sync.semacquire
 oO:Ext P n.oO Extern.Sync.semrelease
 Yk:∃t,P.underlying n.tG=some (.pointer t)/\P.underlying n.tU=some .unsafePointer/\(P.info? t).map (λi=>decide (i.size=0))=some false
 Yl:∃t,P.underlying n.tS=some (.pointer t)/\P.underlying n.tU=some .unsafePointer/\(P.info? t).map (λi=>decide (i.size=0))=some false
 R1:∃fn body,P.funcs[n.add]?=some fn/\fn.body=some body/\fn.ntmps=117/\fn.results=#[]
 LI:∃fn body,P.funcs[n.done]?=some fn/\fn.body=some body/\fn.ntmps=4/\fn.results=#[]
 LJ:∃fn body,P.funcs[n.wait]?=some fn/\fn.body=some body/\fn.ntmps=84/\fn.results=#[]
