import Derived.Conc.DeferLaws
import Derived.Conc.AtomicLaws
import Derived.Test.YtkcceaplmgdnfaaGreatDoorC7
set_option linter.all false
namespace Go.cC
open Go.Conc
def rq (s:oV):Option FuncId:=
 match s.mode,s.defers with
 | .ret,[{ target:=.fn (.func g) cap,args:=as }]=>if cap=#[]∧as=#[] then some g else none
 | _,_=>none
def jX(s:oV)(f:FuncId):Bool:=(match s.mode with|.ret=>true|.run=>false) && s.defers.isEmpty && s.fn==f
section
variable{P:acH}{Wd:ack}{main:Bool}{y:Sy}{s:oV}{fr:Frame}{f:FuncId}{svs:List SV}{cs:acr}{w:World}
def Bf (p:FR y s fr) (h:rq s=some f) (q:Ext P f (fun _=>do mark .enable;pure Extern.Race.none_)) :
 stepG P main (G fr cs) w = .go (G { fr with defers:=[] } cs) w #[⟨.mark .enable,false,true⟩]∧FR y { s with defers:=[] } { fr with defers:=[] }:=by
 obtain⟨fn,tmps,todo,defs,mode,kind,ro⟩:=fr;obtain⟨i,j,d,c,k,l,m,n⟩:=p;simp only at i j d c k l m n;subst l;unfold rq at h;split at h
 . rename_i g cap as o hd
   split at h
   . rename_i e
     obtain⟨rfl,rfl⟩:=e;simp only[kn] at h;subst h;rw[o] at c;have c:mode = .returning:=c;subst c;rw[hd] at d;subst d;obtain⟨r,t,u,x,z,A⟩:=q.ex;refine⟨?_,⟨i,j,rfl,by rw[o];rfl,k,rfl,m,n⟩⟩
     exact stepG_unwind_entry (P:=P) (main:=main) (b:=⟨fn,tmps,todo,[],.returning,kind,none⟩) (a:=⟨tmps,[{ target:=.fn (.func g) #[],args:=#[] }]⟩) (todo:=todo) (cs:=cs) (w:=w) (ds:=[]) (f:=g) (args:=#[]) (v:=.tuple #[]) rfl t u x z A (by simp[Extern.Race.none_]) (by simp) (by
      simp_all)
   . cases h
 . cases h
def kV{fn c rest}(o:FR y s fr)(h:jX s f=true)(j:P.funcs[f]?=some fn)(a:fn.results=#[])(k:s.kind≠.early):sc P Wd (G fr (c::rest)) (jT s.kind c rest (.tuple #[])):=by
 obtain⟨p,tmps,todo,defs,mode,kind,ro⟩:=fr;obtain⟨l,q,g,d,m,n,r,t⟩:=o;simp only at l q g d m n r t;subst n;unfold jX at h;simp only[zj,aaU,List.isEmpty_iff]at h;obtain⟨⟨u,hd⟩,rfl⟩:=h;have i:s.mode=.ret:=by grind
 rw[i]at d;have d:mode=.returning:=d;subst d;rw[hd]at g;subst g;subst l;subst m;have b:∀w:World,(results fn tmps).run P w=.ok (.tuple #[]) w:=λw=>by simp[results,a]
 have e:∀w:World,(results fn tmps).events P w #[]=#[]:=λw=>by simp[results,a]
 refine⟨rfl,λmain w _=>?_⟩;generalize s.kind=kd at k ⊢
 cases kd<;>first
  |exact absurd rfl k
  |(simp[G,stepG,unwind,j,b,e,doReturn,GStep.after,jT,kR,gO];done)
  |(simp[G,stepG,unwind,j,b,e,doReturn,GStep.after,jT,kR,gO];rfl)
def tH {ad v} (c:FR y s fr) (h:aZ s=some (f,[.lit (.pointer (some ad))])) (d:s.kind ≠ .early) (e:Ext P f (Extern.Atomic.loadT (.int .u64))) (g:w.cell? ad=some (.int .u64 v)) :
 stepG P main (G fr cs) w = .go (G (fr.finish (.int .u64 v)) cs) w #[⟨.cell ad,false,true⟩]:=by
 obtain⟨ops,i,rest,kk,o,as,j,k,l,m,n,A,B⟩:=dk c h;obtain⟨fn,p,q,r,t,u⟩:=e.ex;obtain⟨x,rfl,z⟩:=Kt n;have:=stepG_load_atomic (P:=P) (main:=main) (b:=fr) (a:=⟨fr.tmps,fr.defers⟩) (kk:=kk) (cs:=cs) (w:=w) (rest:=rest) k l (by rw[c.kind];exact d) m p q r t .u64 u (iK c z) g
 grind
def HV {ad v u} (c:FR y s fr) (h:aZ s=some (f,[.lit (.pointer (some ad)),.lit (.int .u64 v)])) (e:s.kind ≠ .early) (g:Ext P f Extern.Atomic.storeT) (j:w.cell? ad=some u) (k:w.frozen? ad=false) :
 stepG P main (G fr cs) w = .go (G (fr.finish (.tuple #[])) cs) (w.setCell ad (.int .u64 v)) #[⟨.cell ad,true,true⟩]:=by
 obtain⟨ops,i,rest,kk,o,as,l,m,n,p,q,E,F⟩:=dk c h;obtain⟨fn,r,t,A,B,C⟩:=g.ex;obtain⟨x,z,rfl,D,d⟩:=Ks q;have:=stepG_store_atomic (P:=P) (main:=main) (b:=fr) (a:=⟨fr.tmps,fr.defers⟩) (kk:=kk) (cs:=cs) (w:=w) (rest:=rest) m n (by rw[c.kind];exact e) p r t A B C (iK c D) (iK c d) j k
 grind
end
structure OA where
 add:Nat
 done:Nat
 wait:Nat
 jq:Nat
 en:Nat
 acq:Nat
 rel:Nat
 rd:Nat
 wr:Nat
 OB:Nat
 sm:Nat
 vt:Nat
 HW:Nat
 xa:Nat
 EP:Nat
 nX:Nat
 tG:Nat
 tU:Nat
 tS:Nat
def u64(n:Int):SV:=.lit (.int .u64 n)
def qK:List oV->List acz->List oV
 |[],_=>[]
 |s::st,[]=>keep [] s::qK st []
 |s::st,l::ls=>keep l s::qK st ls
def GH(live:acz)(a:List acz)(c:cN):cN:=(keep live c.1,qK c.2 a)
section
variable(P:acH)(n:OA)(b:Nat)(kind:acD)(fl:Fl)
def A0:cN:=sgo P kU 400 (dF P n.add [pt b 0,i64 1] kind) []
def A1:cN:=next P kU (A0 P n b kind) un
def A2:cN:=next P kU (A1 P n b kind) ff
def A3:cN:=next P fl (A2 P n b kind) (.eC 0)
def A4:cN:=next P fl (A3 P n b kind fl) (pt b 1)
def A5:cN:=next P fl (A4 P n b kind fl) un
def D0:cN:=sgo P kU 400 (dF P n.done [pt b 0] .deferred) []
def D1:cN:=next P kU (D0 P n b) (pt b 0)
def D2:cN:=next P kU (D1 P n b) un
def D3:cN:=next P kU (D2 P n b) un
def D4:cN:=next P kU (D3 P n b) ff
def DE(w:Nat):cN:=next P fl (D4 P n b) (.eC w)
def D6:cN:=next P fl (DE P n b fl 1) (.eC 1)
def D7:cN:=next P fl (D6 P n b fl) un
def D8:cN:=next P fl (D7 P n b fl) un
def lV(c:cN):cN:=sgo P fl 400 {c.1 with defers:=[]} c.2
def W0:cN:=GH [0] [] (sgo P kU 400 (dF P n.wait [pt b 0] kind) [])
def W1:cN:=GH [5] [[0]] (next P kU (W0 P n b kind) un)
def WE:cN:=next P fl (W1 P n b kind) (.eC 0)
def WC:cN:=next P fl (WE P n b kind fl) un
def WA:cN:=next P fl (WC P n b kind fl) (pt b 0)
def WB:cN:=next P fl (WA P n b kind fl) un
def W3:cN:=next P fl (WE P n b kind fl) tt
def Sr:cN:=next P fl (W3 P n b kind fl) (pt b 1)
def W4:cN:=next P fl (Sr P n b kind fl) un
def W5:cN:=next P fl (W4 P n b kind fl) un
def Ss:cN:=next P fl (W5 P n b kind fl) (u64 0)
def TM:cN:=next P fl (Ss P n b kind fl) un
def Su:cN:=next P fl (TM P n b kind fl) (pt b 0)
def Qb:cN:=next P fl (Su P n b kind fl) un
end
def f1(fl:Fl)(x:Bool):Fl:={fl with c1:=x}
def f0(fl:Fl)(x:Bool):Fl:={fl with c0:=x}
def vH(c:cN):Bool:=c.1.kind==.normal
structure gS  P   n :Prop where
 a0:∀b kind,aZ (A0 P n b kind).1=some (n.jq,[])/\(A0 P n b kind).1.env.all plain=true/\(A0 P n b kind).2=[]/\(A0 P n b kind).1.kind=kind
 a1:∀b kind,aZ (A1 P n b kind).1=some (n.OB,[])/\(A1 P n b kind).1.env.all plain=true/\(A1 P n b kind).2=[]/\(A1 P n b kind).1.kind=kind
 a2:∀b kind,aZ (A2 P n b kind).1=some (n.sm,[pt b 0,u64 4294967296])/\vH (A2 P n b kind)=true/\(A2 P n b kind).1.env.all plain=true/\(A2 P n b kind).2.all (·.env.all plain)=true
 a3:∀b kind fl,kr (A3 P n b kind (f1 fl true)).1=some (n.tS,n.tU,pt b 1)
 a4:∀b kind fl,aZ (A4 P n b kind (f1 fl true)).1=some (n.rd,[pt b 1])/\(A4 P n b kind (f1 fl true)).1.kind=kind
 a5:∀b kind fl,rq (A5 P n b kind (f0 (f1 fl true) false)).1=some n.en/\(A5 P n b kind (f0 (f1 fl true) false)).2=[]/\(A5 P n b kind (f0 (f1 fl true) false)).1.kind=kind/\(A5 P n b kind (f0 (f1 fl true) false)).1.fn=n.add
 a6:∀b kind fl,rq (A3 P n b kind (f0 (f1 fl false) false)).1=some n.en/\(A3 P n b kind (f0 (f1 fl false) false)).2=[]/\(A3 P n b kind (f0 (f1 fl false) false)).1.kind=kind/\(A3 P n b kind (f0 (f1 fl false) false)).1.fn=n.add
 d0:∀b,kr (D0 P n b).1=some (n.tG,n.tU,pt b 0)/\(D0 P n b).1.env.all plain=true/\(D0 P n b).2.all (·.env.all plain)=true
 d1:∀b,aZ (D1 P n b).1=some (n.rel,[pt b 0])/\vH (D1 P n b)=true/\(D1 P n b).1.env.all plain=true/\(D1 P n b).2.all (·.env.all plain)=true
 d2:∀b,aZ (D2 P n b).1=some (n.jq,[])/\vH (D2 P n b)=true/\(D2 P n b).1.env.all plain=true/\(D2 P n b).2.all (·.env.all plain)=true
 d3:∀b,aZ (D3 P n b).1=some (n.OB,[])/\vH (D3 P n b)=true/\(D3 P n b).1.env.all plain=true/\(D3 P n b).2.all (·.env.all plain)=true
 d4:∀b,aZ (D4 P n b).1=some (n.sm,[pt b 0,u64 18446744069414584320])/\vH (D4 P n b)=true/\(D4 P n b).1.env.all plain=true/\(D4 P n b).2.all (·.env.all plain)=true
 d5:∀b fl x,rq (DE P n b (f0 fl x) 0).1=some n.en
 Xr:∀b fl x,jX (lV P (f0 fl x) (DE P n b (f0 fl x) 0)).1 n.done=true/\(lV P (f0 fl x) (DE P n b (f0 fl x) 0)).2=[]/\(lV P (f0 fl x) (DE P n b (f0 fl x) 0)).1.kind=.deferred
 d6:∀b fl,rq (DE P n b (f0 fl false) 1).1=some n.en
 Xs:∀b fl,jX (lV P (f0 fl false) (DE P n b (f0 fl false) 1)).1 n.done=true/\(lV P (f0 fl false) (DE P n b (f0 fl false) 1)).2=[]/\(lV P (f0 fl false) (DE P n b (f0 fl false) 1)).1.kind=.deferred
 d7:∀b fl,aZ (DE P n b (f0 fl true) 1).1=some (n.vt,[pt b 0])/\vH (DE P n b (f0 fl true) 1)=true
 d8:∀b fl,aZ (D6 P n b (f0 fl true)).1=some (n.HW,[pt b 0,u64 0])/\vH (D6 P n b (f0 fl true))=true
 d9:∀b fl,aZ (D7 P n b (f0 fl true)).1=some (n.nX,[pt b 1,ff,i64 0])/\vH (D7 P n b (f0 fl true))=true
 da:∀b fl,rq (D8 P n b (f0 fl true)).1=some n.en
 db:∀b fl,jX (lV P (f0 fl true) (D8 P n b (f0 fl true))).1 n.done=true/\(lV P (f0 fl true) (D8 P n b (f0 fl true))).2=[]/\(lV P (f0 fl true) (D8 P n b (f0 fl true))).1.kind=.deferred
 w0:∀b kind,aZ (W0 P n b kind).1=some (n.jq,[])/\(W0 P n b kind).1.env.all plain=true/\(W0 P n b kind).2=[]/\(W0 P n b kind).1.kind=kind
 w1:∀b kind,aZ (W1 P n b kind).1=some (n.vt,[pt b 0])/\vH (W1 P n b kind)=true/\(W1 P n b kind).1.env.all plain=true/\(W1 P n b kind).2.all (·.env.all plain)=true
 w2:∀b kind fl,aZ (WE P n b kind (f0 fl true)).1=some (n.en,[])/\(WE P n b kind (f0 fl true)).1.kind=kind
 w3:∀b kind fl,kr (WC P n b kind (f0 fl true)).1=some (n.tG,n.tU,pt b 0)
 w4:∀b kind fl,aZ (WA P n b kind (f0 fl true)).1=some (n.acq,[pt b 0])/\(WA P n b kind (f0 fl true)).1.kind=kind
 w5:∀b kind fl,jX (WB P n b kind (f0 fl true)).1 n.wait=true/\(WB P n b kind (f0 fl true)).2=[]/\(WB P n b kind (f0 fl true)).1.kind=kind
 w6:∀b kind fl,aZ (WE P n b kind (f0 fl false)).1=some (n.xa,[pt b 0,.eC 0,.eC 1])/\vH (WE P n b kind (f0 fl false))=true
 w7:∀b kind fl,GH [5] [[0]] (next P (f0 fl false) (WE P n b kind (f0 fl false)) ff)=W1 P n b kind
 w8:∀b kind fl,kr (W3 P n b kind (f0 fl false)).1=some (n.tS,n.tU,pt b 1)
 w9:∀b kind fl,aZ (Sr P n b kind (f0 fl false)).1=some (n.wr,[pt b 1])/\(Sr P n b kind (f0 fl false)).1.kind=kind
 wa:∀b kind fl,aZ (W4 P n b kind (f0 fl false)).1=some (n.EP,[pt b 1,ff])/\(W4 P n b kind (f0 fl false)).1.kind=kind
 wb:∀b kind fl,aZ (W5 P n b kind (f0 fl false)).1=some (n.vt,[pt b 0])/\vH (W5 P n b kind (f0 fl false))=true
 wc:∀b kind fl,aZ (Ss P n b kind (f0 fl false)).1=some (n.en,[])/\(Ss P n b kind (f0 fl false)).1.kind=kind
 wd:∀b kind fl,kr (TM P n b kind (f0 fl false)).1=some (n.tG,n.tU,pt b 0)
 we:∀b kind fl,aZ (Su P n b kind (f0 fl false)).1=some (n.acq,[pt b 0])/\(Su P n b kind (f0 fl false)).1.kind=kind
 wf:∀b kind fl,jX (Qb P n b kind (f0 fl false)).1 n.wait=true/\(Qb P n b kind (f0 fl false)).2=[]/\(Qb P n b kind (f0 fl false)).1.kind=kind
structure iC  P  (n:OA):Prop where
 jq:Ext P n.jq (λ_=>do mark .disable;pure Extern.Race.none_)
 en:Ext P n.en (λ_=>do mark .enable;pure Extern.Race.none_)
 acq:Ext P n.acq (Extern.Race.marked .acquire)
 rel:Ext P n.rel (Extern.Race.marked .releaseMerge)
 rd:Ext P n.rd (Extern.Race.marked .read)
 wr:Ext P n.wr (Extern.Race.marked .write)
 OB:Ext P n.OB (λ_=>pure (.bool false))
 sm:Ext P n.sm (Extern.Atomic.update (Op.intArith .add) .u64 true)
 vt:Ext P n.vt (Extern.Atomic.loadT (.int .u64))
 HW:Ext P n.HW Extern.Atomic.storeT
 xa:Ext P n.xa (Extern.Atomic.casT (.int .u64))
 EP:Ext P n.EP Extern.Sync.semacquire
 nX:Ext P n.nX Extern.Sync.semrelease
 Xt:∃t,P.underlying n.tG=some (.pointer t)/\P.underlying n.tU=some .unsafePointer/\(P.info? t).map (λi=>decide (i.size=0))=some false
 Xu:∃t,P.underlying n.tS=some (.pointer t)/\P.underlying n.tU=some .unsafePointer/\(P.info? t).map (λi=>decide (i.size=0))=some false
 QZ:∃fn body,P.funcs[n.add]?=some fn/\fn.body=some body/\fn.ntmps=117/\fn.results=#[]
 KL:∃fn body,P.funcs[n.done]?=some fn/\fn.body=some body/\fn.ntmps=4/\fn.results=#[]
 KM:∃fn body,P.funcs[n.wait]?=some fn/\fn.body=some body/\fn.ntmps=84/\fn.results=#[]
