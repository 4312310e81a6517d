import Derived.Conc.DeferLaws
import Derived.Conc.AtomicLaws
import Derived.Test.YtebcbkhnlnkolaaGreatDoorC7
set_option linter.all false
namespace Go.cE
open Go.Conc
def r7 (s:pF):Option FuncId:=
 match s.mode,s.defers with
 | .ret,[{ target:=.fn (.func g) cap,args:=as }]=>if cap=#[]∧as=#[] then some g else none
 | _,_=>none
def kg(s:pF)(f:FuncId):Bool:=(match s.mode with|.ret=>true|.run=>false) && s.defers.isEmpty && s.fn==f
section
variable{P:adh}{Wd:acM}{main:Bool}{y:Sy}{s:pF}{fr:Frame}{f:FuncId}{svs:List SV}{cs:acR}{w:World}
def BE (p:FR y s fr) (h:r7 s=some f) (q:Ext P f (fun _=>do mark .enable;pure Extern.Race.none_)) :
 stepG P main (G fr cs) w = .go (G { fr with defers:=[] } cs) w #[⟨.mark .enable,false,true⟩]∧FR y { s with defers:=[] } { fr with defers:=[] }:=by
 obtain⟨fn,tmps,todo,defs,mode,kind,ro⟩:=fr;obtain⟨i,j,d,c,k,l,m,n⟩:=p;simp only at i j d c k l m n;subst l;unfold r7 at h;split at h
 . rename_i g cap as o hd
   split at h
   . rename_i e
     obtain⟨rfl,rfl⟩:=e;simp only[kn] at h;subst h;rw[o] at c;have c:mode = .returning:=c;subst c;rw[hd] at d;subst d;obtain⟨r,t,u,x,z,A⟩:=q.ex;refine⟨?_,⟨i,j,rfl,by rw[o];rfl,k,rfl,m,n⟩⟩
     exact stepG_unwind_entry (P:=P) (main:=main) (b:=⟨fn,tmps,todo,[],.returning,kind,none⟩) (a:=⟨tmps,[{ target:=.fn (.func g) #[],args:=#[] }]⟩) (todo:=todo) (cs:=cs) (w:=w) (ds:=[]) (f:=g) (args:=#[]) (v:=.tuple #[]) rfl t u x z A (by simp[Extern.Race.none_]) (by simp) (by
      simp_all)
   . cases h
 . cases h
def lq{fn c rest}(o:FR y s fr)(h:kg s f=true)(j:P.funcs[f]?=some fn)(a:fn.results=#[])(k:s.kind≠.early):sT P Wd (G fr (c::rest)) (jZ s.kind c rest (.tuple #[])):=by
 obtain⟨p,tmps,todo,defs,mode,kind,ro⟩:=fr;obtain⟨l,q,g,d,m,n,r,t⟩:=o;simp only at l q g d m n r t;subst n;unfold kg at h;simp only[zj,abu,List.isEmpty_iff]at h;obtain⟨⟨u,hd⟩,rfl⟩:=h;have i:s.mode=.ret:=by grind
 rw[i]at d;have d:mode=.returning:=d;subst d;rw[hd]at g;subst g;subst l;subst m;have b:∀w:World,(results fn tmps).run P w=.ok (.tuple #[]) w:=λw=>by simp[results,a]
 have e:∀w:World,(results fn tmps).events P w #[]=#[]:=λw=>by simp[results,a]
 refine⟨rfl,λmain w _=>?_⟩;generalize s.kind=kd at k ⊢
 cases kd<;>first
  |exact absurd rfl k
  |(simp[G,stepG,unwind,j,b,e,doReturn,GStep.after,jZ,lf,gJ];done)
  |(simp[G,stepG,unwind,j,b,e,doReturn,GStep.after,jZ,lf,gJ];rfl)
def uH {ad v} (c:FR y s fr) (h:bc s=some (f,[.lit (.pointer (some ad))])) (d:s.kind ≠ .early) (e:Ext P f (Extern.Atomic.loadT (.int .u64))) (g:w.cell? ad=some (.int .u64 v)) :
 stepG P main (G fr cs) w = .go (G (fr.finish (.int .u64 v)) cs) w #[⟨.cell ad,false,true⟩]:=by
 obtain⟨ops,i,rest,kk,o,as,j,k,l,m,n,A,B⟩:=dt c h;obtain⟨fn,p,q,r,t,u⟩:=e.ex;obtain⟨x,rfl,z⟩:=Lc n;have:=stepG_load_atomic (P:=P) (main:=main) (b:=fr) (a:=⟨fr.tmps,fr.defers⟩) (kk:=kk) (cs:=cs) (w:=w) (rest:=rest) k l (by rw[c.kind];exact d) m p q r t .u64 u (iN c z) g
 grind
def IA {ad v u} (c:FR y s fr) (h:bc s=some (f,[.lit (.pointer (some ad)),.lit (.int .u64 v)])) (e:s.kind ≠ .early) (g:Ext P f Extern.Atomic.storeT) (j:w.cell? ad=some u) (k:w.frozen? ad=false) :
 stepG P main (G fr cs) w = .go (G (fr.finish (.tuple #[])) cs) (w.setCell ad (.int .u64 v)) #[⟨.cell ad,true,true⟩]:=by
 obtain⟨ops,i,rest,kk,o,as,l,m,n,p,q,E,F⟩:=dt c h;obtain⟨fn,r,t,A,B,C⟩:=g.ex;obtain⟨x,z,rfl,D,d⟩:=Lb q;have:=stepG_store_atomic (P:=P) (main:=main) (b:=fr) (a:=⟨fr.tmps,fr.defers⟩) (kk:=kk) (cs:=cs) (w:=w) (rest:=rest) m n (by rw[c.kind];exact e) p r t A B C (iN c D) (iN c d) j k
 grind
end
structure Pm where
 add:Nat
 done:Nat
 wait:Nat
 jv:Nat
 en:Nat
 acq:Nat
 rel:Nat
 rd:Nat
 wr:Nat
 Pn:Nat
 sY:Nat
 v7:Nat
 IB:Nat
 xE:Nat
 Fu:Nat
 oC:Nat
 tG:Nat
 tU:Nat
 tS:Nat
def u64(n:Int):SV:=.lit (.int .u64 n)
def rC:List pF->List acY->List pF
 |[],_=>[]
 |s::st,[]=>keep [] s::rC st []
 |s::st,l::ls=>keep l s::rC st ls
def Hu(live:acY)(a:List acY)(c:cQ):cQ:=(keep live c.1,rC c.2 a)
section
variable(P:adh)(n:Pm)(b:Nat)(kind:adb)(fl:Fl)
def A0:cQ:=sgo P ln 400 (dI P n.add [pt b 0,i64 1] kind) []
def A1:cQ:=next P ln (A0 P n b kind) un
def A2:cQ:=next P ln (A1 P n b kind) ff
def A3:cQ:=next P fl (A2 P n b kind) (.eE 0)
def A4:cQ:=next P fl (A3 P n b kind fl) (pt b 1)
def A5:cQ:=next P fl (A4 P n b kind fl) un
def D0:cQ:=sgo P ln 400 (dI P n.done [pt b 0] .deferred) []
def D1:cQ:=next P ln (D0 P n b) (pt b 0)
def D2:cQ:=next P ln (D1 P n b) un
def D3:cQ:=next P ln (D2 P n b) un
def D4:cQ:=next P ln (D3 P n b) ff
def DE(w:Nat):cQ:=next P fl (D4 P n b) (.eE w)
def D6:cQ:=next P fl (DE P n b fl 1) (.eE 1)
def D7:cQ:=next P fl (D6 P n b fl) un
def D8:cQ:=next P fl (D7 P n b fl) un
def my(c:cQ):cQ:=sgo P fl 400 {c.1 with defers:=[]} c.2
def W0:cQ:=Hu [0] [] (sgo P ln 400 (dI P n.wait [pt b 0] kind) [])
def W1:cQ:=Hu [5] [[0]] (next P ln (W0 P n b kind) un)
def WE:cQ:=next P fl (W1 P n b kind) (.eE 0)
def WC:cQ:=next P fl (WE P n b kind fl) un
def WA:cQ:=next P fl (WC P n b kind fl) (pt b 0)
def WB:cQ:=next P fl (WA P n b kind fl) un
def W3:cQ:=next P fl (WE P n b kind fl) tt
def Tm:cQ:=next P fl (W3 P n b kind fl) (pt b 1)
def W4:cQ:=next P fl (Tm P n b kind fl) un
def W5:cQ:=next P fl (W4 P n b kind fl) un
def Tn:cQ:=next P fl (W5 P n b kind fl) (u64 0)
def Ux:cQ:=next P fl (Tn P n b kind fl) un
def Tp:cQ:=next P fl (Ux P n b kind fl) (pt b 0)
def QT:cQ:=next P fl (Tp P n b kind fl) un
end
def f1(fl:Fl)(x:Bool):Fl:={fl with c1:=x}
def f0(fl:Fl)(x:Bool):Fl:={fl with c0:=x}
def wC(c:cQ):Bool:=c.1.kind==.normal
structure gL  P   n :Prop where
 a0:∀b kind,bc (A0 P n b kind).1=some (n.jv,[])/\(A0 P n b kind).1.env.all plain=true/\(A0 P n b kind).2=[]/\(A0 P n b kind).1.kind=kind
 a1:∀b kind,bc (A1 P n b kind).1=some (n.Pn,[])/\(A1 P n b kind).1.env.all plain=true/\(A1 P n b kind).2=[]/\(A1 P n b kind).1.kind=kind
 a2:∀b kind,bc (A2 P n b kind).1=some (n.sY,[pt b 0,u64 4294967296])/\wC (A2 P n b kind)=true/\(A2 P n b kind).1.env.all plain=true/\(A2 P n b kind).2.all (·.env.all plain)=true
 a3:∀b kind fl,kG (A3 P n b kind (f1 fl true)).1=some (n.tS,n.tU,pt b 1)
 a4:∀b kind fl,bc (A4 P n b kind (f1 fl true)).1=some (n.rd,[pt b 1])/\(A4 P n b kind (f1 fl true)).1.kind=kind
 a5:∀b kind fl,r7 (A5 P n b kind (f0 (f1 fl true) false)).1=some n.en/\(A5 P n b kind (f0 (f1 fl true) false)).2=[]/\(A5 P n b kind (f0 (f1 fl true) false)).1.kind=kind/\(A5 P n b kind (f0 (f1 fl true) false)).1.fn=n.add
 a6:∀b kind fl,r7 (A3 P n b kind (f0 (f1 fl false) false)).1=some n.en/\(A3 P n b kind (f0 (f1 fl false) false)).2=[]/\(A3 P n b kind (f0 (f1 fl false) false)).1.kind=kind/\(A3 P n b kind (f0 (f1 fl false) false)).1.fn=n.add
 d0:∀b,kG (D0 P n b).1=some (n.tG,n.tU,pt b 0)/\(D0 P n b).1.env.all plain=true/\(D0 P n b).2.all (·.env.all plain)=true
 d1:∀b,bc (D1 P n b).1=some (n.rel,[pt b 0])/\wC (D1 P n b)=true/\(D1 P n b).1.env.all plain=true/\(D1 P n b).2.all (·.env.all plain)=true
 d2:∀b,bc (D2 P n b).1=some (n.jv,[])/\wC (D2 P n b)=true/\(D2 P n b).1.env.all plain=true/\(D2 P n b).2.all (·.env.all plain)=true
 d3:∀b,bc (D3 P n b).1=some (n.Pn,[])/\wC (D3 P n b)=true/\(D3 P n b).1.env.all plain=true/\(D3 P n b).2.all (·.env.all plain)=true
 d4:∀b,bc (D4 P n b).1=some (n.sY,[pt b 0,u64 18446744069414584320])/\wC (D4 P n b)=true/\(D4 P n b).1.env.all plain=true/\(D4 P n b).2.all (·.env.all plain)=true
 d5:∀b fl x,r7 (DE P n b (f0 fl x) 0).1=some n.en
 Ya:∀b fl x,kg (my P (f0 fl x) (DE P n b (f0 fl x) 0)).1 n.done=true/\(my P (f0 fl x) (DE P n b (f0 fl x) 0)).2=[]/\(my P (f0 fl x) (DE P n b (f0 fl x) 0)).1.kind=.deferred
 d6:∀b fl,r7 (DE P n b (f0 fl false) 1).1=some n.en
 Yb:∀b fl,kg (my P (f0 fl false) (DE P n b (f0 fl false) 1)).1 n.done=true/\(my P (f0 fl false) (DE P n b (f0 fl false) 1)).2=[]/\(my P (f0 fl false) (DE P n b (f0 fl false) 1)).1.kind=.deferred
 d7:∀b fl,bc (DE P n b (f0 fl true) 1).1=some (n.v7,[pt b 0])/\wC (DE P n b (f0 fl true) 1)=true
 d8:∀b fl,bc (D6 P n b (f0 fl true)).1=some (n.IB,[pt b 0,u64 0])/\wC (D6 P n b (f0 fl true))=true
 d9:∀b fl,bc (D7 P n b (f0 fl true)).1=some (n.oC,[pt b 1,ff,i64 0])/\wC (D7 P n b (f0 fl true))=true
 da:∀b fl,r7 (D8 P n b (f0 fl true)).1=some n.en
 db:∀b fl,kg (my P (f0 fl true) (D8 P n b (f0 fl true))).1 n.done=true/\(my P (f0 fl true) (D8 P n b (f0 fl true))).2=[]/\(my P (f0 fl true) (D8 P n b (f0 fl true))).1.kind=.deferred
 w0:∀b kind,bc (W0 P n b kind).1=some (n.jv,[])/\(W0 P n b kind).1.env.all plain=true/\(W0 P n b kind).2=[]/\(W0 P n b kind).1.kind=kind
 w1:∀b kind,bc (W1 P n b kind).1=some (n.v7,[pt b 0])/\wC (W1 P n b kind)=true/\(W1 P n b kind).1.env.all plain=true/\(W1 P n b kind).2.all (·.env.all plain)=true
 w2:∀b kind fl,bc (WE P n b kind (f0 fl true)).1=some (n.en,[])/\(WE P n b kind (f0 fl true)).1.kind=kind
 w3:∀b kind fl,kG (WC P n b kind (f0 fl true)).1=some (n.tG,n.tU,pt b 0)
 w4:∀b kind fl,bc (WA P n b kind (f0 fl true)).1=some (n.acq,[pt b 0])/\(WA P n b kind (f0 fl true)).1.kind=kind
 w5:∀b kind fl,kg (WB P n b kind (f0 fl true)).1 n.wait=true/\(WB P n b kind (f0 fl true)).2=[]/\(WB P n b kind (f0 fl true)).1.kind=kind
 w6:∀b kind fl,bc (WE P n b kind (f0 fl false)).1=some (n.xE,[pt b 0,.eE 0,.eE 1])/\wC (WE P n b kind (f0 fl false))=true
 w7:∀b kind fl,Hu [5] [[0]] (next P (f0 fl false) (WE P n b kind (f0 fl false)) ff)=W1 P n b kind
 w8:∀b kind fl,kG (W3 P n b kind (f0 fl false)).1=some (n.tS,n.tU,pt b 1)
 w9:∀b kind fl,bc (Tm P n b kind (f0 fl false)).1=some (n.wr,[pt b 1])/\(Tm P n b kind (f0 fl false)).1.kind=kind
 wa:∀b kind fl,bc (W4 P n b kind (f0 fl false)).1=some (n.Fu,[pt b 1,ff])/\(W4 P n b kind (f0 fl false)).1.kind=kind
 wb:∀b kind fl,bc (W5 P n b kind (f0 fl false)).1=some (n.v7,[pt b 0])/\wC (W5 P n b kind (f0 fl false))=true
 wc:∀b kind fl,bc (Tn P n b kind (f0 fl false)).1=some (n.en,[])/\(Tn P n b kind (f0 fl false)).1.kind=kind
 wd:∀b kind fl,kG (Ux P n b kind (f0 fl false)).1=some (n.tG,n.tU,pt b 0)
 we:∀b kind fl,bc (Tp P n b kind (f0 fl false)).1=some (n.acq,[pt b 0])/\(Tp P n b kind (f0 fl false)).1.kind=kind
 wf:∀b kind fl,kg (QT P n b kind (f0 fl false)).1 n.wait=true/\(QT P n b kind (f0 fl false)).2=[]/\(QT P n b kind (f0 fl false)).1.kind=kind
structure iF  P  (n:Pm):Prop where
 jv:Ext P n.jv (λ_=>do mark .disable;pure Extern.Race.none_)
 en:Ext P n.en (λ_=>do mark .enable;pure Extern.Race.none_)
 acq:Ext P n.acq (Extern.Race.marked .acquire)
 rel:Ext P n.rel (Extern.Race.marked .releaseMerge)
 rd:Ext P n.rd (Extern.Race.marked .read)
 wr:Ext P n.wr (Extern.Race.marked .write)
 Pn:Ext P n.Pn (λ_=>pure (.bool false))
 sY:Ext P n.sY (Extern.Atomic.update (Op.intArith .add) .u64 true)
 v7:Ext P n.v7 (Extern.Atomic.loadT (.int .u64))
 IB:Ext P n.IB Extern.Atomic.storeT
 xE:Ext P n.xE (Extern.Atomic.casT (.int .u64))
 Fu:Ext P n.Fu Extern.Sync.semacquire
 oC:Ext P n.oC Extern.Sync.semrelease
 Yc:∃t,P.underlying n.tG=some (.pointer t)/\P.underlying n.tU=some .unsafePointer/\(P.info? t).map (λi=>decide (i.size=0))=some false
 Yd:∃t,P.underlying n.tS=some (.pointer t)/\P.underlying n.tU=some .unsafePointer/\(P.info? t).map (λi=>decide (i.size=0))=some false
 RN:∃fn body,P.funcs[n.add]?=some fn/\fn.body=some body/\fn.ntmps=117/\fn.results=#[]
 Lu:∃fn body,P.funcs[n.done]?=some fn/\fn.body=some body/\fn.ntmps=4/\fn.results=#[]
 Lv:∃fn body,P.funcs[n.wait]?=some fn/\fn.body=some body/\fn.ntmps=84/\fn.results=#[]
