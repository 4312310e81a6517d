import Derived.Conc.DeferLaws
import Derived.Conc.AtomicLaws
import Derived.Test.YtkcceaplmgdnfaaGreatDoorC7
set_option linter.all false
namespace Go.cz
open Go.Conc
def r7 (s:pD):Option FuncId:=
 match s.mode,s.defers with
 | .ret,[{ target:=.fn (.func g) cap,args:=as }]=>if cap=#[]∧as=#[] then some g else none
 | _,_=>none
def km(s:pD)(f:FuncId):Bool:=(match s.mode with|.ret=>true|.run=>false) && s.defers.isEmpty && s.fn==f
section
variable{P:adI}{Wd:adp}{main:Bool}{y:Sy}{s:pD}{fr:Frame}{f:FuncId}{svs:List SV}{cs:adu}{w:World}
def BO (p:FR y s fr) (h:r7 s=some f) (q:Ext P f (fun _=>do mark .enable;pure Extern.Race.none_)) :
 stepG P main (G fr cs) w = .go (G { fr with defers:=[] } cs) w #[⟨.mark .enable,false,true⟩]∧FR y { s with defers:=[] } { fr with defers:=[] }:=by
 obtain⟨fn,tmps,todo,defs,mode,kind,ro⟩:=fr;obtain⟨i,j,d,c,k,l,m,n⟩:=p;simp only at i j d c k l m n;subst l;unfold r7 at h;split at h
 . rename_i g cap as o hd
   split at h
   . rename_i e
     obtain⟨rfl,rfl⟩:=e;simp only[kn] at h;subst h;rw[o] at c;have c:mode = .returning:=c;subst c;rw[hd] at d;subst d;obtain⟨r,t,u,x,z,A⟩:=q.ex;refine⟨?_,⟨i,j,rfl,by rw[o];rfl,k,rfl,m,n⟩⟩
     exact stepG_unwind_entry (P:=P) (main:=main) (b:=⟨fn,tmps,todo,[],.returning,kind,none⟩) (a:=⟨tmps,[{ target:=.fn (.func g) #[],args:=#[] }]⟩) (todo:=todo) (cs:=cs) (w:=w) (ds:=[]) (f:=g) (args:=#[]) (v:=.tuple #[]) rfl t u x z A (by simp[Extern.Race.none_]) (by simp) (by
      simp_all)
   . cases h
 . cases h
def lC{fn c rest}(o:FR y s fr)(h:km s f=true)(j:P.funcs[f]?=some fn)(a:fn.results=#[])(k:s.kind≠.early):sP P Wd (G fr (c::rest)) (kg s.kind c rest (.tuple #[])):=by
 obtain⟨p,tmps,todo,defs,mode,kind,ro⟩:=fr;obtain⟨l,q,g,d,m,n,r,t⟩:=o;simp only at l q g d m n r t;subst n;unfold km at h;simp only[za,abS,List.isEmpty_iff]at h;obtain⟨⟨u,hd⟩,rfl⟩:=h;have i:s.mode=.ret:=by grind
 rw[i]at d;have d:mode=.returning:=d;subst d;rw[hd]at g;subst g;subst l;subst m;have b:∀w:World,(results fn tmps).run P w=.ok (.tuple #[]) w:=λw=>by simp[results,a]
 have e:∀w:World,(results fn tmps).events P w #[]=#[]:=λw=>by simp[results,a]
 refine⟨rfl,λmain w _=>?_⟩;generalize s.kind=kd at k ⊢
 cases kd<;>first
  |exact absurd rfl k
  |(simp[G,stepG,unwind,j,b,e,doReturn,GStep.after,kg,lu,gS];done)
  |(simp[G,stepG,unwind,j,b,e,doReturn,GStep.after,kg,lu,gS];rfl)
def uo {ad v} (c:FR y s fr) (h:ba s=some (f,[.lit (.pointer (some ad))])) (d:s.kind ≠ .early) (e:Ext P f (Extern.Atomic.loadT (.int .u64))) (g:w.cell? ad=some (.int .u64 v)) :
 stepG P main (G fr cs) w = .go (G (fr.finish (.int .u64 v)) cs) w #[⟨.cell ad,false,true⟩]:=by
 obtain⟨ops,i,rest,kk,o,as,j,k,l,m,n,A,B⟩:=dq c h;obtain⟨fn,p,q,r,t,u⟩:=e.ex;obtain⟨x,rfl,z⟩:=Lv n;have:=stepG_load_atomic (P:=P) (main:=main) (b:=fr) (a:=⟨fr.tmps,fr.defers⟩) (kk:=kk) (cs:=cs) (w:=w) (rest:=rest) k l (by rw[c.kind];exact d) m p q r t .u64 u (iT c z) g
 grind
def IM {ad v u} (c:FR y s fr) (h:ba s=some (f,[.lit (.pointer (some ad)),.lit (.int .u64 v)])) (e:s.kind ≠ .early) (g:Ext P f Extern.Atomic.storeT) (j:w.cell? ad=some u) (k:w.frozen? ad=false) :
 stepG P main (G fr cs) w = .go (G (fr.finish (.tuple #[])) cs) (w.setCell ad (.int .u64 v)) #[⟨.cell ad,true,true⟩]:=by
 obtain⟨ops,i,rest,kk,o,as,l,m,n,p,q,E,F⟩:=dq c h;obtain⟨fn,r,t,A,B,C⟩:=g.ex;obtain⟨x,z,rfl,D,d⟩:=Lu q;have:=stepG_store_atomic (P:=P) (main:=main) (b:=fr) (a:=⟨fr.tmps,fr.defers⟩) (kk:=kk) (cs:=cs) (w:=w) (rest:=rest) m n (by rw[c.kind];exact e) p r t A B C (iT c D) (iT c d) j k
 grind
end
structure Py where
 add:Nat
 done:Nat
 wait:Nat
 jy:Nat
 en:Nat
 acq:Nat
 rel:Nat
 rd:Nat
 wr:Nat
 Pz:Nat
 sU:Nat
 vP:Nat
 IN:Nat
 xA:Nat
 FC:Nat
 oz:Nat
 tG:Nat
 tU:Nat
 tS:Nat
def u64(n:Int):SV:=.lit (.int .u64 n)
def rz:List pD->List adB->List pD
 |[],_=>[]
 |s::st,[]=>keep [] s::rz st []
 |s::st,l::ls=>keep l s::rz st ls
def HC(live:adB)(a:List adB)(c:cT):cT:=(keep live c.1,rz c.2 a)
section
variable(P:adI)(n:Py)(b:Nat)(kind:adE)(fl:Fl)
def A0:cT:=sgo P lz 400 (dJ P n.add [pt b 0,i64 1] kind) []
def A1:cT:=next P lz (A0 P n b kind) un
def A2:cT:=next P lz (A1 P n b kind) ff
def A3:cT:=next P fl (A2 P n b kind) (.eH 0)
def A4:cT:=next P fl (A3 P n b kind fl) (pt b 1)
def A5:cT:=next P fl (A4 P n b kind fl) un
def D0:cT:=sgo P lz 400 (dJ P n.done [pt b 0] .deferred) []
def D1:cT:=next P lz (D0 P n b) (pt b 0)
def D2:cT:=next P lz (D1 P n b) un
def D3:cT:=next P lz (D2 P n b) un
def D4:cT:=next P lz (D3 P n b) ff
def DE(w:Nat):cT:=next P fl (D4 P n b) (.eH w)
def D6:cT:=next P fl (DE P n b fl 1) (.eH 1)
def D7:cT:=next P fl (D6 P n b fl) un
def D8:cT:=next P fl (D7 P n b fl) un
def mz(c:cT):cT:=sgo P fl 400 {c.1 with defers:=[]} c.2
def W0:cT:=HC [0] [] (sgo P lz 400 (dJ P n.wait [pt b 0] kind) [])
def W1:cT:=HC [5] [[0]] (next P lz (W0 P n b kind) un)
def WE:cT:=next P fl (W1 P n b kind) (.eH 0)
def WC:cT:=next P fl (WE P n b kind fl) un
def WA:cT:=next P fl (WC P n b kind fl) (pt b 0)
def WB:cT:=next P fl (WA P n b kind fl) un
def W3:cT:=next P fl (WE P n b kind fl) tt
def TC:cT:=next P fl (W3 P n b kind fl) (pt b 1)
def W4:cT:=next P fl (TC P n b kind fl) un
def W5:cT:=next P fl (W4 P n b kind fl) un
def TD:cT:=next P fl (W5 P n b kind fl) (u64 0)
def UO:cT:=next P fl (TD P n b kind fl) un
def TE:cT:=next P fl (UO P n b kind fl) (pt b 0)
def Q7:cT:=next P fl (TE P n b kind fl) un
end
def f1(fl:Fl)(x:Bool):Fl:={fl with c1:=x}
def f0(fl:Fl)(x:Bool):Fl:={fl with c0:=x}
def v8(c:cT):Bool:=c.1.kind==.normal
structure gV  P   n :Prop where
 a0:∀b kind,ba (A0 P n b kind).1=some (n.jy,[])/\(A0 P n b kind).1.env.all plain=true/\(A0 P n b kind).2=[]/\(A0 P n b kind).1.kind=kind
 a1:∀b kind,ba (A1 P n b kind).1=some (n.Pz,[])/\(A1 P n b kind).1.env.all plain=true/\(A1 P n b kind).2=[]/\(A1 P n b kind).1.kind=kind
 a2:∀b kind,ba (A2 P n b kind).1=some (n.sU,[pt b 0,u64 4294967296])/\v8 (A2 P n b kind)=true/\(A2 P n b kind).1.env.all plain=true/\(A2 P n b kind).2.all (·.env.all plain)=true
 a3:∀b kind fl,kL (A3 P n b kind (f1 fl true)).1=some (n.tS,n.tU,pt b 1)
 a4:∀b kind fl,ba (A4 P n b kind (f1 fl true)).1=some (n.rd,[pt b 1])/\(A4 P n b kind (f1 fl true)).1.kind=kind
 a5:∀b kind fl,r7 (A5 P n b kind (f0 (f1 fl true) false)).1=some n.en/\(A5 P n b kind (f0 (f1 fl true) false)).2=[]/\(A5 P n b kind (f0 (f1 fl true) false)).1.kind=kind/\(A5 P n b kind (f0 (f1 fl true) false)).1.fn=n.add
 a6:∀b kind fl,r7 (A3 P n b kind (f0 (f1 fl false) false)).1=some n.en/\(A3 P n b kind (f0 (f1 fl false) false)).2=[]/\(A3 P n b kind (f0 (f1 fl false) false)).1.kind=kind/\(A3 P n b kind (f0 (f1 fl false) false)).1.fn=n.add
 d0:∀b,kL (D0 P n b).1=some (n.tG,n.tU,pt b 0)/\(D0 P n b).1.env.all plain=true/\(D0 P n b).2.all (·.env.all plain)=true
 d1:∀b,ba (D1 P n b).1=some (n.rel,[pt b 0])/\v8 (D1 P n b)=true/\(D1 P n b).1.env.all plain=true/\(D1 P n b).2.all (·.env.all plain)=true
 d2:∀b,ba (D2 P n b).1=some (n.jy,[])/\v8 (D2 P n b)=true/\(D2 P n b).1.env.all plain=true/\(D2 P n b).2.all (·.env.all plain)=true
 d3:∀b,ba (D3 P n b).1=some (n.Pz,[])/\v8 (D3 P n b)=true/\(D3 P n b).1.env.all plain=true/\(D3 P n b).2.all (·.env.all plain)=true
 d4:∀b,ba (D4 P n b).1=some (n.sU,[pt b 0,u64 18446744069414584320])/\v8 (D4 P n b)=true/\(D4 P n b).1.env.all plain=true/\(D4 P n b).2.all (·.env.all plain)=true
 d5:∀b fl x,r7 (DE P n b (f0 fl x) 0).1=some n.en
 Yr:∀b fl x,km (mz P (f0 fl x) (DE P n b (f0 fl x) 0)).1 n.done=true/\(mz P (f0 fl x) (DE P n b (f0 fl x) 0)).2=[]/\(mz P (f0 fl x) (DE P n b (f0 fl x) 0)).1.kind=.deferred
 d6:∀b fl,r7 (DE P n b (f0 fl false) 1).1=some n.en
 Ys:∀b fl,km (mz P (f0 fl false) (DE P n b (f0 fl false) 1)).1 n.done=true/\(mz P (f0 fl false) (DE P n b (f0 fl false) 1)).2=[]/\(mz P (f0 fl false) (DE P n b (f0 fl false) 1)).1.kind=.deferred
 d7:∀b fl,ba (DE P n b (f0 fl true) 1).1=some (n.vP,[pt b 0])/\v8 (DE P n b (f0 fl true) 1)=true
 d8:∀b fl,ba (D6 P n b (f0 fl true)).1=some (n.IN,[pt b 0,u64 0])/\v8 (D6 P n b (f0 fl true))=true
 d9:∀b fl,ba (D7 P n b (f0 fl true)).1=some (n.oz,[pt b 1,ff,i64 0])/\v8 (D7 P n b (f0 fl true))=true
 da:∀b fl,r7 (D8 P n b (f0 fl true)).1=some n.en
 db:∀b fl,km (mz P (f0 fl true) (D8 P n b (f0 fl true))).1 n.done=true/\(mz P (f0 fl true) (D8 P n b (f0 fl true))).2=[]/\(mz P (f0 fl true) (D8 P n b (f0 fl true))).1.kind=.deferred
 w0:∀b kind,ba (W0 P n b kind).1=some (n.jy,[])/\(W0 P n b kind).1.env.all plain=true/\(W0 P n b kind).2=[]/\(W0 P n b kind).1.kind=kind
 w1:∀b kind,ba (W1 P n b kind).1=some (n.vP,[pt b 0])/\v8 (W1 P n b kind)=true/\(W1 P n b kind).1.env.all plain=true/\(W1 P n b kind).2.all (·.env.all plain)=true
 w2:∀b kind fl,ba (WE P n b kind (f0 fl true)).1=some (n.en,[])/\(WE P n b kind (f0 fl true)).1.kind=kind
 w3:∀b kind fl,kL (WC P n b kind (f0 fl true)).1=some (n.tG,n.tU,pt b 0)
 w4:∀b kind fl,ba (WA P n b kind (f0 fl true)).1=some (n.acq,[pt b 0])/\(WA P n b kind (f0 fl true)).1.kind=kind
 w5:∀b kind fl,km (WB P n b kind (f0 fl true)).1 n.wait=true/\(WB P n b kind (f0 fl true)).2=[]/\(WB P n b kind (f0 fl true)).1.kind=kind
 w6:∀b kind fl,ba (WE P n b kind (f0 fl false)).1=some (n.xA,[pt b 0,.eH 0,.eH 1])/\v8 (WE P n b kind (f0 fl false))=true
 w7:∀b kind fl,HC [5] [[0]] (next P (f0 fl false) (WE P n b kind (f0 fl false)) ff)=W1 P n b kind
 w8:∀b kind fl,kL (W3 P n b kind (f0 fl false)).1=some (n.tS,n.tU,pt b 1)
 w9:∀b kind fl,ba (TC P n b kind (f0 fl false)).1=some (n.wr,[pt b 1])/\(TC P n b kind (f0 fl false)).1.kind=kind
 wa:∀b kind fl,ba (W4 P n b kind (f0 fl false)).1=some (n.FC,[pt b 1,ff])/\(W4 P n b kind (f0 fl false)).1.kind=kind
 wb:∀b kind fl,ba (W5 P n b kind (f0 fl false)).1=some (n.vP,[pt b 0])/\v8 (W5 P n b kind (f0 fl false))=true
 wc:∀b kind fl,ba (TD P n b kind (f0 fl false)).1=some (n.en,[])/\(TD P n b kind (f0 fl false)).1.kind=kind
 wd:∀b kind fl,kL (UO P n b kind (f0 fl false)).1=some (n.tG,n.tU,pt b 0)
 we:∀b kind fl,ba (TE P n b kind (f0 fl false)).1=some (n.acq,[pt b 0])/\(TE P n b kind (f0 fl false)).1.kind=kind
 wf:∀b kind fl,km (Q7 P n b kind (f0 fl false)).1 n.wait=true/\(Q7 P n b kind (f0 fl false)).2=[]/\(Q7 P n b kind (f0 fl false)).1.kind=kind
structure iK  P  (n:Py):Prop where
 jy:Ext P n.jy (λ_=>do mark .disable;pure Extern.Race.none_)
 en:Ext P n.en (λ_=>do mark .enable;pure Extern.Race.none_)
 acq:Ext P n.acq (Extern.Race.marked .acquire)
 rel:Ext P n.rel (Extern.Race.marked .releaseMerge)
 rd:Ext P n.rd (Extern.Race.marked .read)
 wr:Ext P n.wr (Extern.Race.marked .write)
 Pz:Ext P n.Pz (λ_=>pure (.bool false))
 sU:Ext P n.sU (Extern.Atomic.update (Op.intArith .add) .u64 true)
 vP:Ext P n.vP (Extern.Atomic.loadT (.int .u64))
 IN:Ext P n.IN Extern.Atomic.storeT
 xA:Ext P n.xA (Extern.Atomic.casT (.int .u64))
 FC:Ext P n.FC Extern.Sync.semacquire
 oz:Ext P n.oz Extern.Sync.semrelease
 Yt:∃t,P.underlying n.tG=some (.pointer t)/\P.underlying n.tU=some .unsafePointer/\(P.info? t).map (λi=>decide (i.size=0))=some false
 Yu:∃t,P.underlying n.tS=some (.pointer t)/\P.underlying n.tU=some .unsafePointer/\(P.info? t).map (λi=>decide (i.size=0))=some false
 R4:∃fn body,P.funcs[n.add]?=some fn/\fn.body=some body/\fn.ntmps=117/\fn.results=#[]
 LM:∃fn body,P.funcs[n.done]?=some fn/\fn.body=some body/\fn.ntmps=4/\fn.results=#[]
 LN:∃fn body,P.funcs[n.wait]?=some fn/\fn.body=some body/\fn.ntmps=84/\fn.results=#[]
