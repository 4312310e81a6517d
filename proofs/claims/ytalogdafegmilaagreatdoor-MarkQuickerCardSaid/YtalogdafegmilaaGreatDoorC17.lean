/- Part 17 of the proof. -/
import Derived.Conc.DeferLaws
import Derived.Conc.AtomicLaws
import Derived.Test.YtalogdafegmilaaGreatDoorC16
set_option linter.all false
namespace Go.aN
open Go.Conc
def qf (s:jf):Option FuncId:=
 match s.mode,s.defers with
 | .ret,[{ target:=.fn (.func g) cap,args:=as }]=>if cap=#[]∧as=#[] then some g else none
 | _,_=>none
def jH(s:jf)(f:FuncId):Bool:=(match s.mode with|.ret=>true|.run=>false) && s.defers.isEmpty && s.fn==f
section
variable{P:Program}{Wd:World->Prop}{main:Bool}{y:Sy}{s:jf}{fr:Frame}{f:FuncId}{svs:List SV}{cs:List Frame}{w:World}
theorem yJ (hr:FR y s fr) (h:qf s=some f) (he:Ext P f (fun _=>do mark .enable;pure Extern.Race.none_)) :
 stepG P main (G fr cs) w = .go (G { fr with defers:=[] } cs) w #[⟨.mark .enable,false,true⟩]∧FR y { s with defers:=[] } { fr with defers:=[] }:=by
 obtain⟨fn,tmps,todo,defs,mode,kind,ro⟩:=fr;obtain⟨h1,h2,h3,h4,h5,h6,h7,h8⟩:=hr;simp only at h1 h2 h3 h4 h5 h6 h7 h8;subst h6;unfold qf at h;split at h
 . rename_i g cap as hm hd
   split at h
   . rename_i hca
     obtain⟨rfl,rfl⟩:=hca;simp only[Option.some.injEq] at h;subst h;rw[hm] at h4;have h4:mode = .returning:=h4;subst h4;rw[hd] at h3;subst h3;obtain⟨fn',e1,e2,e3,e4,e5⟩:=he.ex;refine⟨?_,⟨h1,h2,rfl,by rw[hm];rfl,h5,rfl,h7,h8⟩⟩
     exact stepG_unwind_entry (P:=P) (main:=main) (b:=⟨fn,tmps,todo,[],.returning,kind,none⟩) (a:=⟨tmps,[{ target:=.fn (.func g) #[],args:=#[] }]⟩) (todo:=todo) (cs:=cs) (w:=w) (ds:=[]) (f:=g) (args:=#[]) (v:=.tuple #[]) rfl e1 e2 e3 e4 e5 (by simp[Extern.Race.none_]) (by simp) (by
      intro x hx;simp at hx;subst hx;exact⟨rfl,fun g h=>by cases h⟩)
   . cases h
 . cases h
theorem kE{fn:Func}{c:Frame}{rest:List Frame}(hr:FR y s fr)(h:jH s f=true)(hf:P.funcs[f]?=some fn)(hres:fn.results=#[])(hk:s.kind≠.early):qd P Wd (G fr (c::rest)) (jT s.kind c rest (.tuple #[])):=by
 obtain⟨fid,tmps,todo,defs,mode,kind,ro⟩:=fr;obtain⟨h1,h2,h3,h4,h5,h6,h7,h8⟩:=hr;simp only at h1 h2 h3 h4 h5 h6 h7 h8;subst h6;unfold jH at h;simp only[Bool.and_eq_true,beq_iff_eq,List.isEmpty_iff]at h;obtain⟨⟨hm,hd⟩,rfl⟩:=h
 have hm':s.mode=.ret:=by
  cases e:s.mode with
  |ret=>rfl
  |run=>rw[e]at hm;cases hm
 rw[hm']at h4;have h4:mode=.returning:=h4;subst h4;rw[hd]at h3;subst h3;subst h1;subst h5;have hrun:∀w:World,(results fn tmps).run P w=.ok (.tuple #[]) w:=λw=>by simp[results,hres]
 have hev:∀w:World,(results fn tmps).events P w #[]=#[]:=λw=>by simp[results,hres]
 refine⟨rfl,λmain w _=>?_⟩;generalize s.kind=kd at hk ⊢
 cases kd<;>first
  |exact absurd rfl hk
  |(simp[G,stepG,unwind,hf,hrun,hev,doReturn,GStep.after,jT,kw,fV];done)
  |(simp[G,stepG,unwind,hf,hrun,hev,doReturn,GStep.after,jT,kw,fV];rfl)
theorem sc {ad:Addr} {v:Int} (hr:FR y s fr) (h:aR s=some (f,[.lit (.pointer (some ad))])) (hk:s.kind ≠ .early) (he:Ext P f (Extern.Atomic.loadT (.int .u64))) (hc:w.cell? ad=some (.int .u64 v)) :
 stepG P main (G fr cs) w = .go (G (fr.finish (.int .u64 v)) cs) w #[⟨.cell ad,false,true⟩]:=by
 obtain⟨ops,i,rest,kk,o,as,ats,h1,h2,h3,h4,h5,h6⟩:=cU hr h;obtain⟨fn,e1,e2,e3,e4,e5⟩:=he.ex;obtain⟨x,rfl,hx⟩:=G2 h4;have:=stepG_load_atomic (P:=P) (main:=main) (b:=fr) (a:=⟨fr.tmps,fr.defers⟩) (kk:=kk) (cs:=cs) (w:=w) (rest:=rest) h1 h2 (by rw[hr.kind];exact hk) h3 e1 e2 e3 e4 .u64 e5 (gZ hr hx) hc
 rw[h6,← h5] at this;exact this
theorem EO {ad:Addr} {v:Int} {u:Value} (hr:FR y s fr) (h:aR s=some (f,[.lit (.pointer (some ad)),.lit (.int .u64 v)])) (hk:s.kind ≠ .early) (he:Ext P f Extern.Atomic.storeT) (hc:w.cell? ad=some u) (hz:w.frozen? ad=false) :
 stepG P main (G fr cs) w = .go (G (fr.finish (.tuple #[])) cs) (w.setCell ad (.int .u64 v)) #[⟨.cell ad,true,true⟩]:=by
 obtain⟨ops,i,rest,kk,o,as,ats,h1,h2,h3,h4,h5,h6⟩:=cU hr h;obtain⟨fn,e1,e2,e3,e4,e5⟩:=he.ex;obtain⟨x,z,rfl,hx,hz'⟩:=G1 h4;have:=stepG_store_atomic (P:=P) (main:=main) (b:=fr) (a:=⟨fr.tmps,fr.defers⟩) (kk:=kk) (cs:=cs) (w:=w) (rest:=rest) h1 h2 (by rw[hr.kind];exact hk) h3 e1 e2 e3 e4 e5 (gZ hr hx) (gZ hr hz') hc hz
 rw[h6,← h5] at this;exact this
end
structure Gj where
 add:Nat
 done:Nat
 wait:Nat
 iV:Nat
 en:Nat
 acq:Nat
 rel:Nat
 rd:Nat
 wr:Nat
 J9:Nat
 qY:Nat
 tK:Nat
 EP:Nat
 vf:Nat
 Cp:Nat
 mU:Nat
 tG:Nat
 tU:Nat
 tS:Nat
def u64(n:Int):SV:=.lit (.int .u64 n)
def pv:List jf->List (List Nat)->List jf
 |[],_=>[]
 |s::st,[]=>keep [] s::pv st []
 |s::st,l::ls=>keep l s::pv st ls
def DK(live:List Nat)(lives:List (List Nat))(c:cy):cy:=(keep live c.1,pv c.2 lives)
section
variable(P:Program)(n:Gj)(b:Nat)(kind:CallKind)(fl:Fl)
def A0:cy:=sgo P kD 400 (dl P n.add [pt b 0,i64 1] kind) []
def A1:cy:=next P kD (A0 P n b kind) un
def A2:cy:=next P kD (A1 P n b kind) ff
def A3:cy:=next P fl (A2 P n b kind) (.dO 0)
def A4:cy:=next P fl (A3 P n b kind fl) (pt b 1)
def A5:cy:=next P fl (A4 P n b kind fl) un
def D0:cy:=sgo P kD 400 (dl P n.done [pt b 0] .deferred) []
def D1:cy:=next P kD (D0 P n b) (pt b 0)
def D2:cy:=next P kD (D1 P n b) un
def D3:cy:=next P kD (D2 P n b) un
def D4:cy:=next P kD (D3 P n b) ff
def DE(w:Nat):cy:=next P fl (D4 P n b) (.dO w)
def D6:cy:=next P fl (DE P n b fl 1) (.dO 1)
def D7:cy:=next P fl (D6 P n b fl) un
def D8:cy:=next P fl (D7 P n b fl) un
def lg(c:cy):cy:=sgo P fl 400 {c.1 with defers:=[]} c.2
def W0:cy:=DK [0] [] (sgo P kD 400 (dl P n.wait [pt b 0] kind) [])
def W1:cy:=DK [5] [[0]] (next P kD (W0 P n b kind) un)
def WE:cy:=next P fl (W1 P n b kind) (.dO 0)
def WC:cy:=next P fl (WE P n b kind fl) un
def WA:cy:=next P fl (WC P n b kind fl) (pt b 0)
def WB:cy:=next P fl (WA P n b kind fl) un
def W3:cy:=next P fl (WE P n b kind fl) tt
def Nb:cy:=next P fl (W3 P n b kind fl) (pt b 1)
def W4:cy:=next P fl (Nb P n b kind fl) un
def W5:cy:=next P fl (W4 P n b kind fl) un
def Nc:cy:=next P fl (W5 P n b kind fl) (u64 0)
def Oa:cy:=next P fl (Nc P n b kind fl) un
def Nd:cy:=next P fl (Oa P n b kind fl) (pt b 0)
def Lj:cy:=next P fl (Nd P n b kind fl) un
end
def f1(fl:Fl)(x:Bool):Fl:={fl with c1:=x}
def f0(fl:Fl)(x:Bool):Fl:={fl with c0:=x}
def t7(c:cy):Bool:=c.1.kind==.normal
structure jg(P:Program)(n:Gj):Prop where
 a0:∀b kind,aR (A0 P n b kind).1=some (n.iV,[])/\(A0 P n b kind).1.env.all plain=true/\(A0 P n b kind).2=[]/\(A0 P n b kind).1.kind=kind
 a1:∀b kind,aR (A1 P n b kind).1=some (n.J9,[])/\(A1 P n b kind).1.env.all plain=true/\(A1 P n b kind).2=[]/\(A1 P n b kind).1.kind=kind
 a2:∀b kind,aR (A2 P n b kind).1=some (n.qY,[pt b 0,u64 4294967296])/\t7 (A2 P n b kind)=true/\(A2 P n b kind).1.env.all plain=true/\(A2 P n b kind).2.all (·.env.all plain)=true
 a3:∀b kind fl,jU (A3 P n b kind (f1 fl true)).1=some (n.tS,n.tU,pt b 1)
 a4:∀b kind fl,aR (A4 P n b kind (f1 fl true)).1=some (n.rd,[pt b 1])/\(A4 P n b kind (f1 fl true)).1.kind=kind
 a5:∀b kind fl,qf (A5 P n b kind (f0 (f1 fl true) false)).1=some n.en/\(A5 P n b kind (f0 (f1 fl true) false)).2=[]/\(A5 P n b kind (f0 (f1 fl true) false)).1.kind=kind/\(A5 P n b kind (f0 (f1 fl true) false)).1.fn=n.add
 a6:∀b kind fl,qf (A3 P n b kind (f0 (f1 fl false) false)).1=some n.en/\(A3 P n b kind (f0 (f1 fl false) false)).2=[]/\(A3 P n b kind (f0 (f1 fl false) false)).1.kind=kind/\(A3 P n b kind (f0 (f1 fl false) false)).1.fn=n.add
 d0:∀b,jU (D0 P n b).1=some (n.tG,n.tU,pt b 0)/\(D0 P n b).1.env.all plain=true/\(D0 P n b).2.all (·.env.all plain)=true
 d1:∀b,aR (D1 P n b).1=some (n.rel,[pt b 0])/\t7 (D1 P n b)=true/\(D1 P n b).1.env.all plain=true/\(D1 P n b).2.all (·.env.all plain)=true
 d2:∀b,aR (D2 P n b).1=some (n.iV,[])/\t7 (D2 P n b)=true/\(D2 P n b).1.env.all plain=true/\(D2 P n b).2.all (·.env.all plain)=true
 d3:∀b,aR (D3 P n b).1=some (n.J9,[])/\t7 (D3 P n b)=true/\(D3 P n b).1.env.all plain=true/\(D3 P n b).2.all (·.env.all plain)=true
 d4:∀b,aR (D4 P n b).1=some (n.qY,[pt b 0,u64 18446744069414584320])/\t7 (D4 P n b)=true/\(D4 P n b).1.env.all plain=true/\(D4 P n b).2.all (·.env.all plain)=true
 d5:∀b fl x,qf (DE P n b (f0 fl x) 0).1=some n.en
 QX:∀b fl x,jH (lg P (f0 fl x) (DE P n b (f0 fl x) 0)).1 n.done=true/\(lg P (f0 fl x) (DE P n b (f0 fl x) 0)).2=[]/\(lg P (f0 fl x) (DE P n b (f0 fl x) 0)).1.kind=.deferred
 d6:∀b fl,qf (DE P n b (f0 fl false) 1).1=some n.en
 QY:∀b fl,jH (lg P (f0 fl false) (DE P n b (f0 fl false) 1)).1 n.done=true/\(lg P (f0 fl false) (DE P n b (f0 fl false) 1)).2=[]/\(lg P (f0 fl false) (DE P n b (f0 fl false) 1)).1.kind=.deferred
 d7:∀b fl,aR (DE P n b (f0 fl true) 1).1=some (n.tK,[pt b 0])/\t7 (DE P n b (f0 fl true) 1)=true
 d8:∀b fl,aR (D6 P n b (f0 fl true)).1=some (n.EP,[pt b 0,u64 0])/\t7 (D6 P n b (f0 fl true))=true
 d9:∀b fl,aR (D7 P n b (f0 fl true)).1=some (n.mU,[pt b 1,ff,i64 0])/\t7 (D7 P n b (f0 fl true))=true
 da:∀b fl,qf (D8 P n b (f0 fl true)).1=some n.en
 db:∀b fl,jH (lg P (f0 fl true) (D8 P n b (f0 fl true))).1 n.done=true/\(lg P (f0 fl true) (D8 P n b (f0 fl true))).2=[]/\(lg P (f0 fl true) (D8 P n b (f0 fl true))).1.kind=.deferred
 w0:∀b kind,aR (W0 P n b kind).1=some (n.iV,[])/\(W0 P n b kind).1.env.all plain=true/\(W0 P n b kind).2=[]/\(W0 P n b kind).1.kind=kind
 w1:∀b kind,aR (W1 P n b kind).1=some (n.tK,[pt b 0])/\t7 (W1 P n b kind)=true/\(W1 P n b kind).1.env.all plain=true/\(W1 P n b kind).2.all (·.env.all plain)=true
 w2:∀b kind fl,aR (WE P n b kind (f0 fl true)).1=some (n.en,[])/\(WE P n b kind (f0 fl true)).1.kind=kind
 w3:∀b kind fl,jU (WC P n b kind (f0 fl true)).1=some (n.tG,n.tU,pt b 0)
 w4:∀b kind fl,aR (WA P n b kind (f0 fl true)).1=some (n.acq,[pt b 0])/\(WA P n b kind (f0 fl true)).1.kind=kind
 w5:∀b kind fl,jH (WB P n b kind (f0 fl true)).1 n.wait=true/\(WB P n b kind (f0 fl true)).2=[]/\(WB P n b kind (f0 fl true)).1.kind=kind
 w6:∀b kind fl,aR (WE P n b kind (f0 fl false)).1=some (n.vf,[pt b 0,.dO 0,.dO 1])/\t7 (WE P n b kind (f0 fl false))=true
 w7:∀b kind fl,DK [5] [[0]] (next P (f0 fl false) (WE P n b kind (f0 fl false)) ff)=W1 P n b kind
 w8:∀b kind fl,jU (W3 P n b kind (f0 fl false)).1=some (n.tS,n.tU,pt b 1)
 w9:∀b kind fl,aR (Nb P n b kind (f0 fl false)).1=some (n.wr,[pt b 1])/\(Nb P n b kind (f0 fl false)).1.kind=kind
 wa:∀b kind fl,aR (W4 P n b kind (f0 fl false)).1=some (n.Cp,[pt b 1,ff])/\(W4 P n b kind (f0 fl false)).1.kind=kind
 wb:∀b kind fl,aR (W5 P n b kind (f0 fl false)).1=some (n.tK,[pt b 0])/\t7 (W5 P n b kind (f0 fl false))=true
 wc:∀b kind fl,aR (Nc P n b kind (f0 fl false)).1=some (n.en,[])/\(Nc P n b kind (f0 fl false)).1.kind=kind
 wd:∀b kind fl,jU (Oa P n b kind (f0 fl false)).1=some (n.tG,n.tU,pt b 0)
 we:∀b kind fl,aR (Nd P n b kind (f0 fl false)).1=some (n.acq,[pt b 0])/\(Nd P n b kind (f0 fl false)).1.kind=kind
 wf:∀b kind fl,jH (Lj P n b kind (f0 fl false)).1 n.wait=true/\(Lj P n b kind (f0 fl false)).2=[]/\(Lj P n b kind (f0 fl false)).1.kind=kind
structure j9(P:Program)(n:Gj):Prop where
 iV:Ext P n.iV (λ_=>do mark .disable;pure Extern.Race.none_)
 en:Ext P n.en (λ_=>do mark .enable;pure Extern.Race.none_)
 acq:Ext P n.acq (Extern.Race.marked .acquire)
 rel:Ext P n.rel (Extern.Race.marked .releaseMerge)
 rd:Ext P n.rd (Extern.Race.marked .read)
 wr:Ext P n.wr (Extern.Race.marked .write)
 J9:Ext P n.J9 (λ_=>pure (.bool false))
 qY:Ext P n.qY (Extern.Atomic.update (Op.intArith .add) .u64 true)
 tK:Ext P n.tK (Extern.Atomic.loadT (.int .u64))
 EP:Ext P n.EP Extern.Atomic.storeT
 vf:Ext P n.vf (Extern.Atomic.casT (.int .u64))
 Cp:Ext P n.Cp Extern.Sync.semacquire
 mU:Ext P n.mU Extern.Sync.semrelease
 QZ:∃t,P.underlying n.tG=some (.pointer t)/\P.underlying n.tU=some .unsafePointer/\(P.info? t).map (λi=>decide (i.size=0))=some false
 Q0:∃t,P.underlying n.tS=some (.pointer t)/\P.underlying n.tU=some .unsafePointer/\(P.info? t).map (λi=>decide (i.size=0))=some false
 L2:∃fn body,P.funcs[n.add]?=some fn/\fn.body=some body/\fn.ntmps=117/\fn.results=#[]
 Hi:∃fn body,P.funcs[n.done]?=some fn/\fn.body=some body/\fn.ntmps=4/\fn.results=#[]
 Hj:∃fn body,P.funcs[n.wait]?=some fn/\fn.body=some body/\fn.ntmps=84/\fn.results=#[]
end Go.aN
