import Derived.Conc.DeferLaws
import Derived.Conc.AtomicLaws
import Derived.Test.YtldmpfccgajobaaGreatDoorC16
set_option linter.all false
namespace Go.aR
open Go.Conc
def rE (s:jR):Option FuncId:=
 match s.mode,s.defers with
 | .ret,[{ target:=.fn (.func g) cap,args:=as }]=>if cap=#[]∧as=#[] then some g else none
 | _,_=>none
def kJ(s:jR)(f:FuncId):Bool:=(match s.mode with|.ret=>true|.run=>false) && s.defers.isEmpty && s.fn==f
section
variable{P:Program}{Wd:World->Prop}{main:Bool}{y:Sy}{s:jR}{fr:Frame}{f:FuncId}{svs:List SV}{cs:List Frame}{w:World}
theorem AF (q:FR y s fr) (h:rE s=some f) (r:Ext P f (fun _=>do mark .enable;pure Extern.Race.none_)) :
 stepG P main (G fr cs) w = .go (G { fr with defers:=[] } cs) w #[⟨.mark .enable,false,true⟩]∧FR y { s with defers:=[] } { fr with defers:=[] }:=by
 obtain⟨fn,tmps,todo,defs,mode,kind,ro⟩:=fr;obtain⟨i,j,d,c,k,l,m,n⟩:=q;simp only at i j d c k l m n;subst l;unfold rE at h;split at h
 . rename_i g cap as o hd
   split at h
   . rename_i e
     obtain⟨rfl,rfl⟩:=e;simp only[Option.some.injEq] at h;subst h;rw[o] at c;have c:mode = .returning:=c;subst c;rw[hd] at d;subst d;obtain⟨t,u,z,A,B,C⟩:=r.ex;refine⟨?_,⟨i,j,rfl,by rw[o];rfl,k,rfl,m,n⟩⟩
     exact stepG_unwind_entry (P:=P) (main:=main) (b:=⟨fn,tmps,todo,[],.returning,kind,none⟩) (a:=⟨tmps,[{ target:=.fn (.func g) #[],args:=#[] }]⟩) (todo:=todo) (cs:=cs) (w:=w) (ds:=[]) (f:=g) (args:=#[]) (v:=.tuple #[]) rfl u z A B C (by simp[Extern.Race.none_]) (by simp) (by
      intro x p;simp at p;subst p;exact⟨rfl,fun g h=>by cases h⟩)
   . cases h
 . cases h
theorem lP{fn:Func}{c:Frame}{rest:List Frame}(q:FR y s fr)(h:kJ s f=true)(k:P.funcs[f]?=some fn)(a:fn.results=#[])(l:s.kind≠.early):rC P Wd (G fr (c::rest)) (kV s.kind c rest (.tuple #[])):=by
 obtain⟨r,tmps,todo,defs,mode,kind,ro⟩:=fr;obtain⟨m,t,i,d,n,o,u,v⟩:=q;simp only at m t i d n o u v;subst o;unfold kJ at h;simp only[Bool.and_eq_true,beq_iff_eq,List.isEmpty_iff]at h;obtain⟨⟨p,hd⟩,rfl⟩:=h
 have j:s.mode=.ret:=by
  cases e:s.mode with
  |ret=>rfl
  |run=>rw[e]at p;cases p
 rw[j]at d;have d:mode=.returning:=d;subst d;rw[hd]at i;subst i;subst m;subst n;have b:∀w:World,(results fn tmps).run P w=.ok (.tuple #[]) w:=λw=>by simp[results,a]
 have g:∀w:World,(results fn tmps).events P w #[]=#[]:=λw=>by simp[results,a]
 refine⟨rfl,λmain w _=>?_⟩;generalize s.kind=kd at l ⊢
 cases kd<;>first
  |exact absurd rfl l
  |(simp[G,stepG,unwind,k,b,g,doReturn,GStep.after,kV,lJ,ii];done)
  |(simp[G,stepG,unwind,k,b,g,doReturn,GStep.after,kV,lJ,ii];rfl)
theorem tW {ad:Addr} {v:Int} (c:FR y s fr) (h:bb s=some (f,[.lit (.pointer (some ad))])) (d:s.kind ≠ .early) (e:Ext P f (Extern.Atomic.loadT (.int .u64))) (g:w.cell? ad=some (.int .u64 v)) :
 stepG P main (G fr cs) w = .go (G (fr.finish (.int .u64 v)) cs) w #[⟨.cell ad,false,true⟩]:=by
 obtain⟨ops,i,rest,kk,o,as,j,k,l,m,n,p,q⟩:=du c h;obtain⟨fn,r,t,u,z,A⟩:=e.ex;obtain⟨x,rfl,B⟩:=Jq n;have:=stepG_load_atomic (P:=P) (main:=main) (b:=fr) (a:=⟨fr.tmps,fr.defers⟩) (kk:=kk) (cs:=cs) (w:=w) (rest:=rest) k l (by rw[c.kind];exact d) m r t u z .u64 A (iS c B) g
 rw[q,← p] at this;exact this
theorem GT {ad:Addr} {v:Int} {u:Value} (c:FR y s fr) (h:bb s=some (f,[.lit (.pointer (some ad)),.lit (.int .u64 v)])) (e:s.kind ≠ .early) (g:Ext P f Extern.Atomic.storeT) (j:w.cell? ad=some u) (k:w.frozen? ad=false) :
 stepG P main (G fr cs) w = .go (G (fr.finish (.tuple #[])) cs) (w.setCell ad (.int .u64 v)) #[⟨.cell ad,true,true⟩]:=by
 obtain⟨ops,i,rest,kk,o,as,l,m,n,p,q,r,t⟩:=du c h;obtain⟨fn,A,B,C,D,E⟩:=g.ex;obtain⟨x,z,rfl,F,d⟩:=Jp q;have:=stepG_store_atomic (P:=P) (main:=main) (b:=fr) (a:=⟨fr.tmps,fr.defers⟩) (kk:=kk) (cs:=cs) (w:=w) (rest:=rest) m n (by rw[c.kind];exact e) p A B C D E (iS c F) (iS c d) j k
 rw[t,← r] at this;exact this
end
structure Iq where
 add:Nat
 done:Nat
 wait:Nat
 jF:Nat
 en:Nat
 acq:Nat
 rel:Nat
 rd:Nat
 wr:Nat
 MM:Nat
 sF:Nat
 vg:Nat
 GU:Nat
 wC:Nat
 D5:Nat
 oI:Nat
 tG:Nat
 tU:Nat
 tS:Nat
def u64(n:Int):SV:=.lit (.int .u64 n)
def qS:List jR->List (List Nat)->List jR
 |[],_=>[]
 |s::st,[]=>keep [] s::qS st []
 |s::st,l::ls=>keep l s::qS st ls
def FD(live:List Nat)(a:List (List Nat))(c:cQ):cQ:=(keep live c.1,qS c.2 a)
section
variable(P:Program)(n:Iq)(b:Nat)(kind:CallKind)(fl:Fl)
def A0:cQ:=sgo P lO 400 (dP P n.add [pt b 0,i64 1] kind) []
def A1:cQ:=next P lO (A0 P n b kind) un
def A2:cQ:=next P lO (A1 P n b kind) ff
def A3:cQ:=next P fl (A2 P n b kind) (.eI 0)
def A4:cQ:=next P fl (A3 P n b kind fl) (pt b 1)
def A5:cQ:=next P fl (A4 P n b kind fl) un
def D0:cQ:=sgo P lO 400 (dP P n.done [pt b 0] .deferred) []
def D1:cQ:=next P lO (D0 P n b) (pt b 0)
def D2:cQ:=next P lO (D1 P n b) un
def D3:cQ:=next P lO (D2 P n b) un
def D4:cQ:=next P lO (D3 P n b) ff
def DE(w:Nat):cQ:=next P fl (D4 P n b) (.eI w)
def D6:cQ:=next P fl (DE P n b fl 1) (.eI 1)
def D7:cQ:=next P fl (D6 P n b fl) un
def D8:cQ:=next P fl (D7 P n b fl) un
def mJ(c:cQ):cQ:=sgo P fl 400 {c.1 with defers:=[]} c.2
def W0:cQ:=FD [0] [] (sgo P lO 400 (dP P n.wait [pt b 0] kind) [])
def W1:cQ:=FD [5] [[0]] (next P lO (W0 P n b kind) un)
def WE:cQ:=next P fl (W1 P n b kind) (.eI 0)
def WC:cQ:=next P fl (WE P n b kind fl) un
def WA:cQ:=next P fl (WC P n b kind fl) (pt b 0)
def WB:cQ:=next P fl (WA P n b kind fl) un
def W3:cQ:=next P fl (WE P n b kind fl) tt
def PV:cQ:=next P fl (W3 P n b kind fl) (pt b 1)
def W4:cQ:=next P fl (PV P n b kind fl) un
def W5:cQ:=next P fl (W4 P n b kind fl) un
def PW:cQ:=next P fl (W5 P n b kind fl) (u64 0)
def QT:cQ:=next P fl (PW P n b kind fl) un
def PX:cQ:=next P fl (QT P n b kind fl) (pt b 0)
def N4:cQ:=next P fl (PX P n b kind fl) un
end
def f1(fl:Fl)(x:Bool):Fl:={fl with c1:=x}
def f0(fl:Fl)(x:Bool):Fl:={fl with c0:=x}
def vt(c:cQ):Bool:=c.1.kind==.normal
structure jS(P:Program)(n:Iq):Prop where
 a0:∀b kind,bb (A0 P n b kind).1=some (n.jF,[])/\(A0 P n b kind).1.env.all plain=true/\(A0 P n b kind).2=[]/\(A0 P n b kind).1.kind=kind
 a1:∀b kind,bb (A1 P n b kind).1=some (n.MM,[])/\(A1 P n b kind).1.env.all plain=true/\(A1 P n b kind).2=[]/\(A1 P n b kind).1.kind=kind
 a2:∀b kind,bb (A2 P n b kind).1=some (n.sF,[pt b 0,u64 4294967296])/\vt (A2 P n b kind)=true/\(A2 P n b kind).1.env.all plain=true/\(A2 P n b kind).2.all (·.env.all plain)=true
 a3:∀b kind fl,kY (A3 P n b kind (f1 fl true)).1=some (n.tS,n.tU,pt b 1)
 a4:∀b kind fl,bb (A4 P n b kind (f1 fl true)).1=some (n.rd,[pt b 1])/\(A4 P n b kind (f1 fl true)).1.kind=kind
 a5:∀b kind fl,rE (A5 P n b kind (f0 (f1 fl true) false)).1=some n.en/\(A5 P n b kind (f0 (f1 fl true) false)).2=[]/\(A5 P n b kind (f0 (f1 fl true) false)).1.kind=kind/\(A5 P n b kind (f0 (f1 fl true) false)).1.fn=n.add
 a6:∀b kind fl,rE (A3 P n b kind (f0 (f1 fl false) false)).1=some n.en/\(A3 P n b kind (f0 (f1 fl false) false)).2=[]/\(A3 P n b kind (f0 (f1 fl false) false)).1.kind=kind/\(A3 P n b kind (f0 (f1 fl false) false)).1.fn=n.add
 d0:∀b,kY (D0 P n b).1=some (n.tG,n.tU,pt b 0)/\(D0 P n b).1.env.all plain=true/\(D0 P n b).2.all (·.env.all plain)=true
 d1:∀b,bb (D1 P n b).1=some (n.rel,[pt b 0])/\vt (D1 P n b)=true/\(D1 P n b).1.env.all plain=true/\(D1 P n b).2.all (·.env.all plain)=true
 d2:∀b,bb (D2 P n b).1=some (n.jF,[])/\vt (D2 P n b)=true/\(D2 P n b).1.env.all plain=true/\(D2 P n b).2.all (·.env.all plain)=true
 d3:∀b,bb (D3 P n b).1=some (n.MM,[])/\vt (D3 P n b)=true/\(D3 P n b).1.env.all plain=true/\(D3 P n b).2.all (·.env.all plain)=true
 d4:∀b,bb (D4 P n b).1=some (n.sF,[pt b 0,u64 18446744069414584320])/\vt (D4 P n b)=true/\(D4 P n b).1.env.all plain=true/\(D4 P n b).2.all (·.env.all plain)=true
 d5:∀b fl x,rE (DE P n b (f0 fl x) 0).1=some n.en
 Ua:∀b fl x,kJ (mJ P (f0 fl x) (DE P n b (f0 fl x) 0)).1 n.done=true/\(mJ P (f0 fl x) (DE P n b (f0 fl x) 0)).2=[]/\(mJ P (f0 fl x) (DE P n b (f0 fl x) 0)).1.kind=.deferred
 d6:∀b fl,rE (DE P n b (f0 fl false) 1).1=some n.en
 Ub:∀b fl,kJ (mJ P (f0 fl false) (DE P n b (f0 fl false) 1)).1 n.done=true/\(mJ P (f0 fl false) (DE P n b (f0 fl false) 1)).2=[]/\(mJ P (f0 fl false) (DE P n b (f0 fl false) 1)).1.kind=.deferred
 d7:∀b fl,bb (DE P n b (f0 fl true) 1).1=some (n.vg,[pt b 0])/\vt (DE P n b (f0 fl true) 1)=true
 d8:∀b fl,bb (D6 P n b (f0 fl true)).1=some (n.GU,[pt b 0,u64 0])/\vt (D6 P n b (f0 fl true))=true
 d9:∀b fl,bb (D7 P n b (f0 fl true)).1=some (n.oI,[pt b 1,ff,i64 0])/\vt (D7 P n b (f0 fl true))=true
 da:∀b fl,rE (D8 P n b (f0 fl true)).1=some n.en
 db:∀b fl,kJ (mJ P (f0 fl true) (D8 P n b (f0 fl true))).1 n.done=true/\(mJ P (f0 fl true) (D8 P n b (f0 fl true))).2=[]/\(mJ P (f0 fl true) (D8 P n b (f0 fl true))).1.kind=.deferred
 w0:∀b kind,bb (W0 P n b kind).1=some (n.jF,[])/\(W0 P n b kind).1.env.all plain=true/\(W0 P n b kind).2=[]/\(W0 P n b kind).1.kind=kind
 w1:∀b kind,bb (W1 P n b kind).1=some (n.vg,[pt b 0])/\vt (W1 P n b kind)=true/\(W1 P n b kind).1.env.all plain=true/\(W1 P n b kind).2.all (·.env.all plain)=true
 w2:∀b kind fl,bb (WE P n b kind (f0 fl true)).1=some (n.en,[])/\(WE P n b kind (f0 fl true)).1.kind=kind
 w3:∀b kind fl,kY (WC P n b kind (f0 fl true)).1=some (n.tG,n.tU,pt b 0)
 w4:∀b kind fl,bb (WA P n b kind (f0 fl true)).1=some (n.acq,[pt b 0])/\(WA P n b kind (f0 fl true)).1.kind=kind
 w5:∀b kind fl,kJ (WB P n b kind (f0 fl true)).1 n.wait=true/\(WB P n b kind (f0 fl true)).2=[]/\(WB P n b kind (f0 fl true)).1.kind=kind
 w6:∀b kind fl,bb (WE P n b kind (f0 fl false)).1=some (n.wC,[pt b 0,.eI 0,.eI 1])/\vt (WE P n b kind (f0 fl false))=true
 w7:∀b kind fl,FD [5] [[0]] (next P (f0 fl false) (WE P n b kind (f0 fl false)) ff)=W1 P n b kind
 w8:∀b kind fl,kY (W3 P n b kind (f0 fl false)).1=some (n.tS,n.tU,pt b 1)
 w9:∀b kind fl,bb (PV P n b kind (f0 fl false)).1=some (n.wr,[pt b 1])/\(PV P n b kind (f0 fl false)).1.kind=kind
 wa:∀b kind fl,bb (W4 P n b kind (f0 fl false)).1=some (n.D5,[pt b 1,ff])/\(W4 P n b kind (f0 fl false)).1.kind=kind
 wb:∀b kind fl,bb (W5 P n b kind (f0 fl false)).1=some (n.vg,[pt b 0])/\vt (W5 P n b kind (f0 fl false))=true
 wc:∀b kind fl,bb (PW P n b kind (f0 fl false)).1=some (n.en,[])/\(PW P n b kind (f0 fl false)).1.kind=kind
 wd:∀b kind fl,kY (QT P n b kind (f0 fl false)).1=some (n.tG,n.tU,pt b 0)
 we:∀b kind fl,bb (PX P n b kind (f0 fl false)).1=some (n.acq,[pt b 0])/\(PX P n b kind (f0 fl false)).1.kind=kind
 wf:∀b kind fl,kJ (N4 P n b kind (f0 fl false)).1 n.wait=true/\(N4 P n b kind (f0 fl false)).2=[]/\(N4 P n b kind (f0 fl false)).1.kind=kind
structure lw(P:Program)(n:Iq):Prop where
 jF:Ext P n.jF (λ_=>do mark .disable;pure Extern.Race.none_)
 en:Ext P n.en (λ_=>do mark .enable;pure Extern.Race.none_)
 acq:Ext P n.acq (Extern.Race.marked .acquire)
 rel:Ext P n.rel (Extern.Race.marked .releaseMerge)
 rd:Ext P n.rd (Extern.Race.marked .read)
 wr:Ext P n.wr (Extern.Race.marked .write)
 MM:Ext P n.MM (λ_=>pure (.bool false))
 sF:Ext P n.sF (Extern.Atomic.update (Op.intArith .add) .u64 true)
 vg:Ext P n.vg (Extern.Atomic.loadT (.int .u64))
 GU:Ext P n.GU Extern.Atomic.storeT
 wC:Ext P n.wC (Extern.Atomic.casT (.int .u64))
 D5:Ext P n.D5 Extern.Sync.semacquire
 oI:Ext P n.oI Extern.Sync.semrelease
 Uc:∃t,P.underlying n.tG=some (.pointer t)/\P.underlying n.tU=some .unsafePointer/\(P.info? t).map (λi=>decide (i.size=0))=some false
 Ud:∃t,P.underlying n.tS=some (.pointer t)/\P.underlying n.tU=some .unsafePointer/\(P.info? t).map (λi=>decide (i.size=0))=some false
 OK:∃fn body,P.funcs[n.add]?=some fn/\fn.body=some body/\fn.ntmps=117/\fn.results=#[]
 JE:∃fn body,P.funcs[n.done]?=some fn/\fn.body=some body/\fn.ntmps=4/\fn.results=#[]
 JF:∃fn body,P.funcs[n.wait]?=some fn/\fn.body=some body/\fn.ntmps=84/\fn.results=#[]
end Go.aR
