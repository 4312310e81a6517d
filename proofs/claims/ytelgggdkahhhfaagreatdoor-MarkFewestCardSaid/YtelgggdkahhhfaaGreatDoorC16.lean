/- Part 16 of the proof. -/
import Derived.Conc.DeferLaws
import Derived.Conc.AtomicLaws
import Derived.Test.YtelgggdkahhhfaaGreatDoorC15
set_option linter.all false
namespace Go.aZ
open Go.Conc
def mU (s:gi):Option FuncId:=
 match s.mode,s.defers with
 | .ret,[{ target:=.fn (.func g) cap,args:=as }]=>if cap=#[]∧as=#[] then some g else none
 | _,_=>none
def hQ (s:gi) (f:FuncId):Bool:=(match s.mode with | .ret=>true | .run=>false) && s.defers.isEmpty && s.fn == f
section
variable {P:Program} {Wd:World->Prop} {main:Bool} {y:Sy} {s:gi} {fr:Frame} {f:FuncId} {svs:List SV} {cs:List Frame} {w:World}
theorem uV (hr:FR y s fr) (h:mU s=some f) (he:Ext P f (fun _=>do mark .enable;pure Extern.Race.none_)) :
 stepG P main (G fr cs) w = .go (G { fr with defers:=[] } cs) w #[⟨.mark .enable,false,true⟩]∧FR y { s with defers:=[] } { fr with defers:=[] }:=by
 obtain⟨fn,tmps,todo,defs,mode,kind,ro⟩:=fr;obtain⟨h1,h2,h3,h4,h5,h6,h7,h8⟩:=hr;simp only at h1 h2 h3 h4 h5 h6 h7 h8;subst h6;unfold mU at h;split at h
 . rename_i g cap as hm hd
   split at h
   . rename_i hca
     obtain⟨rfl,rfl⟩:=hca;simp only[Option.some.injEq] at h;subst h;rw[hm] at h4;have h4:mode = .returning:=h4;subst h4;rw[hd] at h3;subst h3;obtain⟨fn',e1,e2,e3,e4,e5⟩:=he.ex;refine⟨?_,⟨h1,h2,rfl,by rw[hm];rfl,h5,rfl,h7,h8⟩⟩
     exact stepG_unwind_entry (P:=P) (main:=main) (b:=⟨fn,tmps,todo,[],.returning,kind,none⟩) (a:=⟨tmps,[{ target:=.fn (.func g) #[],args:=#[] }]⟩) (todo:=todo) (cs:=cs) (w:=w) (ds:=[]) (f:=g) (args:=#[]) (v:=.tuple #[]) rfl e1 e2 e3 e4 e5 (by simp[Extern.Race.none_]) (by simp) (by
      intro x hx;simp at hx;subst hx;exact⟨rfl,fun g h=>by cases h⟩)
   . cases h
 . cases h
theorem iU {fn:Func} {c:Frame} {rest:List Frame} (hr:FR y s fr) (h:hQ s f=true) (hf:P.funcs[f]? = some fn) (hres:fn.results=#[]) (hk:s.kind ≠ .early):mS P Wd (G fr (c :: rest)) (ip s.kind c rest (.tuple #[])):=by
 obtain⟨fid,tmps,todo,defs,mode,kind,ro⟩:=fr;obtain⟨h1,h2,h3,h4,h5,h6,h7,h8⟩:=hr;simp only at h1 h2 h3 h4 h5 h6 h7 h8;subst h6;unfold hQ at h;simp only[Bool.and_eq_true,beq_iff_eq,List.isEmpty_iff] at h;obtain⟨⟨hm,hd⟩,rfl⟩:=h
 have hm':s.mode = .ret:=by
  cases e:s.mode with
  | ret=>rfl
  | run=>rw[e] at hm;cases hm
 rw[hm'] at h4;have h4:mode = .returning:=h4;subst h4;rw[hd] at h3;subst h3;subst h1;subst h5;have hrun:∀ w:World,(results fn tmps).run P w = .ok (.tuple #[]) w:=fun w=>by simp[results,hres]
 have hev:∀ w:World,(results fn tmps).events P w #[]=#[]:=fun w=>by simp[results,hres]
 refine⟨rfl,fun main w _=>?_⟩
 generalize s.kind=kd at hk ⊢
 cases kd <;> first
  | exact absurd rfl hk
  | (simp[G,stepG,unwind,hf,hrun,hev,doReturn,GStep.after,ip,iP,dP];done)
  | (simp[G,stepG,unwind,hf,hrun,hev,doReturn,GStep.after,ip,iP,dP];rfl)
theorem oP {ad:Addr} {v:Int} (hr:FR y s fr) (h:aH s=some (f,[.lit (.pointer (some ad))])) (hk:s.kind ≠ .early) (he:Ext P f (Extern.Atomic.loadT (.int .u64))) (hc:w.cell? ad=some (.int .u64 v)) :
 stepG P main (G fr cs) w = .go (G (fr.finish (.int .u64 v)) cs) w #[⟨.cell ad,false,true⟩]:=by
 obtain⟨ops,i,rest,kk,o,as,ats,h1,h2,h3,h4,h5,h6⟩:=bM hr h;obtain⟨fn,e1,e2,e3,e4,e5⟩:=he.ex;obtain⟨x,rfl,hx⟩:=CS h4;have:=stepG_load_atomic (P:=P) (main:=main) (b:=fr) (a:=⟨fr.tmps,fr.defers⟩) (kk:=kk) (cs:=cs) (w:=w) (rest:=rest) h1 h2 (by rw[hr.kind];exact hk) h3 e1 e2 e3 e4 .u64 e5 (eX hr hx) hc
 rw[h6,← h5] at this;exact this
theorem Aw {ad:Addr} {v:Int} {u:Value} (hr:FR y s fr) (h:aH s=some (f,[.lit (.pointer (some ad)),.lit (.int .u64 v)])) (hk:s.kind ≠ .early) (he:Ext P f Extern.Atomic.storeT) (hc:w.cell? ad=some u) (hz:w.frozen? ad=false) :
 stepG P main (G fr cs) w = .go (G (fr.finish (.tuple #[])) cs) (w.setCell ad (.int .u64 v)) #[⟨.cell ad,true,true⟩]:=by
 obtain⟨ops,i,rest,kk,o,as,ats,h1,h2,h3,h4,h5,h6⟩:=bM hr h;obtain⟨fn,e1,e2,e3,e4,e5⟩:=he.ex;obtain⟨x,z,rfl,hx,hz'⟩:=CR h4;have:=stepG_store_atomic (P:=P) (main:=main) (b:=fr) (a:=⟨fr.tmps,fr.defers⟩) (kk:=kk) (cs:=cs) (w:=w) (rest:=rest) h1 h2 (by rw[hr.kind];exact hk) h3 e1 e2 e3 e4 e5 (eX hr hx) (eX hr hz') hc hz
 rw[h6,← h5] at this;exact this
end
structure Ce where
 add:Nat
 done:Nat
 wait:Nat
 fR:Nat
 en:Nat
 acq:Nat
 rel:Nat
 rd:Nat
 wr:Nat
 F8:Nat
 nG:Nat
 qd:Nat
 Ax:Nat
 rg:Nat
 yd:Nat
 kC:Nat
 tG:Nat
 tU:Nat
 tS:Nat
def u64 (n:Int):SV:=.lit (.int .u64 n)
def mq:List gi->List (List Nat)->List gi
 | [],_=>[]
 | s :: st,[]=>keep [] s :: mq st []
 | s :: st,l :: ls=>keep l s :: mq st ls
def zE (live:List Nat) (lives:List (List Nat)) (c:bv):bv:=(keep live c.1,mq c.2 lives)
section
variable (P:Program) (n:Ce) (b:Nat) (kind:CallKind) (fl:Fl)
def A0:bv:=sgo P iT 400 (b0 P n.add [pt b 0,i64 1] kind) []
def A1:bv:=next P iT (A0 P n b kind) un
def A2:bv:=next P iT (A1 P n b kind) ff
def A3:bv:=next P fl (A2 P n b kind) (.cE 0)
def A4:bv:=next P fl (A3 P n b kind fl) (pt b 1)
def A5:bv:=next P fl (A4 P n b kind fl) un
def D0:bv:=sgo P iT 400 (b0 P n.done [pt b 0] .deferred) []
def D1:bv:=next P iT (D0 P n b) (pt b 0)
def D2:bv:=next P iT (D1 P n b) un
def D3:bv:=next P iT (D2 P n b) un
def D4:bv:=next P iT (D3 P n b) ff
def DE (w:Nat):bv:=next P fl (D4 P n b) (.cE w)
def D6:bv:=next P fl (DE P n b fl 1) (.cE 1)
def D7:bv:=next P fl (D6 P n b fl) un
def D8:bv:=next P fl (D7 P n b fl) un
def jq (c:bv):bv:=sgo P fl 400 { c.1 with defers:=[] } c.2
def W0:bv:=zE [0] [] (sgo P iT 400 (b0 P n.wait [pt b 0] kind) [])
def W1:bv:=zE [5] [[0]] (next P iT (W0 P n b kind) un)
def WE:bv:=next P fl (W1 P n b kind) (.cE 0)
def WC:bv:=next P fl (WE P n b kind fl) un
def WA:bv:=next P fl (WC P n b kind fl) (pt b 0)
def WB:bv:=next P fl (WA P n b kind fl) un
def W3:bv:=next P fl (WE P n b kind fl) tt
def I1:bv:=next P fl (W3 P n b kind fl) (pt b 1)
def W4:bv:=next P fl (I1 P n b kind fl) un
def W5:bv:=next P fl (W4 P n b kind fl) un
def I2:bv:=next P fl (W5 P n b kind fl) (u64 0)
def JY:bv:=next P fl (I2 P n b kind fl) un
def I3:bv:=next P fl (JY P n b kind fl) (pt b 0)
def Hk:bv:=next P fl (I3 P n b kind fl) un
end
def f1 (fl:Fl) (x:Bool):Fl:={ fl with c1:=x }
def f0 (fl:Fl) (x:Bool):Fl:={ fl with c0:=x }
def qj (c:bv):Bool:=c.1.kind == .normal
structure gk (P:Program) (n:Ce):Prop where
 a0:∀ b kind,aH (A0 P n b kind).1=some (n.fR,[])∧(A0 P n b kind).1.env.all plain=true∧(A0 P n b kind).2=[]∧(A0 P n b kind).1.kind=kind
 a1:∀ b kind,aH (A1 P n b kind).1=some (n.F8,[])∧(A1 P n b kind).1.env.all plain=true∧(A1 P n b kind).2=[]∧(A1 P n b kind).1.kind=kind
 a2:∀ b kind,aH (A2 P n b kind).1=some (n.nG,[pt b 0,u64 4294967296])∧qj (A2 P n b kind)=true∧(A2 P n b kind).1.env.all plain=true∧(A2 P n b kind).2.all (·.env.all plain)=true
 a3:∀ b kind fl,ir (A3 P n b kind (f1 fl true)).1=some (n.tS,n.tU,pt b 1)
 a4:∀ b kind fl,aH (A4 P n b kind (f1 fl true)).1=some (n.rd,[pt b 1])∧(A4 P n b kind (f1 fl true)).1.kind=kind
 a5:∀ b kind fl,mU (A5 P n b kind (f0 (f1 fl true) false)).1=some n.en∧(A5 P n b kind (f0 (f1 fl true) false)).2=[]∧(A5 P n b kind (f0 (f1 fl true) false)).1.kind=kind∧(A5 P n b kind (f0 (f1 fl true) false)).1.fn=n.add
 a6:∀ b kind fl,mU (A3 P n b kind (f0 (f1 fl false) false)).1=some n.en∧(A3 P n b kind (f0 (f1 fl false) false)).2=[]∧(A3 P n b kind (f0 (f1 fl false) false)).1.kind=kind∧(A3 P n b kind (f0 (f1 fl false) false)).1.fn=n.add
 d0:∀ b,ir (D0 P n b).1=some (n.tG,n.tU,pt b 0)∧(D0 P n b).1.env.all plain=true∧(D0 P n b).2.all (·.env.all plain)=true
 d1:∀ b,aH (D1 P n b).1=some (n.rel,[pt b 0])∧qj (D1 P n b)=true∧(D1 P n b).1.env.all plain=true∧(D1 P n b).2.all (·.env.all plain)=true
 d2:∀ b,aH (D2 P n b).1=some (n.fR,[])∧qj (D2 P n b)=true∧(D2 P n b).1.env.all plain=true∧(D2 P n b).2.all (·.env.all plain)=true
 d3:∀ b,aH (D3 P n b).1=some (n.F8,[])∧qj (D3 P n b)=true∧(D3 P n b).1.env.all plain=true∧(D3 P n b).2.all (·.env.all plain)=true
 d4:∀ b,aH (D4 P n b).1=some (n.nG,[pt b 0,u64 18446744069414584320])∧qj (D4 P n b)=true∧(D4 P n b).1.env.all plain=true∧(D4 P n b).2.all (·.env.all plain)=true
 d5:∀ b fl x,mU (DE P n b (f0 fl x) 0).1=some n.en
 MQ:∀ b fl x,hQ (jq P (f0 fl x) (DE P n b (f0 fl x) 0)).1 n.done=true∧(jq P (f0 fl x) (DE P n b (f0 fl x) 0)).2=[]∧(jq P (f0 fl x) (DE P n b (f0 fl x) 0)).1.kind = .deferred
 d6:∀ b fl,mU (DE P n b (f0 fl false) 1).1=some n.en
 MR:∀ b fl,hQ (jq P (f0 fl false) (DE P n b (f0 fl false) 1)).1 n.done=true∧(jq P (f0 fl false) (DE P n b (f0 fl false) 1)).2=[]∧(jq P (f0 fl false) (DE P n b (f0 fl false) 1)).1.kind = .deferred
 d7:∀ b fl,aH (DE P n b (f0 fl true) 1).1=some (n.qd,[pt b 0])∧qj (DE P n b (f0 fl true) 1)=true
 d8:∀ b fl,aH (D6 P n b (f0 fl true)).1=some (n.Ax,[pt b 0,u64 0])∧qj (D6 P n b (f0 fl true))=true
 d9:∀ b fl,aH (D7 P n b (f0 fl true)).1=some (n.kC,[pt b 1,ff,i64 0])∧qj (D7 P n b (f0 fl true))=true
 da:∀ b fl,mU (D8 P n b (f0 fl true)).1=some n.en
 db:∀ b fl,hQ (jq P (f0 fl true) (D8 P n b (f0 fl true))).1 n.done=true∧(jq P (f0 fl true) (D8 P n b (f0 fl true))).2=[]∧(jq P (f0 fl true) (D8 P n b (f0 fl true))).1.kind = .deferred
 w0:∀ b kind,aH (W0 P n b kind).1=some (n.fR,[])∧(W0 P n b kind).1.env.all plain=true∧(W0 P n b kind).2=[]∧(W0 P n b kind).1.kind=kind
 w1:∀ b kind,aH (W1 P n b kind).1=some (n.qd,[pt b 0])∧qj (W1 P n b kind)=true∧(W1 P n b kind).1.env.all plain=true∧(W1 P n b kind).2.all (·.env.all plain)=true
 w2:∀ b kind fl,aH (WE P n b kind (f0 fl true)).1=some (n.en,[])∧(WE P n b kind (f0 fl true)).1.kind=kind
 w3:∀ b kind fl,ir (WC P n b kind (f0 fl true)).1=some (n.tG,n.tU,pt b 0)
 w4:∀ b kind fl,aH (WA P n b kind (f0 fl true)).1=some (n.acq,[pt b 0])∧(WA P n b kind (f0 fl true)).1.kind=kind
 w5:∀ b kind fl,hQ (WB P n b kind (f0 fl true)).1 n.wait=true∧(WB P n b kind (f0 fl true)).2=[]∧(WB P n b kind (f0 fl true)).1.kind=kind
 w6:∀ b kind fl,aH (WE P n b kind (f0 fl false)).1=some (n.rg,[pt b 0,.cE 0,.cE 1])∧qj (WE P n b kind (f0 fl false))=true
 w7:∀ b kind fl,zE [5] [[0]] (next P (f0 fl false) (WE P n b kind (f0 fl false)) ff)=W1 P n b kind
 w8:∀ b kind fl,ir (W3 P n b kind (f0 fl false)).1=some (n.tS,n.tU,pt b 1)
 w9:∀ b kind fl,aH (I1 P n b kind (f0 fl false)).1=some (n.wr,[pt b 1])∧(I1 P n b kind (f0 fl false)).1.kind=kind
 wa:∀ b kind fl,aH (W4 P n b kind (f0 fl false)).1=some (n.yd,[pt b 1,ff])∧(W4 P n b kind (f0 fl false)).1.kind=kind
 wb:∀ b kind fl,aH (W5 P n b kind (f0 fl false)).1=some (n.qd,[pt b 0])∧qj (W5 P n b kind (f0 fl false))=true
 wc:∀ b kind fl,aH (I2 P n b kind (f0 fl false)).1=some (n.en,[])∧(I2 P n b kind (f0 fl false)).1.kind=kind
 wd:∀ b kind fl,ir (JY P n b kind (f0 fl false)).1=some (n.tG,n.tU,pt b 0)
 we:∀ b kind fl,aH (I3 P n b kind (f0 fl false)).1=some (n.acq,[pt b 0])∧(I3 P n b kind (f0 fl false)).1.kind=kind
 wf:∀ b kind fl,hQ (Hk P n b kind (f0 fl false)).1 n.wait=true∧(Hk P n b kind (f0 fl false)).2=[]∧(Hk P n b kind (f0 fl false)).1.kind=kind
structure iD (P:Program) (n:Ce):Prop where
 fR:Ext P n.fR (fun _=>do mark .disable;pure Extern.Race.none_)
 en:Ext P n.en (fun _=>do mark .enable;pure Extern.Race.none_)
 acq:Ext P n.acq (Extern.Race.marked .acquire)
 rel:Ext P n.rel (Extern.Race.marked .releaseMerge)
 rd:Ext P n.rd (Extern.Race.marked .read)
 wr:Ext P n.wr (Extern.Race.marked .write)
 F8:Ext P n.F8 (fun _=>pure (.bool false))
 nG:Ext P n.nG (Extern.Atomic.update (Op.intArith .add) .u64 true)
 qd:Ext P n.qd (Extern.Atomic.loadT (.int .u64))
 Ax:Ext P n.Ax Extern.Atomic.storeT
 rg:Ext P n.rg (Extern.Atomic.casT (.int .u64))
 yd:Ext P n.yd Extern.Sync.semacquire
 kC:Ext P n.kC Extern.Sync.semrelease
 MT:∃ t,P.underlying n.tG=some (.pointer t)∧P.underlying n.tU=some .unsafePointer∧(P.info? t).map (fun i=>decide (i.size=0))=some false
 MU:∃ t,P.underlying n.tS=some (.pointer t)∧P.underlying n.tU=some .unsafePointer∧(P.info? t).map (fun i=>decide (i.size=0))=some false
 HU:∃ fn body,P.funcs[n.add]? = some fn∧fn.body=some body∧fn.ntmps=117∧fn.results=#[]
 C6:∃ fn body,P.funcs[n.done]? = some fn∧fn.body=some body∧fn.ntmps=4∧fn.results=#[]
 C7:∃ fn body,P.funcs[n.wait]? = some fn∧fn.body=some body∧fn.ntmps=84∧fn.results=#[]
end Go.aZ
