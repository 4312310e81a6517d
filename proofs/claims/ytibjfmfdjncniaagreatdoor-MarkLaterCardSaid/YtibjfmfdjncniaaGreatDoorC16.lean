/- Part 16 of the proof. -/
import Derived.Conc.DeferLaws
import Derived.Conc.AtomicLaws
import Derived.Test.YtibjfmfdjncniaaGreatDoorC15
set_option linter.all false
namespace Go.Pal
open Go.Conc
def dfAt (s:SFr):Option FuncId:=
  match s.mode,s.defers with
  | .ret,[{ target:=.fn (.func g) cap,args:=as }]=>if cap=#[]∧as=#[] then some g else none
  | _,_=>none
def isOut (s:SFr) (f:FuncId):Bool:=(match s.mode with | .ret=>true | .run=>false) && s.defers.isEmpty && s.fn == f
section
variable {P:Program} {Wd:World->Prop} {main:Bool} {y:Sy} {s:SFr} {fr:Frame} {f:FuncId} {svs:List SV} {cs:List Frame} {w:World}
theorem stop_df (hr:FR y s fr) (h:dfAt s=some f) (he:Ext P f (fun _=>do mark .enable;pure Extern.Race.none_)) :
    stepG P main (G fr cs) w = .go (G { fr with defers:=[] } cs) w #[⟨.mark .enable,false,true⟩]∧FR y { s with defers:=[] } { fr with defers:=[] }:=by
  obtain⟨fn,tmps,todo,defs,mode,kind,ro⟩:=fr;obtain⟨h1,h2,h3,h4,h5,h6,h7,h8⟩:=hr;simp only at h1 h2 h3 h4 h5 h6 h7 h8;subst h6;unfold dfAt at h;split at h
  . rename_i g cap as hm hd
    split at h
    . rename_i hca
      obtain⟨rfl,rfl⟩:=hca;simp only[Option.some.injEq] at h;subst h;rw[hm] at h4;have h4:mode = .returning:=h4;subst h4;rw[hd] at h3;subst h3;obtain⟨fn',e1,e2,e3,e4,e5⟩:=he.ex;refine⟨?_,⟨h1,h2,rfl,by rw[hm];rfl,h5,rfl,h7,h8⟩⟩
      exact stepG_unwind_entry (P:=P) (main:=main) (b:=⟨fn,tmps,todo,[],.returning,kind,none⟩) (a:=⟨tmps,[{ target:=.fn (.func g) #[],args:=#[] }]⟩) (todo:=todo) (cs:=cs) (w:=w) (ds:=[]) (f:=g) (args:=#[]) (v:=.tuple #[]) rfl e1 e2 e3 e4 e5 (by simp[Extern.Race.none_]) (by simp) (by
        intro x hx;simp at hx;subst hx;exact⟨rfl,fun g h=>by cases h⟩)
    . cases h
  . cases h
theorem back_step {fn:Func} {c:Frame} {rest:List Frame} (hr:FR y s fr) (h:isOut s f=true) (hf:P.funcs[f]? = some fn) (hres:fn.results=#[]) (hk:s.kind ≠ .early):Sil1 P Wd (G fr (c :: rest)) (Back s.kind c rest (.tuple #[])):=by
  obtain⟨fid,tmps,todo,defs,mode,kind,ro⟩:=fr;obtain⟨h1,h2,h3,h4,h5,h6,h7,h8⟩:=hr;simp only at h1 h2 h3 h4 h5 h6 h7 h8;subst h6;unfold isOut at h;simp only[Bool.and_eq_true,beq_iff_eq,List.isEmpty_iff] at h;obtain⟨⟨hm,hd⟩,rfl⟩:=h
  have hm':s.mode = .ret:=by
    cases e:s.mode with
    | ret=>rfl
    | run=>rw[e] at hm;cases hm
  rw[hm'] at h4;have h4:mode = .returning:=h4;subst h4;rw[hd] at h3;subst h3;subst h1;subst h5;have hrun:∀ w:World,(results fn tmps).run P w = .ok (.tuple #[]) w:=fun w=>by simp[results,hres]
  have hev:∀ w:World,(results fn tmps).events P w #[]=#[]:=fun w=>by simp[results,hres]
  refine⟨rfl,fun main w _=>?_⟩
  generalize s.kind=kd at hk ⊢
  cases kd <;> first
    | exact absurd rfl hk
    | (simp[G,stepG,unwind,hf,hrun,hev,doReturn,GStep.after,Back,deferBack,seen_none'];done)
    | (simp[G,stepG,unwind,hf,hrun,hev,doReturn,GStep.after,Back,deferBack,seen_none'];rfl)
theorem stop_ld64 {ad:Addr} {v:Int} (hr:FR y s fr) (h:opAt s=some (f,[.lit (.pointer (some ad))])) (hk:s.kind ≠ .early) (he:Ext P f (Extern.Atomic.loadT (.int .u64))) (hc:w.cell? ad=some (.int .u64 v)) :
    stepG P main (G fr cs) w = .go (G (fr.finish (.int .u64 v)) cs) w #[⟨.cell ad,false,true⟩]:=by
  obtain⟨ops,i,rest,kk,o,as,ats,h1,h2,h3,h4,h5,h6⟩:=opAt_form hr h;obtain⟨fn,e1,e2,e3,e4,e5⟩:=he.ex;obtain⟨x,rfl,hx⟩:=one_of h4;have:=stepG_load_atomic (P:=P) (main:=main) (b:=fr) (a:=⟨fr.tmps,fr.defers⟩) (kk:=kk) (cs:=cs) (w:=w) (rest:=rest) h1 h2 (by rw[hr.kind];exact hk) h3 e1 e2 e3 e4 .u64 e5 (eval_of hr hx) hc
  rw[h6,← h5] at this;exact this
theorem stop_st64 {ad:Addr} {v:Int} {u:Value} (hr:FR y s fr) (h:opAt s=some (f,[.lit (.pointer (some ad)),.lit (.int .u64 v)])) (hk:s.kind ≠ .early) (he:Ext P f Extern.Atomic.storeT) (hc:w.cell? ad=some u) (hz:w.frozen? ad=false) :
    stepG P main (G fr cs) w = .go (G (fr.finish (.tuple #[])) cs) (w.setCell ad (.int .u64 v)) #[⟨.cell ad,true,true⟩]:=by
  obtain⟨ops,i,rest,kk,o,as,ats,h1,h2,h3,h4,h5,h6⟩:=opAt_form hr h;obtain⟨fn,e1,e2,e3,e4,e5⟩:=he.ex;obtain⟨x,z,rfl,hx,hz'⟩:=two_of h4;have:=stepG_store_atomic (P:=P) (main:=main) (b:=fr) (a:=⟨fr.tmps,fr.defers⟩) (kk:=kk) (cs:=cs) (w:=w) (rest:=rest) h1 h2 (by rw[hr.kind];exact hk) h3 e1 e2 e3 e4 e5 (eval_of hr hx) (eval_of hr hz') hc hz
  rw[h6,← h5] at this;exact this
end
structure GrN where
  add:Nat
  done:Nat
  wait:Nat
  dis:Nat
  en:Nat
  acq:Nat
  rel:Nat
  rd:Nat
  wr:Nat
  bub:Nat
  add64:Nat
  ld64:Nat
  st64:Nat
  cas64:Nat
  sem:Nat
  semr:Nat
  tG:Nat
  tU:Nat
  tS:Nat
def u64 (n:Int):SV:=.lit (.int .u64 n)
def maskL:List SFr->List (List Nat)->List SFr
  | [],_=>[]
  | s :: st,[]=>keep [] s :: maskL st []
  | s :: st,l :: ls=>keep l s :: maskL st ls
def maskS (live:List Nat) (lives:List (List Nat)) (c:Cfg):Cfg:=(keep live c.1,maskL c.2 lives)
section
variable (P:Program) (n:GrN) (b:Nat) (kind:CallKind) (fl:Fl)
def A0:Cfg:=sgo P fl0 400 (sEnter P n.add [pt b 0,i64 1] kind) []
def A1:Cfg:=next P fl0 (A0 P n b kind) un
def A2:Cfg:=next P fl0 (A1 P n b kind) ff
def A3:Cfg:=next P fl (A2 P n b kind) (.grp 0)
def A4:Cfg:=next P fl (A3 P n b kind fl) (pt b 1)
def A5:Cfg:=next P fl (A4 P n b kind fl) un
def D0:Cfg:=sgo P fl0 400 (sEnter P n.done [pt b 0] .deferred) []
def D1:Cfg:=next P fl0 (D0 P n b) (pt b 0)
def D2:Cfg:=next P fl0 (D1 P n b) un
def D3:Cfg:=next P fl0 (D2 P n b) un
def D4:Cfg:=next P fl0 (D3 P n b) ff
def DE (w:Nat):Cfg:=next P fl (D4 P n b) (.grp w)
def D6:Cfg:=next P fl (DE P n b fl 1) (.grp 1)
def D7:Cfg:=next P fl (D6 P n b fl) un
def D8:Cfg:=next P fl (D7 P n b fl) un
def outD (c:Cfg):Cfg:=sgo P fl 400 { c.1 with defers:=[] } c.2
def W0:Cfg:=maskS [0] [] (sgo P fl0 400 (sEnter P n.wait [pt b 0] kind) [])
def W1:Cfg:=maskS [5] [[0]] (next P fl0 (W0 P n b kind) un)
def WE:Cfg:=next P fl (W1 P n b kind) (.grp 0)
def WC:Cfg:=next P fl (WE P n b kind fl) un
def WA:Cfg:=next P fl (WC P n b kind fl) (pt b 0)
def WB:Cfg:=next P fl (WA P n b kind fl) un
def W3:Cfg:=next P fl (WE P n b kind fl) tt
def W3b:Cfg:=next P fl (W3 P n b kind fl) (pt b 1)
def W4:Cfg:=next P fl (W3b P n b kind fl) un
def W5:Cfg:=next P fl (W4 P n b kind fl) un
def WE2:Cfg:=next P fl (W5 P n b kind fl) (u64 0)
def WC2:Cfg:=next P fl (WE2 P n b kind fl) un
def WA2:Cfg:=next P fl (WC2 P n b kind fl) (pt b 0)
def WB2:Cfg:=next P fl (WA2 P n b kind fl) un
end
def f1 (fl:Fl) (x:Bool):Fl:={ fl with c1:=x }
def f0 (fl:Fl) (x:Bool):Fl:={ fl with c0:=x }
def kOK (c:Cfg):Bool:=c.1.kind == .normal
structure GrChk (P:Program) (n:GrN):Prop where
  a0:∀ b kind,opAt (A0 P n b kind).1=some (n.dis,[])∧(A0 P n b kind).1.env.all plain=true∧(A0 P n b kind).2=[]∧(A0 P n b kind).1.kind=kind
  a1:∀ b kind,opAt (A1 P n b kind).1=some (n.bub,[])∧(A1 P n b kind).1.env.all plain=true∧(A1 P n b kind).2=[]∧(A1 P n b kind).1.kind=kind
  a2:∀ b kind,opAt (A2 P n b kind).1=some (n.add64,[pt b 0,u64 4294967296])∧kOK (A2 P n b kind)=true∧(A2 P n b kind).1.env.all plain=true∧(A2 P n b kind).2.all (·.env.all plain)=true
  a3:∀ b kind fl,cvAt (A3 P n b kind (f1 fl true)).1=some (n.tS,n.tU,pt b 1)
  a4:∀ b kind fl,opAt (A4 P n b kind (f1 fl true)).1=some (n.rd,[pt b 1])∧(A4 P n b kind (f1 fl true)).1.kind=kind
  a5:∀ b kind fl,dfAt (A5 P n b kind (f0 (f1 fl true) false)).1=some n.en∧(A5 P n b kind (f0 (f1 fl true) false)).2=[]∧(A5 P n b kind (f0 (f1 fl true) false)).1.kind=kind∧(A5 P n b kind (f0 (f1 fl true) false)).1.fn=n.add
  a6:∀ b kind fl,dfAt (A3 P n b kind (f0 (f1 fl false) false)).1=some n.en∧(A3 P n b kind (f0 (f1 fl false) false)).2=[]∧(A3 P n b kind (f0 (f1 fl false) false)).1.kind=kind∧(A3 P n b kind (f0 (f1 fl false) false)).1.fn=n.add
  d0:∀ b,cvAt (D0 P n b).1=some (n.tG,n.tU,pt b 0)∧(D0 P n b).1.env.all plain=true∧(D0 P n b).2.all (·.env.all plain)=true
  d1:∀ b,opAt (D1 P n b).1=some (n.rel,[pt b 0])∧kOK (D1 P n b)=true∧(D1 P n b).1.env.all plain=true∧(D1 P n b).2.all (·.env.all plain)=true
  d2:∀ b,opAt (D2 P n b).1=some (n.dis,[])∧kOK (D2 P n b)=true∧(D2 P n b).1.env.all plain=true∧(D2 P n b).2.all (·.env.all plain)=true
  d3:∀ b,opAt (D3 P n b).1=some (n.bub,[])∧kOK (D3 P n b)=true∧(D3 P n b).1.env.all plain=true∧(D3 P n b).2.all (·.env.all plain)=true
  d4:∀ b,opAt (D4 P n b).1=some (n.add64,[pt b 0,u64 18446744069414584320])∧kOK (D4 P n b)=true∧(D4 P n b).1.env.all plain=true∧(D4 P n b).2.all (·.env.all plain)=true
  d5:∀ b fl x,dfAt (DE P n b (f0 fl x) 0).1=some n.en
  d5b:∀ b fl x,isOut (outD P (f0 fl x) (DE P n b (f0 fl x) 0)).1 n.done=true∧(outD P (f0 fl x) (DE P n b (f0 fl x) 0)).2=[]∧(outD P (f0 fl x) (DE P n b (f0 fl x) 0)).1.kind = .deferred
  d6:∀ b fl,dfAt (DE P n b (f0 fl false) 1).1=some n.en
  d6b:∀ b fl,isOut (outD P (f0 fl false) (DE P n b (f0 fl false) 1)).1 n.done=true∧(outD P (f0 fl false) (DE P n b (f0 fl false) 1)).2=[]∧(outD P (f0 fl false) (DE P n b (f0 fl false) 1)).1.kind = .deferred
  d7:∀ b fl,opAt (DE P n b (f0 fl true) 1).1=some (n.ld64,[pt b 0])∧kOK (DE P n b (f0 fl true) 1)=true
  d8:∀ b fl,opAt (D6 P n b (f0 fl true)).1=some (n.st64,[pt b 0,u64 0])∧kOK (D6 P n b (f0 fl true))=true
  d9:∀ b fl,opAt (D7 P n b (f0 fl true)).1=some (n.semr,[pt b 1,ff,i64 0])∧kOK (D7 P n b (f0 fl true))=true
  da:∀ b fl,dfAt (D8 P n b (f0 fl true)).1=some n.en
  db:∀ b fl,isOut (outD P (f0 fl true) (D8 P n b (f0 fl true))).1 n.done=true∧(outD P (f0 fl true) (D8 P n b (f0 fl true))).2=[]∧(outD P (f0 fl true) (D8 P n b (f0 fl true))).1.kind = .deferred
  w0:∀ b kind,opAt (W0 P n b kind).1=some (n.dis,[])∧(W0 P n b kind).1.env.all plain=true∧(W0 P n b kind).2=[]∧(W0 P n b kind).1.kind=kind
  w1:∀ b kind,opAt (W1 P n b kind).1=some (n.ld64,[pt b 0])∧kOK (W1 P n b kind)=true∧(W1 P n b kind).1.env.all plain=true∧(W1 P n b kind).2.all (·.env.all plain)=true
  w2:∀ b kind fl,opAt (WE P n b kind (f0 fl true)).1=some (n.en,[])∧(WE P n b kind (f0 fl true)).1.kind=kind
  w3:∀ b kind fl,cvAt (WC P n b kind (f0 fl true)).1=some (n.tG,n.tU,pt b 0)
  w4:∀ b kind fl,opAt (WA P n b kind (f0 fl true)).1=some (n.acq,[pt b 0])∧(WA P n b kind (f0 fl true)).1.kind=kind
  w5:∀ b kind fl,isOut (WB P n b kind (f0 fl true)).1 n.wait=true∧(WB P n b kind (f0 fl true)).2=[]∧(WB P n b kind (f0 fl true)).1.kind=kind
  w6:∀ b kind fl,opAt (WE P n b kind (f0 fl false)).1=some (n.cas64,[pt b 0,.grp 0,.grp 1])∧kOK (WE P n b kind (f0 fl false))=true
  w7:∀ b kind fl,maskS [5] [[0]] (next P (f0 fl false) (WE P n b kind (f0 fl false)) ff)=W1 P n b kind
  w8:∀ b kind fl,cvAt (W3 P n b kind (f0 fl false)).1=some (n.tS,n.tU,pt b 1)
  w9:∀ b kind fl,opAt (W3b P n b kind (f0 fl false)).1=some (n.wr,[pt b 1])∧(W3b P n b kind (f0 fl false)).1.kind=kind
  wa:∀ b kind fl,opAt (W4 P n b kind (f0 fl false)).1=some (n.sem,[pt b 1,ff])∧(W4 P n b kind (f0 fl false)).1.kind=kind
  wb:∀ b kind fl,opAt (W5 P n b kind (f0 fl false)).1=some (n.ld64,[pt b 0])∧kOK (W5 P n b kind (f0 fl false))=true
  wc:∀ b kind fl,opAt (WE2 P n b kind (f0 fl false)).1=some (n.en,[])∧(WE2 P n b kind (f0 fl false)).1.kind=kind
  wd:∀ b kind fl,cvAt (WC2 P n b kind (f0 fl false)).1=some (n.tG,n.tU,pt b 0)
  we:∀ b kind fl,opAt (WA2 P n b kind (f0 fl false)).1=some (n.acq,[pt b 0])∧(WA2 P n b kind (f0 fl false)).1.kind=kind
  wf:∀ b kind fl,isOut (WB2 P n b kind (f0 fl false)).1 n.wait=true∧(WB2 P n b kind (f0 fl false)).2=[]∧(WB2 P n b kind (f0 fl false)).1.kind=kind
structure GrExt (P:Program) (n:GrN):Prop where
  dis:Ext P n.dis (fun _=>do mark .disable;pure Extern.Race.none_)
  en:Ext P n.en (fun _=>do mark .enable;pure Extern.Race.none_)
  acq:Ext P n.acq (Extern.Race.marked .acquire)
  rel:Ext P n.rel (Extern.Race.marked .releaseMerge)
  rd:Ext P n.rd (Extern.Race.marked .read)
  wr:Ext P n.wr (Extern.Race.marked .write)
  bub:Ext P n.bub (fun _=>pure (.bool false))
  add64:Ext P n.add64 (Extern.Atomic.update (Op.intArith .add) .u64 true)
  ld64:Ext P n.ld64 (Extern.Atomic.loadT (.int .u64))
  st64:Ext P n.st64 Extern.Atomic.storeT
  cas64:Ext P n.cas64 (Extern.Atomic.casT (.int .u64))
  sem:Ext P n.sem Extern.Sync.semacquire
  semr:Ext P n.semr Extern.Sync.semrelease
  tyG:∃ t,P.underlying n.tG=some (.pointer t)∧P.underlying n.tU=some .unsafePointer∧(P.info? t).map (fun i=>decide (i.size=0))=some false
  tyS:∃ t,P.underlying n.tS=some (.pointer t)∧P.underlying n.tU=some .unsafePointer∧(P.info? t).map (fun i=>decide (i.size=0))=some false
  fAdd:∃ fn body,P.funcs[n.add]? = some fn∧fn.body=some body∧fn.ntmps=117∧fn.results=#[]
  fDone:∃ fn body,P.funcs[n.done]? = some fn∧fn.body=some body∧fn.ntmps=4∧fn.results=#[]
  fWait:∃ fn body,P.funcs[n.wait]? = some fn∧fn.body=some body∧fn.ntmps=84∧fn.results=#[]
end Go.Pal
