/- Part 17 of the proof. -/
import Derived.Conc.DeferLaws
import Derived.Conc.AtomicLaws
import Derived.Test.YtigilmjkokbblaaGreatDoorC16
set_option linter.all false
namespace Go.bd
open Go.Conc
def rJ (s:jG):Option FuncId:=
 match s.mode,s.defers with
 | .ret,[{ target:=.fn (.func g) cap,args:=as }]=>if cap=#[]∧as=#[] then some g else none
 | _,_=>none
def kE(s:jG)(f:FuncId):Bool:=(match s.mode with|.ret=>true|.run=>false) && s.defers.isEmpty && s.fn==f
section
variable{P:Program}{Wd:World->Prop}{main:Bool}{y:Sy}{s:jG}{fr:Frame}{f:FuncId}{svs:List SV}{cs:List Frame}{w:World}
theorem BA (q:FR y s fr) (h:rJ s=some f) (r:Ext P f (fun _=>do mark .enable;pure Extern.Race.none_)) :
 stepG P main (G fr cs) w = .go (G { fr with defers:=[] } cs) w #[⟨.mark .enable,false,true⟩]∧FR y { s with defers:=[] } { fr with defers:=[] }:=by
 obtain⟨fn,tmps,todo,defs,mode,kind,ro⟩:=fr;obtain⟨i,j,d,c,k,l,m,n⟩:=q;simp only at i j d c k l m n;subst l;unfold rJ at h;split at h
 . rename_i g cap as o hd
   split at h
   . rename_i e
     obtain⟨rfl,rfl⟩:=e;simp only[Option.some.injEq] at h;subst h;rw[o] at c;have c:mode = .returning:=c;subst c;rw[hd] at d;subst d;obtain⟨t,u,z,A,B,C⟩:=r.ex;refine⟨?_,⟨i,j,rfl,by rw[o];rfl,k,rfl,m,n⟩⟩
     exact stepG_unwind_entry (P:=P) (main:=main) (b:=⟨fn,tmps,todo,[],.returning,kind,none⟩) (a:=⟨tmps,[{ target:=.fn (.func g) #[],args:=#[] }]⟩) (todo:=todo) (cs:=cs) (w:=w) (ds:=[]) (f:=g) (args:=#[]) (v:=.tuple #[]) rfl u z A B C (by simp[Extern.Race.none_]) (by simp) (by
      intro x p;simp at p;subst p;exact⟨rfl,fun g h=>by cases h⟩)
   . cases h
 . cases h
theorem lM{fn:Func}{c:Frame}{rest:List Frame}(q:FR y s fr)(h:kE s f=true)(k:P.funcs[f]?=some fn)(a:fn.results=#[])(l:s.kind≠.early):rH P Wd (G fr (c::rest)) (kR s.kind c rest (.tuple #[])):=by
 obtain⟨r,tmps,todo,defs,mode,kind,ro⟩:=fr;obtain⟨m,t,i,d,n,o,u,v⟩:=q;simp only at m t i d n o u v;subst o;unfold kE at h;simp only[Bool.and_eq_true,beq_iff_eq,List.isEmpty_iff]at h;obtain⟨⟨p,hd⟩,rfl⟩:=h
 have j:s.mode=.ret:=by
  cases e:s.mode with
  |ret=>rfl
  |run=>rw[e]at p;cases p
 rw[j]at d;have d:mode=.returning:=d;subst d;rw[hd]at i;subst i;subst m;subst n;have b:∀w:World,(results fn tmps).run P w=.ok (.tuple #[]) w:=λw=>by simp[results,a]
 have g:∀w:World,(results fn tmps).events P w #[]=#[]:=λw=>by simp[results,a]
 refine⟨rfl,λmain w _=>?_⟩;generalize s.kind=kd at l ⊢
 cases kd<;>first
  |exact absurd rfl l
  |(simp[G,stepG,unwind,k,b,g,doReturn,GStep.after,kR,lE,gK];done)
  |(simp[G,stepG,unwind,k,b,g,doReturn,GStep.after,kR,lE,gK];rfl)
theorem uj {ad:Addr} {v:Int} (c:FR y s fr) (h:bb s=some (f,[.lit (.pointer (some ad))])) (d:s.kind ≠ .early) (e:Ext P f (Extern.Atomic.loadT (.int .u64))) (g:w.cell? ad=some (.int .u64 v)) :
 stepG P main (G fr cs) w = .go (G (fr.finish (.int .u64 v)) cs) w #[⟨.cell ad,false,true⟩]:=by
 obtain⟨ops,i,rest,kk,o,as,j,k,l,m,n,p,q⟩:=dq c h;obtain⟨fn,r,t,u,z,A⟩:=e.ex;obtain⟨x,rfl,B⟩:=KS n;have:=stepG_load_atomic (P:=P) (main:=main) (b:=fr) (a:=⟨fr.tmps,fr.defers⟩) (kk:=kk) (cs:=cs) (w:=w) (rest:=rest) k l (by rw[c.kind];exact d) m r t u z .u64 A (iE c B) g
 rw[q,← p] at this;exact this
theorem Ic {ad:Addr} {v:Int} {u:Value} (c:FR y s fr) (h:bb s=some (f,[.lit (.pointer (some ad)),.lit (.int .u64 v)])) (e:s.kind ≠ .early) (g:Ext P f Extern.Atomic.storeT) (j:w.cell? ad=some u) (k:w.frozen? ad=false) :
 stepG P main (G fr cs) w = .go (G (fr.finish (.tuple #[])) cs) (w.setCell ad (.int .u64 v)) #[⟨.cell ad,true,true⟩]:=by
 obtain⟨ops,i,rest,kk,o,as,l,m,n,p,q,r,t⟩:=dq c h;obtain⟨fn,A,B,C,D,E⟩:=g.ex;obtain⟨x,z,rfl,F,d⟩:=KR q;have:=stepG_store_atomic (P:=P) (main:=main) (b:=fr) (a:=⟨fr.tmps,fr.defers⟩) (kk:=kk) (cs:=cs) (w:=w) (rest:=rest) m n (by rw[c.kind];exact e) p A B C D E (iE c F) (iE c d) j k
 rw[t,← r] at this;exact this
end
structure JE where
 add:Nat
 done:Nat
 wait:Nat
 ju:Nat
 en:Nat
 acq:Nat
 rel:Nat
 rd:Nat
 wr:Nat
 Ow:Nat
 sU:Nat
 vC:Nat
 Ie:Nat
 xB:Nat
 Fo:Nat
 oH:Nat
 tG:Nat
 tU:Nat
 tS:Nat
def u64(n:Int):SV:=.lit (.int .u64 n)
def qR:List jG->List (List Nat)->List jG
 |[],_=>[]
 |s::st,[]=>keep [] s::qR st []
 |s::st,l::ls=>keep l s::qR st ls
def G1(live:List Nat)(a:List (List Nat))(c:cR):cR:=(keep live c.1,qR c.2 a)
section
variable(P:Program)(n:JE)(b:Nat)(kind:CallKind)(fl:Fl)
def A0:cR:=sgo P lL 400 (dN P n.add [pt b 0,i64 1] kind) []
def A1:cR:=next P lL (A0 P n b kind) un
def A2:cR:=next P lL (A1 P n b kind) ff
def A3:cR:=next P fl (A2 P n b kind) (.eC 0)
def A4:cR:=next P fl (A3 P n b kind fl) (pt b 1)
def A5:cR:=next P fl (A4 P n b kind fl) un
def D0:cR:=sgo P lL 400 (dN P n.done [pt b 0] .deferred) []
def D1:cR:=next P lL (D0 P n b) (pt b 0)
def D2:cR:=next P lL (D1 P n b) un
def D3:cR:=next P lL (D2 P n b) un
def D4:cR:=next P lL (D3 P n b) ff
def DE(w:Nat):cR:=next P fl (D4 P n b) (.eC w)
def D6:cR:=next P fl (DE P n b fl 1) (.eC 1)
def D7:cR:=next P fl (D6 P n b fl) un
def D8:cR:=next P fl (D7 P n b fl) un
def mz(c:cR):cR:=sgo P fl 400 {c.1 with defers:=[]} c.2
def W0:cR:=G1 [0] [] (sgo P lL 400 (dN P n.wait [pt b 0] kind) [])
def W1:cR:=G1 [5] [[0]] (next P lL (W0 P n b kind) un)
def WE:cR:=next P fl (W1 P n b kind) (.eC 0)
def WC:cR:=next P fl (WE P n b kind fl) un
def WA:cR:=next P fl (WC P n b kind fl) (pt b 0)
def WB:cR:=next P fl (WA P n b kind fl) un
def W3:cR:=next P fl (WE P n b kind fl) tt
def RF:cR:=next P fl (W3 P n b kind fl) (pt b 1)
def W4:cR:=next P fl (RF P n b kind fl) un
def W5:cR:=next P fl (W4 P n b kind fl) un
def RG:cR:=next P fl (W5 P n b kind fl) (u64 0)
def Tn:cR:=next P fl (RG P n b kind fl) un
def RH:cR:=next P fl (Tn P n b kind fl) (pt b 0)
def PC:cR:=next P fl (RH P n b kind fl) un
end
def f1(fl:Fl)(x:Bool):Fl:={fl with c1:=x}
def f0(fl:Fl)(x:Bool):Fl:={fl with c0:=x}
def vM(c:cR):Bool:=c.1.kind==.normal
structure jH(P:Program)(n:JE):Prop where
 a0:∀b kind,bb (A0 P n b kind).1=some (n.ju,[])/\(A0 P n b kind).1.env.all plain=true/\(A0 P n b kind).2=[]/\(A0 P n b kind).1.kind=kind
 a1:∀b kind,bb (A1 P n b kind).1=some (n.Ow,[])/\(A1 P n b kind).1.env.all plain=true/\(A1 P n b kind).2=[]/\(A1 P n b kind).1.kind=kind
 a2:∀b kind,bb (A2 P n b kind).1=some (n.sU,[pt b 0,u64 4294967296])/\vM (A2 P n b kind)=true/\(A2 P n b kind).1.env.all plain=true/\(A2 P n b kind).2.all (·.env.all plain)=true
 a3:∀b kind fl,kU (A3 P n b kind (f1 fl true)).1=some (n.tS,n.tU,pt b 1)
 a4:∀b kind fl,bb (A4 P n b kind (f1 fl true)).1=some (n.rd,[pt b 1])/\(A4 P n b kind (f1 fl true)).1.kind=kind
 a5:∀b kind fl,rJ (A5 P n b kind (f0 (f1 fl true) false)).1=some n.en/\(A5 P n b kind (f0 (f1 fl true) false)).2=[]/\(A5 P n b kind (f0 (f1 fl true) false)).1.kind=kind/\(A5 P n b kind (f0 (f1 fl true) false)).1.fn=n.add
 a6:∀b kind fl,rJ (A3 P n b kind (f0 (f1 fl false) false)).1=some n.en/\(A3 P n b kind (f0 (f1 fl false) false)).2=[]/\(A3 P n b kind (f0 (f1 fl false) false)).1.kind=kind/\(A3 P n b kind (f0 (f1 fl false) false)).1.fn=n.add
 d0:∀b,kU (D0 P n b).1=some (n.tG,n.tU,pt b 0)/\(D0 P n b).1.env.all plain=true/\(D0 P n b).2.all (·.env.all plain)=true
 d1:∀b,bb (D1 P n b).1=some (n.rel,[pt b 0])/\vM (D1 P n b)=true/\(D1 P n b).1.env.all plain=true/\(D1 P n b).2.all (·.env.all plain)=true
 d2:∀b,bb (D2 P n b).1=some (n.ju,[])/\vM (D2 P n b)=true/\(D2 P n b).1.env.all plain=true/\(D2 P n b).2.all (·.env.all plain)=true
 d3:∀b,bb (D3 P n b).1=some (n.Ow,[])/\vM (D3 P n b)=true/\(D3 P n b).1.env.all plain=true/\(D3 P n b).2.all (·.env.all plain)=true
 d4:∀b,bb (D4 P n b).1=some (n.sU,[pt b 0,u64 18446744069414584320])/\vM (D4 P n b)=true/\(D4 P n b).1.env.all plain=true/\(D4 P n b).2.all (·.env.all plain)=true
 d5:∀b fl x,rJ (DE P n b (f0 fl x) 0).1=some n.en
 Wr:∀b fl x,kE (mz P (f0 fl x) (DE P n b (f0 fl x) 0)).1 n.done=true/\(mz P (f0 fl x) (DE P n b (f0 fl x) 0)).2=[]/\(mz P (f0 fl x) (DE P n b (f0 fl x) 0)).1.kind=.deferred
 d6:∀b fl,rJ (DE P n b (f0 fl false) 1).1=some n.en
 Wt:∀b fl,kE (mz P (f0 fl false) (DE P n b (f0 fl false) 1)).1 n.done=true/\(mz P (f0 fl false) (DE P n b (f0 fl false) 1)).2=[]/\(mz P (f0 fl false) (DE P n b (f0 fl false) 1)).1.kind=.deferred
 d7:∀b fl,bb (DE P n b (f0 fl true) 1).1=some (n.vC,[pt b 0])/\vM (DE P n b (f0 fl true) 1)=true
 d8:∀b fl,bb (D6 P n b (f0 fl true)).1=some (n.Ie,[pt b 0,u64 0])/\vM (D6 P n b (f0 fl true))=true
 d9:∀b fl,bb (D7 P n b (f0 fl true)).1=some (n.oH,[pt b 1,ff,i64 0])/\vM (D7 P n b (f0 fl true))=true
 da:∀b fl,rJ (D8 P n b (f0 fl true)).1=some n.en
 db:∀b fl,kE (mz P (f0 fl true) (D8 P n b (f0 fl true))).1 n.done=true/\(mz P (f0 fl true) (D8 P n b (f0 fl true))).2=[]/\(mz P (f0 fl true) (D8 P n b (f0 fl true))).1.kind=.deferred
 w0:∀b kind,bb (W0 P n b kind).1=some (n.ju,[])/\(W0 P n b kind).1.env.all plain=true/\(W0 P n b kind).2=[]/\(W0 P n b kind).1.kind=kind
 w1:∀b kind,bb (W1 P n b kind).1=some (n.vC,[pt b 0])/\vM (W1 P n b kind)=true/\(W1 P n b kind).1.env.all plain=true/\(W1 P n b kind).2.all (·.env.all plain)=true
 w2:∀b kind fl,bb (WE P n b kind (f0 fl true)).1=some (n.en,[])/\(WE P n b kind (f0 fl true)).1.kind=kind
 w3:∀b kind fl,kU (WC P n b kind (f0 fl true)).1=some (n.tG,n.tU,pt b 0)
 w4:∀b kind fl,bb (WA P n b kind (f0 fl true)).1=some (n.acq,[pt b 0])/\(WA P n b kind (f0 fl true)).1.kind=kind
 w5:∀b kind fl,kE (WB P n b kind (f0 fl true)).1 n.wait=true/\(WB P n b kind (f0 fl true)).2=[]/\(WB P n b kind (f0 fl true)).1.kind=kind
 w6:∀b kind fl,bb (WE P n b kind (f0 fl false)).1=some (n.xB,[pt b 0,.eC 0,.eC 1])/\vM (WE P n b kind (f0 fl false))=true
 w7:∀b kind fl,G1 [5] [[0]] (next P (f0 fl false) (WE P n b kind (f0 fl false)) ff)=W1 P n b kind
 w8:∀b kind fl,kU (W3 P n b kind (f0 fl false)).1=some (n.tS,n.tU,pt b 1)
 w9:∀b kind fl,bb (RF P n b kind (f0 fl false)).1=some (n.wr,[pt b 1])/\(RF P n b kind (f0 fl false)).1.kind=kind
 wa:∀b kind fl,bb (W4 P n b kind (f0 fl false)).1=some (n.Fo,[pt b 1,ff])/\(W4 P n b kind (f0 fl false)).1.kind=kind
 wb:∀b kind fl,bb (W5 P n b kind (f0 fl false)).1=some (n.vC,[pt b 0])/\vM (W5 P n b kind (f0 fl false))=true
 wc:∀b kind fl,bb (RG P n b kind (f0 fl false)).1=some (n.en,[])/\(RG P n b kind (f0 fl false)).1.kind=kind
 wd:∀b kind fl,kU (Tn P n b kind (f0 fl false)).1=some (n.tG,n.tU,pt b 0)
 we:∀b kind fl,bb (RH P n b kind (f0 fl false)).1=some (n.acq,[pt b 0])/\(RH P n b kind (f0 fl false)).1.kind=kind
 wf:∀b kind fl,kE (PC P n b kind (f0 fl false)).1 n.wait=true/\(PC P n b kind (f0 fl false)).2=[]/\(PC P n b kind (f0 fl false)).1.kind=kind
structure ll(P:Program)(n:JE):Prop where
 ju:Ext P n.ju (λ_=>do mark .disable;pure Extern.Race.none_)
 en:Ext P n.en (λ_=>do mark .enable;pure Extern.Race.none_)
 acq:Ext P n.acq (Extern.Race.marked .acquire)
 rel:Ext P n.rel (Extern.Race.marked .releaseMerge)
 rd:Ext P n.rd (Extern.Race.marked .read)
 wr:Ext P n.wr (Extern.Race.marked .write)
 Ow:Ext P n.Ow (λ_=>pure (.bool false))
 sU:Ext P n.sU (Extern.Atomic.update (Op.intArith .add) .u64 true)
 vC:Ext P n.vC (Extern.Atomic.loadT (.int .u64))
 Ie:Ext P n.Ie Extern.Atomic.storeT
 xB:Ext P n.xB (Extern.Atomic.casT (.int .u64))
 Fo:Ext P n.Fo Extern.Sync.semacquire
 oH:Ext P n.oH Extern.Sync.semrelease
 Wu:∃t,P.underlying n.tG=some (.pointer t)/\P.underlying n.tU=some .unsafePointer/\(P.info? t).map (λi=>decide (i.size=0))=some false
 Wv:∃t,P.underlying n.tS=some (.pointer t)/\P.underlying n.tU=some .unsafePointer/\(P.info? t).map (λi=>decide (i.size=0))=some false
 Qx:∃fn body,P.funcs[n.add]?=some fn/\fn.body=some body/\fn.ntmps=117/\fn.results=#[]
 K6:∃fn body,P.funcs[n.done]?=some fn/\fn.body=some body/\fn.ntmps=4/\fn.results=#[]
 K7:∃fn body,P.funcs[n.wait]?=some fn/\fn.body=some body/\fn.ntmps=84/\fn.results=#[]
end Go.bd
