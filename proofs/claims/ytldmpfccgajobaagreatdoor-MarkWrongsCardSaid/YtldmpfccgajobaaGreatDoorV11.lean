import Derived.Conc.DeferLaws
import Derived.Conc.AtomicLaws
import Derived.Test.YtldmpfccgajobaaGreatDoorV10
set_option linter.all false
namespace Go.bG
open Go.Conc
def oR (s:iq):Option FuncId:=
 match s.mode,s.defers with
 | .ret,[{ target:=.fn (.func g) cap,args:=as }]=>if cap=#[]∧as=#[] then some g else none
 | _,_=>none
def iW(s:iq)(f:FuncId):Bool:=(match s.mode with|.ret=>true|.run=>false) && s.defers.isEmpty && s.fn==f
section
variable{P:Program}{Wd:World->Prop}{main:Bool}{y:Sy}{s:iq}{fr:Frame}{f:FuncId}{svs:List SV}{cs:List Frame}{w:World}
theorem xY (q:FR y s fr) (h:oR s=some f) (r:Ext P f (fun _=>do mark .enable;pure Extern.Race.none_)) :
 stepG P main (G fr cs) w = .go (G { fr with defers:=[] } cs) w #[⟨.mark .enable,false,true⟩]∧FR y { s with defers:=[] } { fr with defers:=[] }:=by
 obtain⟨fn,tmps,todo,defs,mode,kind,ro⟩:=fr;obtain⟨i,j,d,c,k,l,m,n⟩:=q;simp only at i j d c k l m n;subst l;unfold oR at h;split at h
 . rename_i g cap as o hd
   split at h
   . rename_i e
     obtain⟨rfl,rfl⟩:=e;simp only[Option.some.injEq] at h;subst h;rw[o] at c;have c:mode = .returning:=c;subst c;rw[hd] at d;subst d;obtain⟨t,u,z,A,B,C⟩:=r.ex;refine⟨?_,⟨i,j,rfl,by rw[o];rfl,k,rfl,m,n⟩⟩
     exact stepG_unwind_entry (P:=P) (main:=main) (b:=⟨fn,tmps,todo,[],.returning,kind,none⟩) (a:=⟨tmps,[{ target:=.fn (.func g) #[],args:=#[] }]⟩) (todo:=todo) (cs:=cs) (w:=w) (ds:=[]) (f:=g) (args:=#[]) (v:=.tuple #[]) rfl u z A B C (by simp[Extern.Race.none_]) (by simp) (by
      intro x p;simp at p;subst p;exact⟨rfl,fun g h=>by cases h⟩)
   . cases h
 . cases h
theorem jI{fn:Func}{c:Frame}{rest:List Frame}(q:FR y s fr)(h:iW s f=true)(k:P.funcs[f]?=some fn)(a:fn.results=#[])(l:s.kind≠.early):oP P Wd (G fr (c::rest)) (jj s.kind c rest (.tuple #[])):=by
 obtain⟨r,tmps,todo,defs,mode,kind,ro⟩:=fr;obtain⟨m,t,i,d,n,o,u,v⟩:=q;simp only at m t i d n o u v;subst o;unfold iW at h;simp only[Bool.and_eq_true,beq_iff_eq,List.isEmpty_iff]at h;obtain⟨⟨p,hd⟩,rfl⟩:=h
 have j:s.mode=.ret:=by
  cases e:s.mode with
  |ret=>rfl
  |run=>rw[e]at p;cases p
 rw[j]at d;have d:mode=.returning:=d;subst d;rw[hd]at i;subst i;subst m;subst n;have b:∀w:World,(results fn tmps).run P w=.ok (.tuple #[]) w:=λw=>by simp[results,a]
 have g:∀w:World,(results fn tmps).events P w #[]=#[]:=λw=>by simp[results,a]
 refine⟨rfl,λmain w _=>?_⟩;generalize s.kind=kd at l ⊢
 cases kd<;>first
  |exact absurd rfl l
  |(simp[G,stepG,unwind,k,b,g,doReturn,GStep.after,jj,jD,fe];done)
  |(simp[G,stepG,unwind,k,b,g,doReturn,GStep.after,jj,jD,fe];rfl)
theorem qO {ad:Addr} {v:Int} (c:FR y s fr) (h:aM s=some (f,[.lit (.pointer (some ad))])) (d:s.kind ≠ .early) (e:Ext P f (Extern.Atomic.loadT (.int .u64))) (g:w.cell? ad=some (.int .u64 v)) :
 stepG P main (G fr cs) w = .go (G (fr.finish (.int .u64 v)) cs) w #[⟨.cell ad,false,true⟩]:=by
 obtain⟨ops,i,rest,kk,o,as,j,k,l,m,n,p,q⟩:=cx c h;obtain⟨fn,r,t,u,z,A⟩:=e.ex;obtain⟨x,rfl,B⟩:=Gr n;have:=stepG_load_atomic (P:=P) (main:=main) (b:=fr) (a:=⟨fr.tmps,fr.defers⟩) (kk:=kk) (cs:=cs) (w:=w) (rest:=rest) k l (by rw[c.kind];exact d) m r t u z .u64 A (fV c B) g
 rw[q,← p] at this;exact this
theorem DQ {ad:Addr} {v:Int} {u:Value} (c:FR y s fr) (h:aM s=some (f,[.lit (.pointer (some ad)),.lit (.int .u64 v)])) (e:s.kind ≠ .early) (g:Ext P f Extern.Atomic.storeT) (j:w.cell? ad=some u) (k:w.frozen? ad=false) :
 stepG P main (G fr cs) w = .go (G (fr.finish (.tuple #[])) cs) (w.setCell ad (.int .u64 v)) #[⟨.cell ad,true,true⟩]:=by
 obtain⟨ops,i,rest,kk,o,as,l,m,n,p,q,r,t⟩:=cx c h;obtain⟨fn,A,B,C,D,E⟩:=g.ex;obtain⟨x,z,rfl,F,d⟩:=Gq q;have:=stepG_store_atomic (P:=P) (main:=main) (b:=fr) (a:=⟨fr.tmps,fr.defers⟩) (kk:=kk) (cs:=cs) (w:=w) (rest:=rest) m n (by rw[c.kind];exact e) p A B C D E (fV c F) (fV c d) j k
 rw[t,← r] at this;exact this
end
structure FJ where
 add:Nat
 done:Nat
 wait:Nat
 gY:Nat
 en:Nat
 acq:Nat
 rel:Nat
 rd:Nat
 wr:Nat
 JI:Nat
 pK:Nat
 sF:Nat
 DR:Nat
 t7:Nat
 Bo:Nat
 mf:Nat
 tG:Nat
 tU:Nat
 tS:Nat
def u64(n:Int):SV:=.lit (.int .u64 n)
def oo:List iq->List (List Nat)->List iq
 |[],_=>[]
 |s::st,[]=>keep [] s::oo st []
 |s::st,l::ls=>keep l s::oo st ls
def CX(live:List Nat)(a:List (List Nat))(c:bT):bT:=(keep live c.1,oo c.2 a)
section
variable(P:Program)(n:FJ)(b:Nat)(kind:CallKind)(fl:Fl)
def A0:bT:=sgo P jH 400 (cQ P n.add [pt b 0,i64 1] kind) []
def A1:bT:=next P jH (A0 P n b kind) un
def A2:bT:=next P jH (A1 P n b kind) ff
def A3:bT:=next P fl (A2 P n b kind) (.dm 0)
def A4:bT:=next P fl (A3 P n b kind fl) (pt b 1)
def A5:bT:=next P fl (A4 P n b kind fl) un
def D0:bT:=sgo P jH 400 (cQ P n.done [pt b 0] .deferred) []
def D1:bT:=next P jH (D0 P n b) (pt b 0)
def D2:bT:=next P jH (D1 P n b) un
def D3:bT:=next P jH (D2 P n b) un
def D4:bT:=next P jH (D3 P n b) ff
def DE(w:Nat):bT:=next P fl (D4 P n b) (.dm w)
def D6:bT:=next P fl (DE P n b fl 1) (.dm 1)
def D7:bT:=next P fl (D6 P n b fl) un
def D8:bT:=next P fl (D7 P n b fl) un
def kh(c:bT):bT:=sgo P fl 400 {c.1 with defers:=[]} c.2
def W0:bT:=CX [0] [] (sgo P jH 400 (cQ P n.wait [pt b 0] kind) [])
def W1:bT:=CX [5] [[0]] (next P jH (W0 P n b kind) un)
def WE:bT:=next P fl (W1 P n b kind) (.dm 0)
def WC:bT:=next P fl (WE P n b kind fl) un
def WA:bT:=next P fl (WC P n b kind fl) (pt b 0)
def WB:bT:=next P fl (WA P n b kind fl) un
def W3:bT:=next P fl (WE P n b kind fl) tt
def M9:bT:=next P fl (W3 P n b kind fl) (pt b 1)
def W4:bT:=next P fl (M9 P n b kind fl) un
def W5:bT:=next P fl (W4 P n b kind fl) un
def Na:bT:=next P fl (W5 P n b kind fl) (u64 0)
def N8:bT:=next P fl (Na P n b kind fl) un
def Nb:bT:=next P fl (N8 P n b kind fl) (pt b 0)
def K9:bT:=next P fl (Nb P n b kind fl) un
end
def f1(fl:Fl)(x:Bool):Fl:={fl with c1:=x}
def f0(fl:Fl)(x:Bool):Fl:={fl with c0:=x}
def sO(c:bT):Bool:=c.1.kind==.normal
structure iu(P:Program)(n:FJ):Prop where
 a0:∀b kind,aM (A0 P n b kind).1=some (n.gY,[])/\(A0 P n b kind).1.env.all plain=true/\(A0 P n b kind).2=[]/\(A0 P n b kind).1.kind=kind
 a1:∀b kind,aM (A1 P n b kind).1=some (n.JI,[])/\(A1 P n b kind).1.env.all plain=true/\(A1 P n b kind).2=[]/\(A1 P n b kind).1.kind=kind
 a2:∀b kind,aM (A2 P n b kind).1=some (n.pK,[pt b 0,u64 4294967296])/\sO (A2 P n b kind)=true/\(A2 P n b kind).1.env.all plain=true/\(A2 P n b kind).2.all (·.env.all plain)=true
 a3:∀b kind fl,jn (A3 P n b kind (f1 fl true)).1=some (n.tS,n.tU,pt b 1)
 a4:∀b kind fl,aM (A4 P n b kind (f1 fl true)).1=some (n.rd,[pt b 1])/\(A4 P n b kind (f1 fl true)).1.kind=kind
 a5:∀b kind fl,oR (A5 P n b kind (f0 (f1 fl true) false)).1=some n.en/\(A5 P n b kind (f0 (f1 fl true) false)).2=[]/\(A5 P n b kind (f0 (f1 fl true) false)).1.kind=kind/\(A5 P n b kind (f0 (f1 fl true) false)).1.fn=n.add
 a6:∀b kind fl,oR (A3 P n b kind (f0 (f1 fl false) false)).1=some n.en/\(A3 P n b kind (f0 (f1 fl false) false)).2=[]/\(A3 P n b kind (f0 (f1 fl false) false)).1.kind=kind/\(A3 P n b kind (f0 (f1 fl false) false)).1.fn=n.add
 d0:∀b,jn (D0 P n b).1=some (n.tG,n.tU,pt b 0)/\(D0 P n b).1.env.all plain=true/\(D0 P n b).2.all (·.env.all plain)=true
 d1:∀b,aM (D1 P n b).1=some (n.rel,[pt b 0])/\sO (D1 P n b)=true/\(D1 P n b).1.env.all plain=true/\(D1 P n b).2.all (·.env.all plain)=true
 d2:∀b,aM (D2 P n b).1=some (n.gY,[])/\sO (D2 P n b)=true/\(D2 P n b).1.env.all plain=true/\(D2 P n b).2.all (·.env.all plain)=true
 d3:∀b,aM (D3 P n b).1=some (n.JI,[])/\sO (D3 P n b)=true/\(D3 P n b).1.env.all plain=true/\(D3 P n b).2.all (·.env.all plain)=true
 d4:∀b,aM (D4 P n b).1=some (n.pK,[pt b 0,u64 18446744069414584320])/\sO (D4 P n b)=true/\(D4 P n b).1.env.all plain=true/\(D4 P n b).2.all (·.env.all plain)=true
 d5:∀b fl x,oR (DE P n b (f0 fl x) 0).1=some n.en
 Rh:∀b fl x,iW (kh P (f0 fl x) (DE P n b (f0 fl x) 0)).1 n.done=true/\(kh P (f0 fl x) (DE P n b (f0 fl x) 0)).2=[]/\(kh P (f0 fl x) (DE P n b (f0 fl x) 0)).1.kind=.deferred
 d6:∀b fl,oR (DE P n b (f0 fl false) 1).1=some n.en
 Rk:∀b fl,iW (kh P (f0 fl false) (DE P n b (f0 fl false) 1)).1 n.done=true/\(kh P (f0 fl false) (DE P n b (f0 fl false) 1)).2=[]/\(kh P (f0 fl false) (DE P n b (f0 fl false) 1)).1.kind=.deferred
 d7:∀b fl,aM (DE P n b (f0 fl true) 1).1=some (n.sF,[pt b 0])/\sO (DE P n b (f0 fl true) 1)=true
 d8:∀b fl,aM (D6 P n b (f0 fl true)).1=some (n.DR,[pt b 0,u64 0])/\sO (D6 P n b (f0 fl true))=true
 d9:∀b fl,aM (D7 P n b (f0 fl true)).1=some (n.mf,[pt b 1,ff,i64 0])/\sO (D7 P n b (f0 fl true))=true
 da:∀b fl,oR (D8 P n b (f0 fl true)).1=some n.en
 db:∀b fl,iW (kh P (f0 fl true) (D8 P n b (f0 fl true))).1 n.done=true/\(kh P (f0 fl true) (D8 P n b (f0 fl true))).2=[]/\(kh P (f0 fl true) (D8 P n b (f0 fl true))).1.kind=.deferred
 w0:∀b kind,aM (W0 P n b kind).1=some (n.gY,[])/\(W0 P n b kind).1.env.all plain=true/\(W0 P n b kind).2=[]/\(W0 P n b kind).1.kind=kind
 w1:∀b kind,aM (W1 P n b kind).1=some (n.sF,[pt b 0])/\sO (W1 P n b kind)=true/\(W1 P n b kind).1.env.all plain=true/\(W1 P n b kind).2.all (·.env.all plain)=true
 w2:∀b kind fl,aM (WE P n b kind (f0 fl true)).1=some (n.en,[])/\(WE P n b kind (f0 fl true)).1.kind=kind
 w3:∀b kind fl,jn (WC P n b kind (f0 fl true)).1=some (n.tG,n.tU,pt b 0)
 w4:∀b kind fl,aM (WA P n b kind (f0 fl true)).1=some (n.acq,[pt b 0])/\(WA P n b kind (f0 fl true)).1.kind=kind
 w5:∀b kind fl,iW (WB P n b kind (f0 fl true)).1 n.wait=true/\(WB P n b kind (f0 fl true)).2=[]/\(WB P n b kind (f0 fl true)).1.kind=kind
 w6:∀b kind fl,aM (WE P n b kind (f0 fl false)).1=some (n.t7,[pt b 0,.dm 0,.dm 1])/\sO (WE P n b kind (f0 fl false))=true
 w7:∀b kind fl,CX [5] [[0]] (next P (f0 fl false) (WE P n b kind (f0 fl false)) ff)=W1 P n b kind
 w8:∀b kind fl,jn (W3 P n b kind (f0 fl false)).1=some (n.tS,n.tU,pt b 1)
 w9:∀b kind fl,aM (M9 P n b kind (f0 fl false)).1=some (n.wr,[pt b 1])/\(M9 P n b kind (f0 fl false)).1.kind=kind
 wa:∀b kind fl,aM (W4 P n b kind (f0 fl false)).1=some (n.Bo,[pt b 1,ff])/\(W4 P n b kind (f0 fl false)).1.kind=kind
 wb:∀b kind fl,aM (W5 P n b kind (f0 fl false)).1=some (n.sF,[pt b 0])/\sO (W5 P n b kind (f0 fl false))=true
 wc:∀b kind fl,aM (Na P n b kind (f0 fl false)).1=some (n.en,[])/\(Na P n b kind (f0 fl false)).1.kind=kind
 wd:∀b kind fl,jn (N8 P n b kind (f0 fl false)).1=some (n.tG,n.tU,pt b 0)
 we:∀b kind fl,aM (Nb P n b kind (f0 fl false)).1=some (n.acq,[pt b 0])/\(Nb P n b kind (f0 fl false)).1.kind=kind
 wf:∀b kind fl,iW (K9 P n b kind (f0 fl false)).1 n.wait=true/\(K9 P n b kind (f0 fl false)).2=[]/\(K9 P n b kind (f0 fl false)).1.kind=kind
structure jt(P:Program)(n:FJ):Prop where
 gY:Ext P n.gY (λ_=>do mark .disable;pure Extern.Race.none_)
 en:Ext P n.en (λ_=>do mark .enable;pure Extern.Race.none_)
 acq:Ext P n.acq (Extern.Race.marked .acquire)
 rel:Ext P n.rel (Extern.Race.marked .releaseMerge)
 rd:Ext P n.rd (Extern.Race.marked .read)
 wr:Ext P n.wr (Extern.Race.marked .write)
 JI:Ext P n.JI (λ_=>pure (.bool false))
 pK:Ext P n.pK (Extern.Atomic.update (Op.intArith .add) .u64 true)
 sF:Ext P n.sF (Extern.Atomic.loadT (.int .u64))
 DR:Ext P n.DR Extern.Atomic.storeT
 t7:Ext P n.t7 (Extern.Atomic.casT (.int .u64))
 Bo:Ext P n.Bo Extern.Sync.semacquire
 mf:Ext P n.mf Extern.Sync.semrelease
 Rl:∃t,P.underlying n.tG=some (.pointer t)/\P.underlying n.tU=some .unsafePointer/\(P.info? t).map (λi=>decide (i.size=0))=some false
 Rm:∃t,P.underlying n.tS=some (.pointer t)/\P.underlying n.tU=some .unsafePointer/\(P.info? t).map (λi=>decide (i.size=0))=some false
 LN:∃fn body,P.funcs[n.add]?=some fn/\fn.body=some body/\fn.ntmps=117/\fn.results=#[]
 GF:∃fn body,P.funcs[n.done]?=some fn/\fn.body=some body/\fn.ntmps=4/\fn.results=#[]
 GG:∃fn body,P.funcs[n.wait]?=some fn/\fn.body=some body/\fn.ntmps=84/\fn.results=#[]
end Go.bG
