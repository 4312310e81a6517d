import Derived.Conc.DeferLaws
import Derived.Conc.AtomicLaws
import Derived.Test.YtebcbkhnlnkolaaGreatDoorC7
set_option linter.all false
namespace Go.bU
open Go.Conc
def sW (s:qx):Option FuncId:=
 match s.mode,s.defers with
 | .ret,[{ target:=.fn (.func g) cap,args:=as }]=>if cap=#[]∧as=#[] then some g else none
 | _,_=>none
def kX(s:qx)(f:FuncId):Bool:=(match s.mode with|.ret=>true|.run=>false) && s.defers.isEmpty && s.fn==f
section
variable{P:adY}{Wd:adF}{main:Bool}{y:Sy}{s:qx}{fr:Frame}{f:FuncId}{svs:List SV}{cs:adK}{w:World}
def CU (p:FR y s fr) (h:sW s=some f) (q:Ext P f (fun _=>do mark .enable;pure Extern.Race.none_)) :
 stepG P main (G fr cs) w = .go (G { fr with defers:=[] } cs) w #[⟨.mark .enable,false,true⟩]∧FR y { s with defers:=[] } { fr with defers:=[] }:=by
 obtain⟨fn,tmps,todo,defs,mode,kind,ro⟩:=fr;obtain⟨i,j,d,c,k,l,m,n⟩:=p;simp only at i j d c k l m n;subst l;unfold sW at h;split at h
 . rename_i g cap as o hd
   split at h
   . rename_i e
     obtain⟨rfl,rfl⟩:=e;simp only[kn] at h;subst h;rw[o] at c;have c:mode = .returning:=c;subst c;rw[hd] at d;subst d;obtain⟨r,t,u,x,z,A⟩:=q.ex;refine⟨?_,⟨i,j,rfl,by rw[o];rfl,k,rfl,m,n⟩⟩
     exact stepG_unwind_entry (P:=P) (main:=main) (b:=⟨fn,tmps,todo,[],.returning,kind,none⟩) (a:=⟨tmps,[{ target:=.fn (.func g) #[],args:=#[] }]⟩) (todo:=todo) (cs:=cs) (w:=w) (ds:=[]) (f:=g) (args:=#[]) (v:=.tuple #[]) rfl t u x z A (by simp[Extern.Race.none_]) (by simp) (by
      simp_all)
   . cases h
 . cases h
def mc{fn c rest}(o:FR y s fr)(h:kX s f=true)(j:P.funcs[f]?=some fn)(a:fn.results=#[])(k:s.kind≠.early):tX P Wd (G fr (c::rest)) (kT s.kind c rest (.tuple #[])):=by
 obtain⟨p,tmps,todo,defs,mode,kind,ro⟩:=fr;obtain⟨l,q,g,d,m,n,r,t⟩:=o;simp only at l q g d m n r t;subst n;unfold kX at h;simp only[za,ach,List.isEmpty_iff]at h;obtain⟨⟨u,hd⟩,rfl⟩:=h;have i:s.mode=.ret:=by grind
 rw[i]at d;have d:mode=.returning:=d;subst d;rw[hd]at g;subst g;subst l;subst m;have b:∀w:World,(results fn tmps).run P w=.ok (.tuple #[]) w:=λw=>by simp[results,a]
 have e:∀w:World,(results fn tmps).events P w #[]=#[]:=λw=>by simp[results,a]
 refine⟨rfl,λmain w _=>?_⟩;generalize s.kind=kd at k ⊢
 cases kd<;>first
  |exact absurd rfl k
  |(simp[G,stepG,unwind,j,b,e,doReturn,GStep.after,kT,lZ,iA];done)
  |(simp[G,stepG,unwind,j,b,e,doReturn,GStep.after,kT,lZ,iA];rfl)
def vq {ad v} (c:FR y s fr) (h:bj s=some (f,[.lit (.pointer (some ad))])) (d:s.kind ≠ .early) (e:Ext P f (Extern.Atomic.loadT (.int .u64))) (g:w.cell? ad=some (.int .u64 v)) :
 stepG P main (G fr cs) w = .go (G (fr.finish (.int .u64 v)) cs) w #[⟨.cell ad,false,true⟩]:=by
 obtain⟨ops,i,rest,kk,o,as,j,k,l,m,n,A,B⟩:=dF c h;obtain⟨fn,p,q,r,t,u⟩:=e.ex;obtain⟨x,rfl,z⟩:=Mp n;have:=stepG_load_atomic (P:=P) (main:=main) (b:=fr) (a:=⟨fr.tmps,fr.defers⟩) (kk:=kk) (cs:=cs) (w:=w) (rest:=rest) k l (by rw[c.kind];exact d) m p q r t .u64 u (js c z) g
 grind
def JE {ad v u} (c:FR y s fr) (h:bj s=some (f,[.lit (.pointer (some ad)),.lit (.int .u64 v)])) (e:s.kind ≠ .early) (g:Ext P f Extern.Atomic.storeT) (j:w.cell? ad=some u) (k:w.frozen? ad=false) :
 stepG P main (G fr cs) w = .go (G (fr.finish (.tuple #[])) cs) (w.setCell ad (.int .u64 v)) #[⟨.cell ad,true,true⟩]:=by
 obtain⟨ops,i,rest,kk,o,as,l,m,n,p,q,E,F⟩:=dF c h;obtain⟨fn,r,t,A,B,C⟩:=g.ex;obtain⟨x,z,rfl,D,d⟩:=Mn q;have:=stepG_store_atomic (P:=P) (main:=main) (b:=fr) (a:=⟨fr.tmps,fr.defers⟩) (kk:=kk) (cs:=cs) (w:=w) (rest:=rest) m n (by rw[c.kind];exact e) p r t A B C (js c D) (js c d) j k
 grind
end
structure Qp where
 add:Nat
 done:Nat
 wait:Nat
 j7:Nat
 en:Nat
 acq:Nat
 rel:Nat
 rd:Nat
 wr:Nat
 Qq:Nat
 uf:Nat
 xc:Nat
 JF:Nat
 yQ:Nat
 GG:Nat
 pJ:Nat
 tG:Nat
 tU:Nat
 tS:Nat
def u64(n:Int):SV:=.lit (.int .u64 n)
def sz:List qx->List adR->List qx
 |[],_=>[]
 |s::st,[]=>keep [] s::sz st []
 |s::st,l::ls=>keep l s::sz st ls
def Ix(live:adR)(a:List adR)(c:dc):dc:=(keep live c.1,sz c.2 a)
section
variable(P:adY)(n:Qp)(b:Nat)(kind:adU)(fl:Fl)
def A0:dc:=sgo P ma 400 (dX P n.add [pt b 0,i64 1] kind) []
def A1:dc:=next P ma (A0 P n b kind) un
def A2:dc:=next P ma (A1 P n b kind) ff
def A3:dc:=next P fl (A2 P n b kind) (.fh 0)
def A4:dc:=next P fl (A3 P n b kind fl) (pt b 1)
def A5:dc:=next P fl (A4 P n b kind fl) un
def D0:dc:=sgo P ma 400 (dX P n.done [pt b 0] .deferred) []
def D1:dc:=next P ma (D0 P n b) (pt b 0)
def D2:dc:=next P ma (D1 P n b) un
def D3:dc:=next P ma (D2 P n b) un
def D4:dc:=next P ma (D3 P n b) ff
def DE(w:Nat):dc:=next P fl (D4 P n b) (.fh w)
def D6:dc:=next P fl (DE P n b fl 1) (.fh 1)
def D7:dc:=next P fl (D6 P n b fl) un
def D8:dc:=next P fl (D7 P n b fl) un
def nf(c:dc):dc:=sgo P fl 400 {c.1 with defers:=[]} c.2
def W0:dc:=Ix [0] [] (sgo P ma 400 (dX P n.wait [pt b 0] kind) [])
def W1:dc:=Ix [5] [[0]] (next P ma (W0 P n b kind) un)
def WE:dc:=next P fl (W1 P n b kind) (.fh 0)
def WC:dc:=next P fl (WE P n b kind fl) un
def WA:dc:=next P fl (WC P n b kind fl) (pt b 0)
def WB:dc:=next P fl (WA P n b kind fl) un
def W3:dc:=next P fl (WE P n b kind fl) tt
def Uj:dc:=next P fl (W3 P n b kind fl) (pt b 1)
def W4:dc:=next P fl (Uj P n b kind fl) un
def W5:dc:=next P fl (W4 P n b kind fl) un
def Uk:dc:=next P fl (W5 P n b kind fl) (u64 0)
def VC:dc:=next P fl (Uk P n b kind fl) un
def Ul:dc:=next P fl (VC P n b kind fl) (pt b 0)
def RQ:dc:=next P fl (Ul P n b kind fl) un
end
def f1(fl:Fl)(x:Bool):Fl:={fl with c1:=x}
def f0(fl:Fl)(x:Bool):Fl:={fl with c0:=x}
def xD(c:dc):Bool:=c.1.kind==.normal
structure iC  P   n :Prop where
 a0:∀b kind,bj (A0 P n b kind).1=some (n.j7,[])/\(A0 P n b kind).1.env.all plain=true/\(A0 P n b kind).2=[]/\(A0 P n b kind).1.kind=kind
 a1:∀b kind,bj (A1 P n b kind).1=some (n.Qq,[])/\(A1 P n b kind).1.env.all plain=true/\(A1 P n b kind).2=[]/\(A1 P n b kind).1.kind=kind
 a2:∀b kind,bj (A2 P n b kind).1=some (n.uf,[pt b 0,u64 4294967296])/\xD (A2 P n b kind)=true/\(A2 P n b kind).1.env.all plain=true/\(A2 P n b kind).2.all (·.env.all plain)=true
 a3:∀b kind fl,lD (A3 P n b kind (f1 fl true)).1=some (n.tS,n.tU,pt b 1)
 a4:∀b kind fl,bj (A4 P n b kind (f1 fl true)).1=some (n.rd,[pt b 1])/\(A4 P n b kind (f1 fl true)).1.kind=kind
 a5:∀b kind fl,sW (A5 P n b kind (f0 (f1 fl true) false)).1=some n.en/\(A5 P n b kind (f0 (f1 fl true) false)).2=[]/\(A5 P n b kind (f0 (f1 fl true) false)).1.kind=kind/\(A5 P n b kind (f0 (f1 fl true) false)).1.fn=n.add
 a6:∀b kind fl,sW (A3 P n b kind (f0 (f1 fl false) false)).1=some n.en/\(A3 P n b kind (f0 (f1 fl false) false)).2=[]/\(A3 P n b kind (f0 (f1 fl false) false)).1.kind=kind/\(A3 P n b kind (f0 (f1 fl false) false)).1.fn=n.add
 d0:∀b,lD (D0 P n b).1=some (n.tG,n.tU,pt b 0)/\(D0 P n b).1.env.all plain=true/\(D0 P n b).2.all (·.env.all plain)=true
 d1:∀b,bj (D1 P n b).1=some (n.rel,[pt b 0])/\xD (D1 P n b)=true/\(D1 P n b).1.env.all plain=true/\(D1 P n b).2.all (·.env.all plain)=true
 d2:∀b,bj (D2 P n b).1=some (n.j7,[])/\xD (D2 P n b)=true/\(D2 P n b).1.env.all plain=true/\(D2 P n b).2.all (·.env.all plain)=true
 d3:∀b,bj (D3 P n b).1=some (n.Qq,[])/\xD (D3 P n b)=true/\(D3 P n b).1.env.all plain=true/\(D3 P n b).2.all (·.env.all plain)=true
 d4:∀b,bj (D4 P n b).1=some (n.uf,[pt b 0,u64 18446744069414584320])/\xD (D4 P n b)=true/\(D4 P n b).1.env.all plain=true/\(D4 P n b).2.all (·.env.all plain)=true
 d5:∀b fl x,sW (DE P n b (f0 fl x) 0).1=some n.en
 Y7:∀b fl x,kX (nf P (f0 fl x) (DE P n b (f0 fl x) 0)).1 n.done=true/\(nf P (f0 fl x) (DE P n b (f0 fl x) 0)).2=[]/\(nf P (f0 fl x) (DE P n b (f0 fl x) 0)).1.kind=.deferred
 d6:∀b fl,sW (DE P n b (f0 fl false) 1).1=some n.en
 Y8:∀b fl,kX (nf P (f0 fl false) (DE P n b (f0 fl false) 1)).1 n.done=true/\(nf P (f0 fl false) (DE P n b (f0 fl false) 1)).2=[]/\(nf P (f0 fl false) (DE P n b (f0 fl false) 1)).1.kind=.deferred
 d7:∀b fl,bj (DE P n b (f0 fl true) 1).1=some (n.xc,[pt b 0])/\xD (DE P n b (f0 fl true) 1)=true
 d8:∀b fl,bj (D6 P n b (f0 fl true)).1=some (n.JF,[pt b 0,u64 0])/\xD (D6 P n b (f0 fl true))=true
 d9:∀b fl,bj (D7 P n b (f0 fl true)).1=some (n.pJ,[pt b 1,ff,i64 0])/\xD (D7 P n b (f0 fl true))=true
 da:∀b fl,sW (D8 P n b (f0 fl true)).1=some n.en
 db:∀b fl,kX (nf P (f0 fl true) (D8 P n b (f0 fl true))).1 n.done=true/\(nf P (f0 fl true) (D8 P n b (f0 fl true))).2=[]/\(nf P (f0 fl true) (D8 P n b (f0 fl true))).1.kind=.deferred
 w0:∀b kind,bj (W0 P n b kind).1=some (n.j7,[])/\(W0 P n b kind).1.env.all plain=true/\(W0 P n b kind).2=[]/\(W0 P n b kind).1.kind=kind
 w1:∀b kind,bj (W1 P n b kind).1=some (n.xc,[pt b 0])/\xD (W1 P n b kind)=true/\(W1 P n b kind).1.env.all plain=true/\(W1 P n b kind).2.all (·.env.all plain)=true
 w2:∀b kind fl,bj (WE P n b kind (f0 fl true)).1=some (n.en,[])/\(WE P n b kind (f0 fl true)).1.kind=kind
 w3:∀b kind fl,lD (WC P n b kind (f0 fl true)).1=some (n.tG,n.tU,pt b 0)
 w4:∀b kind fl,bj (WA P n b kind (f0 fl true)).1=some (n.acq,[pt b 0])/\(WA P n b kind (f0 fl true)).1.kind=kind
 w5:∀b kind fl,kX (WB P n b kind (f0 fl true)).1 n.wait=true/\(WB P n b kind (f0 fl true)).2=[]/\(WB P n b kind (f0 fl true)).1.kind=kind
 w6:∀b kind fl,bj (WE P n b kind (f0 fl false)).1=some (n.yQ,[pt b 0,.fh 0,.fh 1])/\xD (WE P n b kind (f0 fl false))=true
 w7:∀b kind fl,Ix [5] [[0]] (next P (f0 fl false) (WE P n b kind (f0 fl false)) ff)=W1 P n b kind
 w8:∀b kind fl,lD (W3 P n b kind (f0 fl false)).1=some (n.tS,n.tU,pt b 1)
 w9:∀b kind fl,bj (Uj P n b kind (f0 fl false)).1=some (n.wr,[pt b 1])/\(Uj P n b kind (f0 fl false)).1.kind=kind
 wa:∀b kind fl,bj (W4 P n b kind (f0 fl false)).1=some (n.GG,[pt b 1,ff])/\(W4 P n b kind (f0 fl false)).1.kind=kind
 wb:∀b kind fl,bj (W5 P n b kind (f0 fl false)).1=some (n.xc,[pt b 0])/\xD (W5 P n b kind (f0 fl false))=true
 wc:∀b kind fl,bj (Uk P n b kind (f0 fl false)).1=some (n.en,[])/\(Uk P n b kind (f0 fl false)).1.kind=kind
 wd:∀b kind fl,lD (VC P n b kind (f0 fl false)).1=some (n.tG,n.tU,pt b 0)
 we:∀b kind fl,bj (Ul P n b kind (f0 fl false)).1=some (n.acq,[pt b 0])/\(Ul P n b kind (f0 fl false)).1.kind=kind
 wf:∀b kind fl,kX (RQ P n b kind (f0 fl false)).1 n.wait=true/\(RQ P n b kind (f0 fl false)).2=[]/\(RQ P n b kind (f0 fl false)).1.kind=kind
structure jg  P  (n:Qp):Prop where
 j7:Ext P n.j7 (λ_=>do mark .disable;pure Extern.Race.none_)
 en:Ext P n.en (λ_=>do mark .enable;pure Extern.Race.none_)
 acq:Ext P n.acq (Extern.Race.marked .acquire)
 rel:Ext P n.rel (Extern.Race.marked .releaseMerge)
 rd:Ext P n.rd (Extern.Race.marked .read)
 wr:Ext P n.wr (Extern.Race.marked .write)
 Qq:Ext P n.Qq (λ_=>pure (.bool false))
 uf:Ext P n.uf (Extern.Atomic.update (Op.intArith .add) .u64 true)
 xc:Ext P n.xc (Extern.Atomic.loadT (.int .u64))
 JF:Ext P n.JF Extern.Atomic.storeT
 yQ:Ext P n.yQ (Extern.Atomic.casT (.int .u64))
 GG:Ext P n.GG Extern.Sync.semacquire
 pJ:Ext P n.pJ Extern.Sync.semrelease
 Y9:∃t,P.underlying n.tG=some (.pointer t)/\P.underlying n.tU=some .unsafePointer/\(P.info? t).map (λi=>decide (i.size=0))=some false
 Y':∃t,P.underlying n.tS=some (.pointer t)/\P.underlying n.tU=some .unsafePointer/\(P.info? t).map (λi=>decide (i.size=0))=some false
 SN:∃fn body,P.funcs[n.add]?=some fn/\fn.body=some body/\fn.ntmps=117/\fn.results=#[]
 MF:∃fn body,P.funcs[n.done]?=some fn/\fn.body=some body/\fn.ntmps=4/\fn.results=#[]
 MG:∃fn body,P.funcs[n.wait]?=some fn/\fn.body=some body/\fn.ntmps=84/\fn.results=#[]
