import Derived.Conc.DeferLaws
import Derived.Conc.AtomicLaws
import Derived.Test.YtabmephejpgigaaGreatDoorC7
set_option linter.all false
namespace Go.cr
open Go.Conc
def qU (s:oB):Option FuncId:=
 match s.mode,s.defers with
 | .ret,[{ target:=.fn (.func g) cap,args:=as }]=>if cap=#[]∧as=#[] then some g else none
 | _,_=>none
def jL(s:oB)(f:FuncId):Bool:=(match s.mode with|.ret=>true|.run=>false) && s.defers.isEmpty && s.fn==f
section
variable{P:abm}{Wd:aaT}{main:Bool}{y:Sy}{s:oB}{fr:Frame}{f:FuncId}{svs:List SV}{cs:aaY}{w:World}
def Ax (p:FR y s fr) (h:qU s=some f) (q:Ext P f (fun _=>do mark .enable;pure Extern.Race.none_)) :
 stepG P main (G fr cs) w = .go (G { fr with defers:=[] } cs) w #[⟨.mark .enable,false,true⟩]∧FR y { s with defers:=[] } { fr with defers:=[] }:=by
 obtain⟨fn,tmps,todo,defs,mode,kind,ro⟩:=fr;obtain⟨i,j,d,c,k,l,m,n⟩:=p;simp only at i j d c k l m n;subst l;unfold qU at h;split at h
 . rename_i g cap as o hd
   split at h
   . rename_i e
     obtain⟨rfl,rfl⟩:=e;simp only[kn] at h;subst h;rw[o] at c;have c:mode = .returning:=c;subst c;rw[hd] at d;subst d;obtain⟨r,t,u,x,z,A⟩:=q.ex;refine⟨?_,⟨i,j,rfl,by rw[o];rfl,k,rfl,m,n⟩⟩
     exact stepG_unwind_entry (P:=P) (main:=main) (b:=⟨fn,tmps,todo,[],.returning,kind,none⟩) (a:=⟨tmps,[{ target:=.fn (.func g) #[],args:=#[] }]⟩) (todo:=todo) (cs:=cs) (w:=w) (ds:=[]) (f:=g) (args:=#[]) (v:=.tuple #[]) rfl t u x z A (by simp[Extern.Race.none_]) (by simp) (by
      simp_all)
   . cases h
 . cases h
def kO{fn c rest}(o:FR y s fr)(h:jL s f=true)(j:P.funcs[f]?=some fn)(a:fn.results=#[])(k:s.kind≠.early):rU P Wd (G fr (c::rest)) (jG s.kind c rest (.tuple #[])):=by
 obtain⟨p,tmps,todo,defs,mode,kind,ro⟩:=fr;obtain⟨l,q,g,d,m,n,r,t⟩:=o;simp only at l q g d m n r t;subst n;unfold jL at h;simp only[za,ZJ,List.isEmpty_iff]at h;obtain⟨⟨u,hd⟩,rfl⟩:=h;have i:s.mode=.ret:=by grind
 rw[i]at d;have d:mode=.returning:=d;subst d;rw[hd]at g;subst g;subst l;subst m;have b:∀w:World,(results fn tmps).run P w=.ok (.tuple #[]) w:=λw=>by simp[results,a]
 have e:∀w:World,(results fn tmps).events P w #[]=#[]:=λw=>by simp[results,a]
 refine⟨rfl,λmain w _=>?_⟩;generalize s.kind=kd at k ⊢
 cases kd<;>first
  |exact absurd rfl k
  |(simp[G,stepG,unwind,j,b,e,doReturn,GStep.after,jG,kK,fY];done)
  |(simp[G,stepG,unwind,j,b,e,doReturn,GStep.after,jG,kK,fY];rfl)
def tj {ad v} (c:FR y s fr) (h:aZ s=some (f,[.lit (.pointer (some ad))])) (d:s.kind ≠ .early) (e:Ext P f (Extern.Atomic.loadT (.int .u64))) (g:w.cell? ad=some (.int .u64 v)) :
 stepG P main (G fr cs) w = .go (G (fr.finish (.int .u64 v)) cs) w #[⟨.cell ad,false,true⟩]:=by
 obtain⟨ops,i,rest,kk,o,as,j,k,l,m,n,A,B⟩:=dg c h;obtain⟨fn,p,q,r,t,u⟩:=e.ex;obtain⟨x,rfl,z⟩:=Jq n;have:=stepG_load_atomic (P:=P) (main:=main) (b:=fr) (a:=⟨fr.tmps,fr.defers⟩) (kk:=kk) (cs:=cs) (w:=w) (rest:=rest) k l (by rw[c.kind];exact d) m p q r t .u64 u (iA c z) g
 grind
def GR {ad v u} (c:FR y s fr) (h:aZ s=some (f,[.lit (.pointer (some ad)),.lit (.int .u64 v)])) (e:s.kind ≠ .early) (g:Ext P f Extern.Atomic.storeT) (j:w.cell? ad=some u) (k:w.frozen? ad=false) :
 stepG P main (G fr cs) w = .go (G (fr.finish (.tuple #[])) cs) (w.setCell ad (.int .u64 v)) #[⟨.cell ad,true,true⟩]:=by
 obtain⟨ops,i,rest,kk,o,as,l,m,n,p,q,E,F⟩:=dg c h;obtain⟨fn,r,t,A,B,C⟩:=g.ex;obtain⟨x,z,rfl,D,d⟩:=Jp q;have:=stepG_store_atomic (P:=P) (main:=main) (b:=fr) (a:=⟨fr.tmps,fr.defers⟩) (kk:=kk) (cs:=cs) (w:=w) (rest:=rest) m n (by rw[c.kind];exact e) p r t A B C (iA c D) (iA c d) j k
 grind
end
structure Nt where
 add:Nat
 done:Nat
 wait:Nat
 jb:Nat
 en:Nat
 acq:Nat
 rel:Nat
 rd:Nat
 wr:Nat
 Nu:Nat
 rZ:Nat
 uV:Nat
 GU:Nat
 wu:Nat
 DX:Nat
 nG:Nat
 tG:Nat
 tU:Nat
 tS:Nat
def u64(n:Int):SV:=.lit (.int .u64 n)
def qy:List oB->List abf->List oB
 |[],_=>[]
 |s::st,[]=>keep [] s::qy st []
 |s::st,l::ls=>keep l s::qy st ls
def FQ(live:abf)(a:List abf)(c:cL):cL:=(keep live c.1,qy c.2 a)
section
variable(P:abm)(n:Nt)(b:Nat)(kind:abi)(fl:Fl)
def A0:cL:=sgo P kN 400 (dz P n.add [pt b 0,i64 1] kind) []
def A1:cL:=next P kN (A0 P n b kind) un
def A2:cL:=next P kN (A1 P n b kind) ff
def A3:cL:=next P fl (A2 P n b kind) (.dU 0)
def A4:cL:=next P fl (A3 P n b kind fl) (pt b 1)
def A5:cL:=next P fl (A4 P n b kind fl) un
def D0:cL:=sgo P kN 400 (dz P n.done [pt b 0] .deferred) []
def D1:cL:=next P kN (D0 P n b) (pt b 0)
def D2:cL:=next P kN (D1 P n b) un
def D3:cL:=next P kN (D2 P n b) un
def D4:cL:=next P kN (D3 P n b) ff
def DE(w:Nat):cL:=next P fl (D4 P n b) (.dU w)
def D6:cL:=next P fl (DE P n b fl 1) (.dU 1)
def D7:cL:=next P fl (D6 P n b fl) un
def D8:cL:=next P fl (D7 P n b fl) un
def lM(c:cL):cL:=sgo P fl 400 {c.1 with defers:=[]} c.2
def W0:cL:=FQ [0] [] (sgo P kN 400 (dz P n.wait [pt b 0] kind) [])
def W1:cL:=FQ [5] [[0]] (next P kN (W0 P n b kind) un)
def WE:cL:=next P fl (W1 P n b kind) (.dU 0)
def WC:cL:=next P fl (WE P n b kind fl) un
def WA:cL:=next P fl (WC P n b kind fl) (pt b 0)
def WB:cL:=next P fl (WA P n b kind fl) un
def W3:cL:=next P fl (WE P n b kind fl) tt
def Rh:cL:=next P fl (W3 P n b kind fl) (pt b 1)
def W4:cL:=next P fl (Rh P n b kind fl) un
def W5:cL:=next P fl (W4 P n b kind fl) un
def Rk:cL:=next P fl (W5 P n b kind fl) (u64 0)
def Sx:cL:=next P fl (Rk P n b kind fl) un
def Rl:cL:=next P fl (Sx P n b kind fl) (pt b 0)
def O6:cL:=next P fl (Rl P n b kind fl) un
end
def f1(fl:Fl)(x:Bool):Fl:={fl with c1:=x}
def f0(fl:Fl)(x:Bool):Fl:={fl with c0:=x}
def vh(c:cL):Bool:=c.1.kind==.normal
structure ga  P   n :Prop where
 a0:∀b kind,aZ (A0 P n b kind).1=some (n.jb,[])/\(A0 P n b kind).1.env.all plain=true/\(A0 P n b kind).2=[]/\(A0 P n b kind).1.kind=kind
 a1:∀b kind,aZ (A1 P n b kind).1=some (n.Nu,[])/\(A1 P n b kind).1.env.all plain=true/\(A1 P n b kind).2=[]/\(A1 P n b kind).1.kind=kind
 a2:∀b kind,aZ (A2 P n b kind).1=some (n.rZ,[pt b 0,u64 4294967296])/\vh (A2 P n b kind)=true/\(A2 P n b kind).1.env.all plain=true/\(A2 P n b kind).2.all (·.env.all plain)=true
 a3:∀b kind fl,j7 (A3 P n b kind (f1 fl true)).1=some (n.tS,n.tU,pt b 1)
 a4:∀b kind fl,aZ (A4 P n b kind (f1 fl true)).1=some (n.rd,[pt b 1])/\(A4 P n b kind (f1 fl true)).1.kind=kind
 a5:∀b kind fl,qU (A5 P n b kind (f0 (f1 fl true) false)).1=some n.en/\(A5 P n b kind (f0 (f1 fl true) false)).2=[]/\(A5 P n b kind (f0 (f1 fl true) false)).1.kind=kind/\(A5 P n b kind (f0 (f1 fl true) false)).1.fn=n.add
 a6:∀b kind fl,qU (A3 P n b kind (f0 (f1 fl false) false)).1=some n.en/\(A3 P n b kind (f0 (f1 fl false) false)).2=[]/\(A3 P n b kind (f0 (f1 fl false) false)).1.kind=kind/\(A3 P n b kind (f0 (f1 fl false) false)).1.fn=n.add
 d0:∀b,j7 (D0 P n b).1=some (n.tG,n.tU,pt b 0)/\(D0 P n b).1.env.all plain=true/\(D0 P n b).2.all (·.env.all plain)=true
 d1:∀b,aZ (D1 P n b).1=some (n.rel,[pt b 0])/\vh (D1 P n b)=true/\(D1 P n b).1.env.all plain=true/\(D1 P n b).2.all (·.env.all plain)=true
 d2:∀b,aZ (D2 P n b).1=some (n.jb,[])/\vh (D2 P n b)=true/\(D2 P n b).1.env.all plain=true/\(D2 P n b).2.all (·.env.all plain)=true
 d3:∀b,aZ (D3 P n b).1=some (n.Nu,[])/\vh (D3 P n b)=true/\(D3 P n b).1.env.all plain=true/\(D3 P n b).2.all (·.env.all plain)=true
 d4:∀b,aZ (D4 P n b).1=some (n.rZ,[pt b 0,u64 18446744069414584320])/\vh (D4 P n b)=true/\(D4 P n b).1.env.all plain=true/\(D4 P n b).2.all (·.env.all plain)=true
 d5:∀b fl x,qU (DE P n b (f0 fl x) 0).1=some n.en
 V6:∀b fl x,jL (lM P (f0 fl x) (DE P n b (f0 fl x) 0)).1 n.done=true/\(lM P (f0 fl x) (DE P n b (f0 fl x) 0)).2=[]/\(lM P (f0 fl x) (DE P n b (f0 fl x) 0)).1.kind=.deferred
 d6:∀b fl,qU (DE P n b (f0 fl false) 1).1=some n.en
 V7:∀b fl,jL (lM P (f0 fl false) (DE P n b (f0 fl false) 1)).1 n.done=true/\(lM P (f0 fl false) (DE P n b (f0 fl false) 1)).2=[]/\(lM P (f0 fl false) (DE P n b (f0 fl false) 1)).1.kind=.deferred
 d7:∀b fl,aZ (DE P n b (f0 fl true) 1).1=some (n.uV,[pt b 0])/\vh (DE P n b (f0 fl true) 1)=true
 d8:∀b fl,aZ (D6 P n b (f0 fl true)).1=some (n.GU,[pt b 0,u64 0])/\vh (D6 P n b (f0 fl true))=true
 d9:∀b fl,aZ (D7 P n b (f0 fl true)).1=some (n.nG,[pt b 1,ff,i64 0])/\vh (D7 P n b (f0 fl true))=true
 da:∀b fl,qU (D8 P n b (f0 fl true)).1=some n.en
 db:∀b fl,jL (lM P (f0 fl true) (D8 P n b (f0 fl true))).1 n.done=true/\(lM P (f0 fl true) (D8 P n b (f0 fl true))).2=[]/\(lM P (f0 fl true) (D8 P n b (f0 fl true))).1.kind=.deferred
 w0:∀b kind,aZ (W0 P n b kind).1=some (n.jb,[])/\(W0 P n b kind).1.env.all plain=true/\(W0 P n b kind).2=[]/\(W0 P n b kind).1.kind=kind
 w1:∀b kind,aZ (W1 P n b kind).1=some (n.uV,[pt b 0])/\vh (W1 P n b kind)=true/\(W1 P n b kind).1.env.all plain=true/\(W1 P n b kind).2.all (·.env.all plain)=true
 w2:∀b kind fl,aZ (WE P n b kind (f0 fl true)).1=some (n.en,[])/\(WE P n b kind (f0 fl true)).1.kind=kind
 w3:∀b kind fl,j7 (WC P n b kind (f0 fl true)).1=some (n.tG,n.tU,pt b 0)
 w4:∀b kind fl,aZ (WA P n b kind (f0 fl true)).1=some (n.acq,[pt b 0])/\(WA P n b kind (f0 fl true)).1.kind=kind
 w5:∀b kind fl,jL (WB P n b kind (f0 fl true)).1 n.wait=true/\(WB P n b kind (f0 fl true)).2=[]/\(WB P n b kind (f0 fl true)).1.kind=kind
 w6:∀b kind fl,aZ (WE P n b kind (f0 fl false)).1=some (n.wu,[pt b 0,.dU 0,.dU 1])/\vh (WE P n b kind (f0 fl false))=true
 w7:∀b kind fl,FQ [5] [[0]] (next P (f0 fl false) (WE P n b kind (f0 fl false)) ff)=W1 P n b kind
 w8:∀b kind fl,j7 (W3 P n b kind (f0 fl false)).1=some (n.tS,n.tU,pt b 1)
 w9:∀b kind fl,aZ (Rh P n b kind (f0 fl false)).1=some (n.wr,[pt b 1])/\(Rh P n b kind (f0 fl false)).1.kind=kind
 wa:∀b kind fl,aZ (W4 P n b kind (f0 fl false)).1=some (n.DX,[pt b 1,ff])/\(W4 P n b kind (f0 fl false)).1.kind=kind
 wb:∀b kind fl,aZ (W5 P n b kind (f0 fl false)).1=some (n.uV,[pt b 0])/\vh (W5 P n b kind (f0 fl false))=true
 wc:∀b kind fl,aZ (Rk P n b kind (f0 fl false)).1=some (n.en,[])/\(Rk P n b kind (f0 fl false)).1.kind=kind
 wd:∀b kind fl,j7 (Sx P n b kind (f0 fl false)).1=some (n.tG,n.tU,pt b 0)
 we:∀b kind fl,aZ (Rl P n b kind (f0 fl false)).1=some (n.acq,[pt b 0])/\(Rl P n b kind (f0 fl false)).1.kind=kind
 wf:∀b kind fl,jL (O6 P n b kind (f0 fl false)).1 n.wait=true/\(O6 P n b kind (f0 fl false)).2=[]/\(O6 P n b kind (f0 fl false)).1.kind=kind
structure il  P  (n:Nt):Prop where
 jb:Ext P n.jb (λ_=>do mark .disable;pure Extern.Race.none_)
 en:Ext P n.en (λ_=>do mark .enable;pure Extern.Race.none_)
 acq:Ext P n.acq (Extern.Race.marked .acquire)
 rel:Ext P n.rel (Extern.Race.marked .releaseMerge)
 rd:Ext P n.rd (Extern.Race.marked .read)
 wr:Ext P n.wr (Extern.Race.marked .write)
 Nu:Ext P n.Nu (λ_=>pure (.bool false))
 rZ:Ext P n.rZ (Extern.Atomic.update (Op.intArith .add) .u64 true)
 uV:Ext P n.uV (Extern.Atomic.loadT (.int .u64))
 GU:Ext P n.GU Extern.Atomic.storeT
 wu:Ext P n.wu (Extern.Atomic.casT (.int .u64))
 DX:Ext P n.DX Extern.Sync.semacquire
 nG:Ext P n.nG Extern.Sync.semrelease
 V8:∃t,P.underlying n.tG=some (.pointer t)/\P.underlying n.tU=some .unsafePointer/\(P.info? t).map (λi=>decide (i.size=0))=some false
 V9:∃t,P.underlying n.tS=some (.pointer t)/\P.underlying n.tU=some .unsafePointer/\(P.info? t).map (λi=>decide (i.size=0))=some false
 PV:∃fn body,P.funcs[n.add]?=some fn/\fn.body=some body/\fn.ntmps=117/\fn.results=#[]
 JF:∃fn body,P.funcs[n.done]?=some fn/\fn.body=some body/\fn.ntmps=4/\fn.results=#[]
 JG:∃fn body,P.funcs[n.wait]?=some fn/\fn.body=some body/\fn.ntmps=84/\fn.results=#[]
