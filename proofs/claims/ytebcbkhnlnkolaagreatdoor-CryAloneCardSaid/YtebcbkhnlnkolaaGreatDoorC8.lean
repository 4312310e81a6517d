import Derived.Conc.DeferLaws
import Derived.Conc.AtomicLaws
import Derived.Test.YtebcbkhnlnkolaaGreatDoorC7
set_option linter.all false
namespace Go.bN
open Go.Conc
def uD (s:sa):Option FuncId:=
 match s.mode,s.defers with
 | .ret,[{ target:=.fn (.func g) cap,args:=as }]=>if cap=#[]∧as=#[] then some g else none
 | _,_=>none
def lX(s:sa)(f:FuncId):Bool:=(match s.mode with|.ret=>true|.run=>false) && s.defers.isEmpty && s.fn==f
section
variable{P:afn}{Wd:aeT}{main:Bool}{y:Sy}{s:sa}{fr:Frame}{f:FuncId}{svs:List SV}{cs:aeY}{w:World}
def Eg (p:FR y s fr) (h:uD s=some f) (q:Ext P f (fun _=>do mark .enable;pure Extern.Race.none_)) :
 stepG P main (G fr cs) w = .go (G { fr with defers:=[] } cs) w #[⟨.mark .enable,false,true⟩]∧FR y { s with defers:=[] } { fr with defers:=[] }:=by
 obtain⟨fn,tmps,todo,defs,mode,kind,ro⟩:=fr;obtain⟨i,j,d,c,k,l,m,n⟩:=p;simp only at i j d c k l m n;subst l;unfold uD at h;split at h
 . rename_i g cap as o hd
   split at h
   . rename_i e
     obtain⟨rfl,rfl⟩:=e;simp only[kn] at h;subst h;rw[o] at c;have c:mode = .returning:=c;subst c;rw[hd] at d;subst d;obtain⟨r,t,u,x,z,A⟩:=q.ex;refine⟨?_,⟨i,j,rfl,by rw[o];rfl,k,rfl,m,n⟩⟩
     exact stepG_unwind_entry (P:=P) (main:=main) (b:=⟨fn,tmps,todo,[],.returning,kind,none⟩) (a:=⟨tmps,[{ target:=.fn (.func g) #[],args:=#[] }]⟩) (todo:=todo) (cs:=cs) (w:=w) (ds:=[]) (f:=g) (args:=#[]) (v:=.tuple #[]) rfl t u x z A (by simp[Extern.Race.none_]) (by simp) (by
      simp_all)
   . cases h
 . cases h
def ns{fn c rest}(o:FR y s fr)(h:lX s f=true)(j:P.funcs[f]?=some fn)(a:fn.results=#[])(k:s.kind≠.early):vo P Wd (G fr (c::rest)) (lS s.kind c rest (.tuple #[])):=by
 obtain⟨p,tmps,todo,defs,mode,kind,ro⟩:=fr;obtain⟨l,q,g,d,m,n,r,t⟩:=o;simp only at l q g d m n r t;subst n;unfold lX at h;simp only[zj,adA,List.isEmpty_iff]at h;obtain⟨⟨u,hd⟩,rfl⟩:=h;have i:s.mode=.ret:=by grind
 rw[i]at d;have d:mode=.returning:=d;subst d;rw[hd]at g;subst g;subst l;subst m;have b:∀w:World,(results fn tmps).run P w=.ok (.tuple #[]) w:=λw=>by simp[results,a]
 have e:∀w:World,(results fn tmps).events P w #[]=#[]:=λw=>by simp[results,a]
 refine⟨rfl,λmain w _=>?_⟩;generalize s.kind=kd at k ⊢
 cases kd<;>first
  |exact absurd rfl k
  |(simp[G,stepG,unwind,j,b,e,doReturn,GStep.after,lS,ni,iT];done)
  |(simp[G,stepG,unwind,j,b,e,doReturn,GStep.after,lS,ni,iT];rfl)
def wQ {ad v} (c:FR y s fr) (h:bn s=some (f,[.lit (.pointer (some ad))])) (d:s.kind ≠ .early) (e:Ext P f (Extern.Atomic.loadT (.int .u64))) (g:w.cell? ad=some (.int .u64 v)) :
 stepG P main (G fr cs) w = .go (G (fr.finish (.int .u64 v)) cs) w #[⟨.cell ad,false,true⟩]:=by
 obtain⟨ops,i,rest,kk,o,as,j,k,l,m,n,A,B⟩:=dQ c h;obtain⟨fn,p,q,r,t,u⟩:=e.ex;obtain⟨x,rfl,z⟩:=N8 n;have:=stepG_load_atomic (P:=P) (main:=main) (b:=fr) (a:=⟨fr.tmps,fr.defers⟩) (kk:=kk) (cs:=cs) (w:=w) (rest:=rest) k l (by rw[c.kind];exact d) m p q r t .u64 u (jQ c z) g
 grind
def Lh {ad v u} (c:FR y s fr) (h:bn s=some (f,[.lit (.pointer (some ad)),.lit (.int .u64 v)])) (e:s.kind ≠ .early) (g:Ext P f Extern.Atomic.storeT) (j:w.cell? ad=some u) (k:w.frozen? ad=false) :
 stepG P main (G fr cs) w = .go (G (fr.finish (.tuple #[])) cs) (w.setCell ad (.int .u64 v)) #[⟨.cell ad,true,true⟩]:=by
 obtain⟨ops,i,rest,kk,o,as,l,m,n,p,q,E,F⟩:=dQ c h;obtain⟨fn,r,t,A,B,C⟩:=g.ex;obtain⟨x,z,rfl,D,d⟩:=N7 q;have:=stepG_store_atomic (P:=P) (main:=main) (b:=fr) (a:=⟨fr.tmps,fr.defers⟩) (kk:=kk) (cs:=cs) (w:=w) (rest:=rest) m n (by rw[c.kind];exact e) p r t A B C (jQ c D) (jQ c d) j k
 grind
end
structure Sb where
 add:Nat
 done:Nat
 wait:Nat
 kO:Nat
 en:Nat
 acq:Nat
 rel:Nat
 rd:Nat
 wr:Nat
 Sc:Nat
 vu:Nat
 yt:Nat
 Li:Nat
 Af:Nat
 H7:Nat
 qU:Nat
 tG:Nat
 tU:Nat
 tS:Nat
def u64(n:Int):SV:=.lit (.int .u64 n)
def tW:List sa->List aff->List sa
 |[],_=>[]
 |s::st,[]=>keep [] s::tW st []
 |s::st,l::ls=>keep l s::tW st ls
def J0(live:aff)(a:List aff)(c:dt):dt:=(keep live c.1,tW c.2 a)
section
variable(P:afn)(n:Sb)(b:Nat)(kind:afj)(fl:Fl)
def A0:dt:=sgo P np 400 (eL P n.add [pt b 0,i64 1] kind) []
def A1:dt:=next P np (A0 P n b kind) un
def A2:dt:=next P np (A1 P n b kind) ff
def A3:dt:=next P fl (A2 P n b kind) (.fL 0)
def A4:dt:=next P fl (A3 P n b kind fl) (pt b 1)
def A5:dt:=next P fl (A4 P n b kind fl) un
def D0:dt:=sgo P np 400 (eL P n.done [pt b 0] .deferred) []
def D1:dt:=next P np (D0 P n b) (pt b 0)
def D2:dt:=next P np (D1 P n b) un
def D3:dt:=next P np (D2 P n b) un
def D4:dt:=next P np (D3 P n b) ff
def DE(w:Nat):dt:=next P fl (D4 P n b) (.fL w)
def D6:dt:=next P fl (DE P n b fl 1) (.fL 1)
def D7:dt:=next P fl (D6 P n b fl) un
def D8:dt:=next P fl (D7 P n b fl) un
def oA(c:dt):dt:=sgo P fl 400 {c.1 with defers:=[]} c.2
def W0:dt:=J0 [0] [] (sgo P np 400 (eL P n.wait [pt b 0] kind) [])
def W1:dt:=J0 [5] [[0]] (next P np (W0 P n b kind) un)
def WE:dt:=next P fl (W1 P n b kind) (.fL 0)
def WC:dt:=next P fl (WE P n b kind fl) un
def WA:dt:=next P fl (WC P n b kind fl) (pt b 0)
def WB:dt:=next P fl (WA P n b kind fl) un
def W3:dt:=next P fl (WE P n b kind fl) tt
def Wa:dt:=next P fl (W3 P n b kind fl) (pt b 1)
def W4:dt:=next P fl (Wa P n b kind fl) un
def W5:dt:=next P fl (W4 P n b kind fl) un
def Wb:dt:=next P fl (W5 P n b kind fl) (u64 0)
def XB:dt:=next P fl (Wb P n b kind fl) un
def Wc:dt:=next P fl (XB P n b kind fl) (pt b 0)
def TO:dt:=next P fl (Wc P n b kind fl) un
end
def f1(fl:Fl)(x:Bool):Fl:={fl with c1:=x}
def f0(fl:Fl)(x:Bool):Fl:={fl with c0:=x}
def yK(c:dt):Bool:=c.1.kind==.normal
structure iV  P   n :Prop where
 a0:∀b kind,bn (A0 P n b kind).1=some (n.kO,[])/\(A0 P n b kind).1.env.all plain=true/\(A0 P n b kind).2=[]/\(A0 P n b kind).1.kind=kind
 a1:∀b kind,bn (A1 P n b kind).1=some (n.Sc,[])/\(A1 P n b kind).1.env.all plain=true/\(A1 P n b kind).2=[]/\(A1 P n b kind).1.kind=kind
 a2:∀b kind,bn (A2 P n b kind).1=some (n.vu,[pt b 0,u64 4294967296])/\yK (A2 P n b kind)=true/\(A2 P n b kind).1.env.all plain=true/\(A2 P n b kind).2.all (·.env.all plain)=true
 a3:∀b kind fl,mE (A3 P n b kind (f1 fl true)).1=some (n.tS,n.tU,pt b 1)
 a4:∀b kind fl,bn (A4 P n b kind (f1 fl true)).1=some (n.rd,[pt b 1])/\(A4 P n b kind (f1 fl true)).1.kind=kind
 a5:∀b kind fl,uD (A5 P n b kind (f0 (f1 fl true) false)).1=some n.en/\(A5 P n b kind (f0 (f1 fl true) false)).2=[]/\(A5 P n b kind (f0 (f1 fl true) false)).1.kind=kind/\(A5 P n b kind (f0 (f1 fl true) false)).1.fn=n.add
 a6:∀b kind fl,uD (A3 P n b kind (f0 (f1 fl false) false)).1=some n.en/\(A3 P n b kind (f0 (f1 fl false) false)).2=[]/\(A3 P n b kind (f0 (f1 fl false) false)).1.kind=kind/\(A3 P n b kind (f0 (f1 fl false) false)).1.fn=n.add
 d0:∀b,mE (D0 P n b).1=some (n.tG,n.tU,pt b 0)/\(D0 P n b).1.env.all plain=true/\(D0 P n b).2.all (·.env.all plain)=true
 d1:∀b,bn (D1 P n b).1=some (n.rel,[pt b 0])/\yK (D1 P n b)=true/\(D1 P n b).1.env.all plain=true/\(D1 P n b).2.all (·.env.all plain)=true
 d2:∀b,bn (D2 P n b).1=some (n.kO,[])/\yK (D2 P n b)=true/\(D2 P n b).1.env.all plain=true/\(D2 P n b).2.all (·.env.all plain)=true
 d3:∀b,bn (D3 P n b).1=some (n.Sc,[])/\yK (D3 P n b)=true/\(D3 P n b).1.env.all plain=true/\(D3 P n b).2.all (·.env.all plain)=true
 d4:∀b,bn (D4 P n b).1=some (n.vu,[pt b 0,u64 18446744069414584320])/\yK (D4 P n b)=true/\(D4 P n b).1.env.all plain=true/\(D4 P n b).2.all (·.env.all plain)=true
 d5:∀b fl x,uD (DE P n b (f0 fl x) 0).1=some n.en
 d5b:∀b fl x,lX (oA P (f0 fl x) (DE P n b (f0 fl x) 0)).1 n.done=true/\(oA P (f0 fl x) (DE P n b (f0 fl x) 0)).2=[]/\(oA P (f0 fl x) (DE P n b (f0 fl x) 0)).1.kind=.deferred
 d6:∀b fl,uD (DE P n b (f0 fl false) 1).1=some n.en
 d6b:∀b fl,lX (oA P (f0 fl false) (DE P n b (f0 fl false) 1)).1 n.done=true/\(oA P (f0 fl false) (DE P n b (f0 fl false) 1)).2=[]/\(oA P (f0 fl false) (DE P n b (f0 fl false) 1)).1.kind=.deferred
 d7:∀b fl,bn (DE P n b (f0 fl true) 1).1=some (n.yt,[pt b 0])/\yK (DE P n b (f0 fl true) 1)=true
 d8:∀b fl,bn (D6 P n b (f0 fl true)).1=some (n.Li,[pt b 0,u64 0])/\yK (D6 P n b (f0 fl true))=true
 d9:∀b fl,bn (D7 P n b (f0 fl true)).1=some (n.qU,[pt b 1,ff,i64 0])/\yK (D7 P n b (f0 fl true))=true
 da:∀b fl,uD (D8 P n b (f0 fl true)).1=some n.en
 db:∀b fl,lX (oA P (f0 fl true) (D8 P n b (f0 fl true))).1 n.done=true/\(oA P (f0 fl true) (D8 P n b (f0 fl true))).2=[]/\(oA P (f0 fl true) (D8 P n b (f0 fl true))).1.kind=.deferred
 w0:∀b kind,bn (W0 P n b kind).1=some (n.kO,[])/\(W0 P n b kind).1.env.all plain=true/\(W0 P n b kind).2=[]/\(W0 P n b kind).1.kind=kind
 w1:∀b kind,bn (W1 P n b kind).1=some (n.yt,[pt b 0])/\yK (W1 P n b kind)=true/\(W1 P n b kind).1.env.all plain=true/\(W1 P n b kind).2.all (·.env.all plain)=true
 w2:∀b kind fl,bn (WE P n b kind (f0 fl true)).1=some (n.en,[])/\(WE P n b kind (f0 fl true)).1.kind=kind
 w3:∀b kind fl,mE (WC P n b kind (f0 fl true)).1=some (n.tG,n.tU,pt b 0)
 w4:∀b kind fl,bn (WA P n b kind (f0 fl true)).1=some (n.acq,[pt b 0])/\(WA P n b kind (f0 fl true)).1.kind=kind
 w5:∀b kind fl,lX (WB P n b kind (f0 fl true)).1 n.wait=true/\(WB P n b kind (f0 fl true)).2=[]/\(WB P n b kind (f0 fl true)).1.kind=kind
 w6:∀b kind fl,bn (WE P n b kind (f0 fl false)).1=some (n.Af,[pt b 0,.fL 0,.fL 1])/\yK (WE P n b kind (f0 fl false))=true
 w7:∀b kind fl,J0 [5] [[0]] (next P (f0 fl false) (WE P n b kind (f0 fl false)) ff)=W1 P n b kind
 w8:∀b kind fl,mE (W3 P n b kind (f0 fl false)).1=some (n.tS,n.tU,pt b 1)
 w9:∀b kind fl,bn (Wa P n b kind (f0 fl false)).1=some (n.wr,[pt b 1])/\(Wa P n b kind (f0 fl false)).1.kind=kind
 wa:∀b kind fl,bn (W4 P n b kind (f0 fl false)).1=some (n.H7,[pt b 1,ff])/\(W4 P n b kind (f0 fl false)).1.kind=kind
 wb:∀b kind fl,bn (W5 P n b kind (f0 fl false)).1=some (n.yt,[pt b 0])/\yK (W5 P n b kind (f0 fl false))=true
 wc:∀b kind fl,bn (Wb P n b kind (f0 fl false)).1=some (n.en,[])/\(Wb P n b kind (f0 fl false)).1.kind=kind
 wd:∀b kind fl,mE (XB P n b kind (f0 fl false)).1=some (n.tG,n.tU,pt b 0)
 we:∀b kind fl,bn (Wc P n b kind (f0 fl false)).1=some (n.acq,[pt b 0])/\(Wc P n b kind (f0 fl false)).1.kind=kind
 wf:∀b kind fl,lX (TO P n b kind (f0 fl false)).1 n.wait=true/\(TO P n b kind (f0 fl false)).2=[]/\(TO P n b kind (f0 fl false)).1.kind=kind
structure jH  P  (n:Sb):Prop where
 kO:Ext P n.kO (λ_=>do mark .disable;pure Extern.Race.none_)
 en:Ext P n.en (λ_=>do mark .enable;pure Extern.Race.none_)
 acq:Ext P n.acq (Extern.Race.marked .acquire)
 rel:Ext P n.rel (Extern.Race.marked .releaseMerge)
 rd:Ext P n.rd (Extern.Race.marked .read)
 wr:Ext P n.wr (Extern.Race.marked .write)
 Sc:Ext P n.Sc (λ_=>pure (.bool false))
 vu:Ext P n.vu (Extern.Atomic.update (Op.intArith .add) .u64 true)
 yt:Ext P n.yt (Extern.Atomic.loadT (.int .u64))
 Li:Ext P n.Li Extern.Atomic.storeT
 Af:Ext P n.Af (Extern.Atomic.casT (.int .u64))
 H7:Ext P n.H7 Extern.Sync.semacquire
 qU:Ext P n.qU Extern.Sync.semrelease
 tyG:∃t,P.underlying n.tG=some (.pointer t)/\P.underlying n.tU=some .unsafePointer/\(P.info? t).map (λi=>decide (i.size=0))=some false
 tyS:∃t,P.underlying n.tS=some (.pointer t)/\P.underlying n.tU=some .unsafePointer/\(P.info? t).map (λi=>decide (i.size=0))=some false
 UM:∃fn body,P.funcs[n.add]?=some fn/\fn.body=some body/\fn.ntmps=117/\fn.results=#[]
 Om:∃fn body,P.funcs[n.done]?=some fn/\fn.body=some body/\fn.ntmps=4/\fn.results=#[]
 On:∃fn body,P.funcs[n.wait]?=some fn/\fn.body=some body/\fn.ntmps=84/\fn.results=#[]
