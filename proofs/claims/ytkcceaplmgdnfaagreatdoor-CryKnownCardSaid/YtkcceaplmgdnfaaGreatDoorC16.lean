import Derived.Conc.DeferLaws
import Derived.Conc.AtomicLaws
import Derived.Test.YtkcceaplmgdnfaaGreatDoorC15
set_option linter.all false
namespace Go.bu
open Go.Conc
def qf (s:iX):Option FuncId:=
 match s.mode,s.defers with
 | .ret,[{ target:=.fn (.func g) cap,args:=as }]=>if cap=#[]∧as=#[] then some g else none
 | _,_=>none
def jA(s:iX)(f:FuncId):Bool:=(match s.mode with|.ret=>true|.run=>false) && s.defers.isEmpty && s.fn==f
section
variable{P:Program}{Wd:World->Prop}{main:Bool}{y:Sy}{s:iX}{fr:Frame}{f:FuncId}{svs:List SV}{cs:List Frame}{w:World}
theorem zy (p:FR y s fr) (h:qf s=some f) (q:Ext P f (fun _=>do mark .enable;pure Extern.Race.none_)) :
 stepG P main (G fr cs) w = .go (G { fr with defers:=[] } cs) w #[⟨.mark .enable,false,true⟩]∧FR y { s with defers:=[] } { fr with defers:=[] }:=by
 obtain⟨fn,tmps,todo,defs,mode,kind,ro⟩:=fr;obtain⟨i,j,d,c,k,l,m,n⟩:=p;simp only at i j d c k l m n;subst l;unfold qf at h;split at h
 . rename_i g cap as o hd
   split at h
   . rename_i e
     obtain⟨rfl,rfl⟩:=e;simp only[Option.some.injEq] at h;subst h;rw[o] at c;have c:mode = .returning:=c;subst c;rw[hd] at d;subst d;obtain⟨r,t,u,x,z,A⟩:=q.ex;refine⟨?_,⟨i,j,rfl,by rw[o];rfl,k,rfl,m,n⟩⟩
     exact stepG_unwind_entry (P:=P) (main:=main) (b:=⟨fn,tmps,todo,[],.returning,kind,none⟩) (a:=⟨tmps,[{ target:=.fn (.func g) #[],args:=#[] }]⟩) (todo:=todo) (cs:=cs) (w:=w) (ds:=[]) (f:=g) (args:=#[]) (v:=.tuple #[]) rfl t u x z A (by simp[Extern.Race.none_]) (by simp) (by
      simp_all)
   . cases h
 . cases h
theorem km{fn:Func}{c:Frame}{rest:List Frame}(o:FR y s fr)(h:jA s f=true)(j:P.funcs[f]?=some fn)(a:fn.results=#[])(k:s.kind≠.early):qd P Wd (G fr (c::rest)) (ju s.kind c rest (.tuple #[])):=by
 obtain⟨p,tmps,todo,defs,mode,kind,ro⟩:=fr;obtain⟨l,q,g,d,m,n,r,t⟩:=o;simp only at l q g d m n r t;subst n;unfold jA at h;simp only[Bool.and_eq_true,beq_iff_eq,List.isEmpty_iff]at h;obtain⟨⟨u,hd⟩,rfl⟩:=h;have i:s.mode=.ret:=by grind
 rw[i]at d;have d:mode=.returning:=d;subst d;rw[hd]at g;subst g;subst l;subst m;have b:∀w:World,(results fn tmps).run P w=.ok (.tuple #[]) w:=λw=>by simp[results,a]
 have e:∀w:World,(results fn tmps).events P w #[]=#[]:=λw=>by simp[results,a]
 refine⟨rfl,λmain w _=>?_⟩;generalize s.kind=kd at k ⊢
 cases kd<;>first
  |exact absurd rfl k
  |(simp[G,stepG,unwind,j,b,e,doReturn,GStep.after,ju,kh,fE];done)
  |(simp[G,stepG,unwind,j,b,e,doReturn,GStep.after,ju,kh,fE];rfl)
theorem sk {ad:Addr} {v:Int} (c:FR y s fr) (h:aU s=some (f,[.lit (.pointer (some ad))])) (d:s.kind ≠ .early) (e:Ext P f (Extern.Atomic.loadT (.int .u64))) (g:w.cell? ad=some (.int .u64 v)) :
 stepG P main (G fr cs) w = .go (G (fr.finish (.int .u64 v)) cs) w #[⟨.cell ad,false,true⟩]:=by
 obtain⟨ops,i,rest,kk,o,as,j,k,l,m,n,A,B⟩:=cT c h;obtain⟨fn,p,q,r,t,u⟩:=e.ex;obtain⟨x,rfl,z⟩:=IS n;have:=stepG_load_atomic (P:=P) (main:=main) (b:=fr) (a:=⟨fr.tmps,fr.defers⟩) (kk:=kk) (cs:=cs) (w:=w) (rest:=rest) k l (by rw[c.kind];exact d) m p q r t .u64 u (gO c z) g
 grind
theorem Gc {ad:Addr} {v:Int} {u:Value} (c:FR y s fr) (h:aU s=some (f,[.lit (.pointer (some ad)),.lit (.int .u64 v)])) (e:s.kind ≠ .early) (g:Ext P f Extern.Atomic.storeT) (j:w.cell? ad=some u) (k:w.frozen? ad=false) :
 stepG P main (G fr cs) w = .go (G (fr.finish (.tuple #[])) cs) (w.setCell ad (.int .u64 v)) #[⟨.cell ad,true,true⟩]:=by
 obtain⟨ops,i,rest,kk,o,as,l,m,n,p,q,E,F⟩:=cT c h;obtain⟨fn,r,t,A,B,C⟩:=g.ex;obtain⟨x,z,rfl,D,d⟩:=IQ q;have:=stepG_store_atomic (P:=P) (main:=main) (b:=fr) (a:=⟨fr.tmps,fr.defers⟩) (kk:=kk) (cs:=cs) (w:=w) (rest:=rest) m n (by rw[c.kind];exact e) p r t A B C (gO c D) (gO c d) j k
 grind
end
structure Gd where
 add:Nat
 done:Nat
 wait:Nat
 iF:Nat
 en:Nat
 acq:Nat
 rel:Nat
 rd:Nat
 wr:Nat
 MP:Nat
 qT:Nat
 uh:Nat
 Ge:Nat
 vD:Nat
 Dd:Nat
 m6:Nat
 tG:Nat
 tU:Nat
 tS:Nat
def u64(n:Int):SV:=.lit (.int .u64 n)
def pI:List iX->List (List Nat)->List iX
 |[],_=>[]
 |s::st,[]=>keep [] s::pI st []
 |s::st,l::ls=>keep l s::pI st ls
def Fa(live:List Nat)(a:List (List Nat))(c:cB):cB:=(keep live c.1,pI c.2 a)
section
variable(P:Program)(n:Gd)(b:Nat)(kind:CallKind)(fl:Fl)
def A0:cB:=sgo P kl 400 (di P n.add [pt b 0,i64 1] kind) []
def A1:cB:=next P kl (A0 P n b kind) un
def A2:cB:=next P kl (A1 P n b kind) ff
def A3:cB:=next P fl (A2 P n b kind) (.dN 0)
def A4:cB:=next P fl (A3 P n b kind fl) (pt b 1)
def A5:cB:=next P fl (A4 P n b kind fl) un
def D0:cB:=sgo P kl 400 (di P n.done [pt b 0] .deferred) []
def D1:cB:=next P kl (D0 P n b) (pt b 0)
def D2:cB:=next P kl (D1 P n b) un
def D3:cB:=next P kl (D2 P n b) un
def D4:cB:=next P kl (D3 P n b) ff
def DE(w:Nat):cB:=next P fl (D4 P n b) (.dN w)
def D6:cB:=next P fl (DE P n b fl 1) (.dN 1)
def D7:cB:=next P fl (D6 P n b fl) un
def D8:cB:=next P fl (D7 P n b fl) un
def ll(c:cB):cB:=sgo P fl 400 {c.1 with defers:=[]} c.2
def W0:cB:=Fa [0] [] (sgo P kl 400 (di P n.wait [pt b 0] kind) [])
def W1:cB:=Fa [5] [[0]] (next P kl (W0 P n b kind) un)
def WE:cB:=next P fl (W1 P n b kind) (.dN 0)
def WC:cB:=next P fl (WE P n b kind fl) un
def WA:cB:=next P fl (WC P n b kind fl) (pt b 0)
def WB:cB:=next P fl (WA P n b kind fl) un
def W3:cB:=next P fl (WE P n b kind fl) tt
def Qw:cB:=next P fl (W3 P n b kind fl) (pt b 1)
def W4:cB:=next P fl (Qw P n b kind fl) un
def W5:cB:=next P fl (W4 P n b kind fl) un
def Qx:cB:=next P fl (W5 P n b kind fl) (u64 0)
def RI:cB:=next P fl (Qx P n b kind fl) un
def Qy:cB:=next P fl (RI P n b kind fl) (pt b 0)
def Ob:cB:=next P fl (Qy P n b kind fl) un
end
def f1(fl:Fl)(x:Bool):Fl:={fl with c1:=x}
def f0(fl:Fl)(x:Bool):Fl:={fl with c0:=x}
def uC(c:cB):Bool:=c.1.kind==.normal
structure fG(P:Program)(n:Gd):Prop where
 a0:∀b kind,aU (A0 P n b kind).1=some (n.iF,[])/\(A0 P n b kind).1.env.all plain=true/\(A0 P n b kind).2=[]/\(A0 P n b kind).1.kind=kind
 a1:∀b kind,aU (A1 P n b kind).1=some (n.MP,[])/\(A1 P n b kind).1.env.all plain=true/\(A1 P n b kind).2=[]/\(A1 P n b kind).1.kind=kind
 a2:∀b kind,aU (A2 P n b kind).1=some (n.qT,[pt b 0,u64 4294967296])/\uC (A2 P n b kind)=true/\(A2 P n b kind).1.env.all plain=true/\(A2 P n b kind).2.all (·.env.all plain)=true
 a3:∀b kind fl,jL (A3 P n b kind (f1 fl true)).1=some (n.tS,n.tU,pt b 1)
 a4:∀b kind fl,aU (A4 P n b kind (f1 fl true)).1=some (n.rd,[pt b 1])/\(A4 P n b kind (f1 fl true)).1.kind=kind
 a5:∀b kind fl,qf (A5 P n b kind (f0 (f1 fl true) false)).1=some n.en/\(A5 P n b kind (f0 (f1 fl true) false)).2=[]/\(A5 P n b kind (f0 (f1 fl true) false)).1.kind=kind/\(A5 P n b kind (f0 (f1 fl true) false)).1.fn=n.add
 a6:∀b kind fl,qf (A3 P n b kind (f0 (f1 fl false) false)).1=some n.en/\(A3 P n b kind (f0 (f1 fl false) false)).2=[]/\(A3 P n b kind (f0 (f1 fl false) false)).1.kind=kind/\(A3 P n b kind (f0 (f1 fl false) false)).1.fn=n.add
 d0:∀b,jL (D0 P n b).1=some (n.tG,n.tU,pt b 0)/\(D0 P n b).1.env.all plain=true/\(D0 P n b).2.all (·.env.all plain)=true
 d1:∀b,aU (D1 P n b).1=some (n.rel,[pt b 0])/\uC (D1 P n b)=true/\(D1 P n b).1.env.all plain=true/\(D1 P n b).2.all (·.env.all plain)=true
 d2:∀b,aU (D2 P n b).1=some (n.iF,[])/\uC (D2 P n b)=true/\(D2 P n b).1.env.all plain=true/\(D2 P n b).2.all (·.env.all plain)=true
 d3:∀b,aU (D3 P n b).1=some (n.MP,[])/\uC (D3 P n b)=true/\(D3 P n b).1.env.all plain=true/\(D3 P n b).2.all (·.env.all plain)=true
 d4:∀b,aU (D4 P n b).1=some (n.qT,[pt b 0,u64 18446744069414584320])/\uC (D4 P n b)=true/\(D4 P n b).1.env.all plain=true/\(D4 P n b).2.all (·.env.all plain)=true
 d5:∀b fl x,qf (DE P n b (f0 fl x) 0).1=some n.en
 Vb:∀b fl x,jA (ll P (f0 fl x) (DE P n b (f0 fl x) 0)).1 n.done=true/\(ll P (f0 fl x) (DE P n b (f0 fl x) 0)).2=[]/\(ll P (f0 fl x) (DE P n b (f0 fl x) 0)).1.kind=.deferred
 d6:∀b fl,qf (DE P n b (f0 fl false) 1).1=some n.en
 Vd:∀b fl,jA (ll P (f0 fl false) (DE P n b (f0 fl false) 1)).1 n.done=true/\(ll P (f0 fl false) (DE P n b (f0 fl false) 1)).2=[]/\(ll P (f0 fl false) (DE P n b (f0 fl false) 1)).1.kind=.deferred
 d7:∀b fl,aU (DE P n b (f0 fl true) 1).1=some (n.uh,[pt b 0])/\uC (DE P n b (f0 fl true) 1)=true
 d8:∀b fl,aU (D6 P n b (f0 fl true)).1=some (n.Ge,[pt b 0,u64 0])/\uC (D6 P n b (f0 fl true))=true
 d9:∀b fl,aU (D7 P n b (f0 fl true)).1=some (n.m6,[pt b 1,ff,i64 0])/\uC (D7 P n b (f0 fl true))=true
 da:∀b fl,qf (D8 P n b (f0 fl true)).1=some n.en
 db:∀b fl,jA (ll P (f0 fl true) (D8 P n b (f0 fl true))).1 n.done=true/\(ll P (f0 fl true) (D8 P n b (f0 fl true))).2=[]/\(ll P (f0 fl true) (D8 P n b (f0 fl true))).1.kind=.deferred
 w0:∀b kind,aU (W0 P n b kind).1=some (n.iF,[])/\(W0 P n b kind).1.env.all plain=true/\(W0 P n b kind).2=[]/\(W0 P n b kind).1.kind=kind
 w1:∀b kind,aU (W1 P n b kind).1=some (n.uh,[pt b 0])/\uC (W1 P n b kind)=true/\(W1 P n b kind).1.env.all plain=true/\(W1 P n b kind).2.all (·.env.all plain)=true
 w2:∀b kind fl,aU (WE P n b kind (f0 fl true)).1=some (n.en,[])/\(WE P n b kind (f0 fl true)).1.kind=kind
 w3:∀b kind fl,jL (WC P n b kind (f0 fl true)).1=some (n.tG,n.tU,pt b 0)
 w4:∀b kind fl,aU (WA P n b kind (f0 fl true)).1=some (n.acq,[pt b 0])/\(WA P n b kind (f0 fl true)).1.kind=kind
 w5:∀b kind fl,jA (WB P n b kind (f0 fl true)).1 n.wait=true/\(WB P n b kind (f0 fl true)).2=[]/\(WB P n b kind (f0 fl true)).1.kind=kind
 w6:∀b kind fl,aU (WE P n b kind (f0 fl false)).1=some (n.vD,[pt b 0,.dN 0,.dN 1])/\uC (WE P n b kind (f0 fl false))=true
 w7:∀b kind fl,Fa [5] [[0]] (next P (f0 fl false) (WE P n b kind (f0 fl false)) ff)=W1 P n b kind
 w8:∀b kind fl,jL (W3 P n b kind (f0 fl false)).1=some (n.tS,n.tU,pt b 1)
 w9:∀b kind fl,aU (Qw P n b kind (f0 fl false)).1=some (n.wr,[pt b 1])/\(Qw P n b kind (f0 fl false)).1.kind=kind
 wa:∀b kind fl,aU (W4 P n b kind (f0 fl false)).1=some (n.Dd,[pt b 1,ff])/\(W4 P n b kind (f0 fl false)).1.kind=kind
 wb:∀b kind fl,aU (W5 P n b kind (f0 fl false)).1=some (n.uh,[pt b 0])/\uC (W5 P n b kind (f0 fl false))=true
 wc:∀b kind fl,aU (Qx P n b kind (f0 fl false)).1=some (n.en,[])/\(Qx P n b kind (f0 fl false)).1.kind=kind
 wd:∀b kind fl,jL (RI P n b kind (f0 fl false)).1=some (n.tG,n.tU,pt b 0)
 we:∀b kind fl,aU (Qy P n b kind (f0 fl false)).1=some (n.acq,[pt b 0])/\(Qy P n b kind (f0 fl false)).1.kind=kind
 wf:∀b kind fl,jA (Ob P n b kind (f0 fl false)).1 n.wait=true/\(Ob P n b kind (f0 fl false)).2=[]/\(Ob P n b kind (f0 fl false)).1.kind=kind
structure gF(P:Program)(n:Gd):Prop where
 iF:Ext P n.iF (λ_=>do mark .disable;pure Extern.Race.none_)
 en:Ext P n.en (λ_=>do mark .enable;pure Extern.Race.none_)
 acq:Ext P n.acq (Extern.Race.marked .acquire)
 rel:Ext P n.rel (Extern.Race.marked .releaseMerge)
 rd:Ext P n.rd (Extern.Race.marked .read)
 wr:Ext P n.wr (Extern.Race.marked .write)
 MP:Ext P n.MP (λ_=>pure (.bool false))
 qT:Ext P n.qT (Extern.Atomic.update (Op.intArith .add) .u64 true)
 uh:Ext P n.uh (Extern.Atomic.loadT (.int .u64))
 Ge:Ext P n.Ge Extern.Atomic.storeT
 vD:Ext P n.vD (Extern.Atomic.casT (.int .u64))
 Dd:Ext P n.Dd Extern.Sync.semacquire
 m6:Ext P n.m6 Extern.Sync.semrelease
 Ve:∃t,P.underlying n.tG=some (.pointer t)/\P.underlying n.tU=some .unsafePointer/\(P.info? t).map (λi=>decide (i.size=0))=some false
 Vf:∃t,P.underlying n.tS=some (.pointer t)/\P.underlying n.tU=some .unsafePointer/\(P.info? t).map (λi=>decide (i.size=0))=some false
 O9:∃fn body,P.funcs[n.add]?=some fn/\fn.body=some body/\fn.ntmps=117/\fn.results=#[]
 I6:∃fn body,P.funcs[n.done]?=some fn/\fn.body=some body/\fn.ntmps=4/\fn.results=#[]
 I7:∃fn body,P.funcs[n.wait]?=some fn/\fn.body=some body/\fn.ntmps=84/\fn.results=#[]
end Go.bu
