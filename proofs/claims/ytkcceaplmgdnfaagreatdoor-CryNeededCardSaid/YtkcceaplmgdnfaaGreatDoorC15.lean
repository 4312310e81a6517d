import Derived.Conc.DeferLaws
import Derived.Conc.AtomicLaws
import Derived.Test.YtkcceaplmgdnfaaGreatDoorC14
set_option linter.all false
namespace Go.bQ
open Go.Conc
def rL (s:jJ):Option FuncId:=
 match s.mode,s.defers with
 | .ret,[{ target:=.fn (.func g) cap,args:=as }]=>if cap=#[]∧as=#[] then some g else none
 | _,_=>none
def j7(s:jJ)(f:FuncId):Bool:=(match s.mode with|.ret=>true|.run=>false) && s.defers.isEmpty && s.fn==f
section
variable{P:acD}{Wd:abZ}{main:Bool}{y:Sy}{s:jJ}{fr:Frame}{f:FuncId}{svs:acA}{cs:acb}{w:World}
theorem Bn (p:FR y s fr) (h:rL s=some f) (q:Ext P f (fun _=>do mark .enable;pure Extern.Race.none_)) :
 stepG P main (G fr cs) w = .go (G { fr with defers:=[] } cs) w #[⟨.mark .enable,false,true⟩]∧FR y { s with defers:=[] } { fr with defers:=[] }:=by
 obtain⟨fn,tmps,todo,defs,mode,kind,ro⟩:=fr;obtain⟨i,j,d,c,k,l,m,n⟩:=p;simp only at i j d c k l m n;subst l;unfold rL at h;split at h
 . rename_i g cap as o hd
   split at h
   . rename_i e
     obtain⟨rfl,rfl⟩:=e;simp only[kn] at h;subst h;rw[o] at c;have c:mode = .returning:=c;subst c;rw[hd] at d;subst d;obtain⟨r,t,u,x,z,A⟩:=q.ex;refine⟨?_,⟨i,j,rfl,by rw[o];rfl,k,rfl,m,n⟩⟩
     exact stepG_unwind_entry (P:=P) (main:=main) (b:=⟨fn,tmps,todo,[],.returning,kind,none⟩) (a:=⟨tmps,[{ target:=.fn (.func g) #[],args:=#[] }]⟩) (todo:=todo) (cs:=cs) (w:=w) (ds:=[]) (f:=g) (args:=#[]) (v:=.tuple #[]) rfl t u x z A (by simp[Extern.Race.none_]) (by simp) (by
      simp_all)
   . cases h
 . cases h
theorem kY{fn:Func}{c:Frame}{rest:acb}(o:FR y s fr)(h:j7 s f=true)(j:P.funcs[f]?=some fn)(a:fn.results=#[])(k:s.kind≠.early):rJ P Wd (G fr (c::rest)) (jW s.kind c rest (.tuple #[])):=by
 obtain⟨p,tmps,todo,defs,mode,kind,ro⟩:=fr;obtain⟨l,q,g,d,m,n,r,t⟩:=o;simp only at l q g d m n r t;subst n;unfold j7 at h;simp only[zj,beq_iff_eq,List.isEmpty_iff]at h;obtain⟨⟨u,hd⟩,rfl⟩:=h;have i:s.mode=.ret:=by grind
 rw[i]at d;have d:mode=.returning:=d;subst d;rw[hd]at g;subst g;subst l;subst m;have b:∀w:World,(results fn tmps).run P w=.ok (.tuple #[]) w:=λw=>by simp[results,a]
 have e:∀w:World,(results fn tmps).events P w #[]=#[]:=λw=>by simp[results,a]
 refine⟨rfl,λmain w _=>?_⟩;generalize s.kind=kd at k ⊢
 cases kd<;>first
  |exact absurd rfl k
  |(simp[G,stepG,unwind,j,b,e,doReturn,GStep.after,jW,kU,gK];done)
  |(simp[G,stepG,unwind,j,b,e,doReturn,GStep.after,jW,kU,gK];rfl)
theorem ua {ad:Addr} {v:Int} (c:FR y s fr) (h:bb s=some (f,[.lit (.pointer (some ad))])) (d:s.kind ≠ .early) (e:Ext P f (Extern.Atomic.loadT (.int .u64))) (g:w.cell? ad=some (.int .u64 v)) :
 stepG P main (G fr cs) w = .go (G (fr.finish (.int .u64 v)) cs) w #[⟨.cell ad,false,true⟩]:=by
 obtain⟨ops,i,rest,kk,o,as,j,k,l,m,n,A,B⟩:=dq c h;obtain⟨fn,p,q,r,t,u⟩:=e.ex;obtain⟨x,rfl,z⟩:=Kx n;have:=stepG_load_atomic (P:=P) (main:=main) (b:=fr) (a:=⟨fr.tmps,fr.defers⟩) (kk:=kk) (cs:=cs) (w:=w) (rest:=rest) k l (by rw[c.kind];exact d) m p q r t .u64 u (iK c z) g
 grind
theorem HU {ad:Addr} {v:Int} {u:Value} (c:FR y s fr) (h:bb s=some (f,[.lit (.pointer (some ad)),.lit (.int .u64 v)])) (e:s.kind ≠ .early) (g:Ext P f Extern.Atomic.storeT) (j:w.cell? ad=some u) (k:w.frozen? ad=false) :
 stepG P main (G fr cs) w = .go (G (fr.finish (.tuple #[])) cs) (w.setCell ad (.int .u64 v)) #[⟨.cell ad,true,true⟩]:=by
 obtain⟨ops,i,rest,kk,o,as,l,m,n,p,q,E,F⟩:=dq c h;obtain⟨fn,r,t,A,B,C⟩:=g.ex;obtain⟨x,z,rfl,D,d⟩:=Kw q;have:=stepG_store_atomic (P:=P) (main:=main) (b:=fr) (a:=⟨fr.tmps,fr.defers⟩) (kk:=kk) (cs:=cs) (w:=w) (rest:=rest) m n (by rw[c.kind];exact e) p r t A B C (iK c D) (iK c d) j k
 grind
end
structure HV where
 add:Nat
 done:Nat
 wait:Nat
 jl:Nat
 en:Nat
 acq:Nat
 rel:Nat
 rd:Nat
 wr:Nat
 OC:Nat
 sG:Nat
 vF:Nat
 HW:Nat
 xl:Nat
 ER:Nat
 oh:Nat
 tG:Nat
 tU:Nat
 tS:Nat
def u64(n:Int):SV:=.lit (.int .u64 n)
def qX:acB->List acr->acB
 |[],_=>[]
 |s::st,[]=>keep [] s::qX st []
 |s::st,l::ls=>keep l s::qX st ls
def GK(live:acr)(a:List acr)(c:cP):cP:=(keep live c.1,qX c.2 a)
section
variable(P:acD)(n:HV)(b:Nat)(kind:acv)(fl:Fl)
def A0:cP:=sgo P kX 400 (dH P n.add [pt b 0,i64 1] kind) []
def A1:cP:=next P kX (A0 P n b kind) un
def A2:cP:=next P kX (A1 P n b kind) ff
def A3:cP:=next P fl (A2 P n b kind) (.ew 0)
def A4:cP:=next P fl (A3 P n b kind fl) (pt b 1)
def A5:cP:=next P fl (A4 P n b kind fl) un
def D0:cP:=sgo P kX 400 (dH P n.done [pt b 0] .deferred) []
def D1:cP:=next P kX (D0 P n b) (pt b 0)
def D2:cP:=next P kX (D1 P n b) un
def D3:cP:=next P kX (D2 P n b) un
def D4:cP:=next P kX (D3 P n b) ff
def DE(w:Nat):cP:=next P fl (D4 P n b) (.ew w)
def D6:cP:=next P fl (DE P n b fl 1) (.ew 1)
def D7:cP:=next P fl (D6 P n b fl) un
def D8:cP:=next P fl (D7 P n b fl) un
def l9(c:cP):cP:=sgo P fl 400 {c.1 with defers:=[]} c.2
def W0:cP:=GK [0] [] (sgo P kX 400 (dH P n.wait [pt b 0] kind) [])
def W1:cP:=GK [5] [[0]] (next P kX (W0 P n b kind) un)
def WE:cP:=next P fl (W1 P n b kind) (.ew 0)
def WC:cP:=next P fl (WE P n b kind fl) un
def WA:cP:=next P fl (WC P n b kind fl) (pt b 0)
def WB:cP:=next P fl (WA P n b kind fl) un
def W3:cP:=next P fl (WE P n b kind fl) tt
def So:cP:=next P fl (W3 P n b kind fl) (pt b 1)
def W4:cP:=next P fl (So P n b kind fl) un
def W5:cP:=next P fl (W4 P n b kind fl) un
def Sp:cP:=next P fl (W5 P n b kind fl) (u64 0)
def TG:cP:=next P fl (Sp P n b kind fl) un
def Sq:cP:=next P fl (TG P n b kind fl) (pt b 0)
def P6:cP:=next P fl (Sq P n b kind fl) un
end
def f1(fl:Fl)(x:Bool):Fl:={fl with c1:=x}
def f0(fl:Fl)(x:Bool):Fl:={fl with c0:=x}
def vR(c:cP):Bool:=c.1.kind==.normal
structure gM(P:acD)(n:HV):Prop where
 a0:∀b kind,bb (A0 P n b kind).1=some (n.jl,[])/\(A0 P n b kind).1.env.all plain=true/\(A0 P n b kind).2=[]/\(A0 P n b kind).1.kind=kind
 a1:∀b kind,bb (A1 P n b kind).1=some (n.OC,[])/\(A1 P n b kind).1.env.all plain=true/\(A1 P n b kind).2=[]/\(A1 P n b kind).1.kind=kind
 a2:∀b kind,bb (A2 P n b kind).1=some (n.sG,[pt b 0,u64 4294967296])/\vR (A2 P n b kind)=true/\(A2 P n b kind).1.env.all plain=true/\(A2 P n b kind).2.all (·.env.all plain)=true
 a3:∀b kind fl,kz (A3 P n b kind (f1 fl true)).1=some (n.tS,n.tU,pt b 1)
 a4:∀b kind fl,bb (A4 P n b kind (f1 fl true)).1=some (n.rd,[pt b 1])/\(A4 P n b kind (f1 fl true)).1.kind=kind
 a5:∀b kind fl,rL (A5 P n b kind (f0 (f1 fl true) false)).1=some n.en/\(A5 P n b kind (f0 (f1 fl true) false)).2=[]/\(A5 P n b kind (f0 (f1 fl true) false)).1.kind=kind/\(A5 P n b kind (f0 (f1 fl true) false)).1.fn=n.add
 a6:∀b kind fl,rL (A3 P n b kind (f0 (f1 fl false) false)).1=some n.en/\(A3 P n b kind (f0 (f1 fl false) false)).2=[]/\(A3 P n b kind (f0 (f1 fl false) false)).1.kind=kind/\(A3 P n b kind (f0 (f1 fl false) false)).1.fn=n.add
 d0:∀b,kz (D0 P n b).1=some (n.tG,n.tU,pt b 0)/\(D0 P n b).1.env.all plain=true/\(D0 P n b).2.all (·.env.all plain)=true
 d1:∀b,bb (D1 P n b).1=some (n.rel,[pt b 0])/\vR (D1 P n b)=true/\(D1 P n b).1.env.all plain=true/\(D1 P n b).2.all (·.env.all plain)=true
 d2:∀b,bb (D2 P n b).1=some (n.jl,[])/\vR (D2 P n b)=true/\(D2 P n b).1.env.all plain=true/\(D2 P n b).2.all (·.env.all plain)=true
 d3:∀b,bb (D3 P n b).1=some (n.OC,[])/\vR (D3 P n b)=true/\(D3 P n b).1.env.all plain=true/\(D3 P n b).2.all (·.env.all plain)=true
 d4:∀b,bb (D4 P n b).1=some (n.sG,[pt b 0,u64 18446744069414584320])/\vR (D4 P n b)=true/\(D4 P n b).1.env.all plain=true/\(D4 P n b).2.all (·.env.all plain)=true
 d5:∀b fl x,rL (DE P n b (f0 fl x) 0).1=some n.en
 Xf:∀b fl x,j7 (l9 P (f0 fl x) (DE P n b (f0 fl x) 0)).1 n.done=true/\(l9 P (f0 fl x) (DE P n b (f0 fl x) 0)).2=[]/\(l9 P (f0 fl x) (DE P n b (f0 fl x) 0)).1.kind=.deferred
 d6:∀b fl,rL (DE P n b (f0 fl false) 1).1=some n.en
 Xg:∀b fl,j7 (l9 P (f0 fl false) (DE P n b (f0 fl false) 1)).1 n.done=true/\(l9 P (f0 fl false) (DE P n b (f0 fl false) 1)).2=[]/\(l9 P (f0 fl false) (DE P n b (f0 fl false) 1)).1.kind=.deferred
 d7:∀b fl,bb (DE P n b (f0 fl true) 1).1=some (n.vF,[pt b 0])/\vR (DE P n b (f0 fl true) 1)=true
 d8:∀b fl,bb (D6 P n b (f0 fl true)).1=some (n.HW,[pt b 0,u64 0])/\vR (D6 P n b (f0 fl true))=true
 d9:∀b fl,bb (D7 P n b (f0 fl true)).1=some (n.oh,[pt b 1,ff,i64 0])/\vR (D7 P n b (f0 fl true))=true
 da:∀b fl,rL (D8 P n b (f0 fl true)).1=some n.en
 db:∀b fl,j7 (l9 P (f0 fl true) (D8 P n b (f0 fl true))).1 n.done=true/\(l9 P (f0 fl true) (D8 P n b (f0 fl true))).2=[]/\(l9 P (f0 fl true) (D8 P n b (f0 fl true))).1.kind=.deferred
 w0:∀b kind,bb (W0 P n b kind).1=some (n.jl,[])/\(W0 P n b kind).1.env.all plain=true/\(W0 P n b kind).2=[]/\(W0 P n b kind).1.kind=kind
 w1:∀b kind,bb (W1 P n b kind).1=some (n.vF,[pt b 0])/\vR (W1 P n b kind)=true/\(W1 P n b kind).1.env.all plain=true/\(W1 P n b kind).2.all (·.env.all plain)=true
 w2:∀b kind fl,bb (WE P n b kind (f0 fl true)).1=some (n.en,[])/\(WE P n b kind (f0 fl true)).1.kind=kind
 w3:∀b kind fl,kz (WC P n b kind (f0 fl true)).1=some (n.tG,n.tU,pt b 0)
 w4:∀b kind fl,bb (WA P n b kind (f0 fl true)).1=some (n.acq,[pt b 0])/\(WA P n b kind (f0 fl true)).1.kind=kind
 w5:∀b kind fl,j7 (WB P n b kind (f0 fl true)).1 n.wait=true/\(WB P n b kind (f0 fl true)).2=[]/\(WB P n b kind (f0 fl true)).1.kind=kind
 w6:∀b kind fl,bb (WE P n b kind (f0 fl false)).1=some (n.xl,[pt b 0,.ew 0,.ew 1])/\vR (WE P n b kind (f0 fl false))=true
 w7:∀b kind fl,GK [5] [[0]] (next P (f0 fl false) (WE P n b kind (f0 fl false)) ff)=W1 P n b kind
 w8:∀b kind fl,kz (W3 P n b kind (f0 fl false)).1=some (n.tS,n.tU,pt b 1)
 w9:∀b kind fl,bb (So P n b kind (f0 fl false)).1=some (n.wr,[pt b 1])/\(So P n b kind (f0 fl false)).1.kind=kind
 wa:∀b kind fl,bb (W4 P n b kind (f0 fl false)).1=some (n.ER,[pt b 1,ff])/\(W4 P n b kind (f0 fl false)).1.kind=kind
 wb:∀b kind fl,bb (W5 P n b kind (f0 fl false)).1=some (n.vF,[pt b 0])/\vR (W5 P n b kind (f0 fl false))=true
 wc:∀b kind fl,bb (Sp P n b kind (f0 fl false)).1=some (n.en,[])/\(Sp P n b kind (f0 fl false)).1.kind=kind
 wd:∀b kind fl,kz (TG P n b kind (f0 fl false)).1=some (n.tG,n.tU,pt b 0)
 we:∀b kind fl,bb (Sq P n b kind (f0 fl false)).1=some (n.acq,[pt b 0])/\(Sq P n b kind (f0 fl false)).1.kind=kind
 wf:∀b kind fl,j7 (P6 P n b kind (f0 fl false)).1 n.wait=true/\(P6 P n b kind (f0 fl false)).2=[]/\(P6 P n b kind (f0 fl false)).1.kind=kind
structure iD(P:acD)(n:HV):Prop where
 jl:Ext P n.jl (λ_=>do mark .disable;pure Extern.Race.none_)
 en:Ext P n.en (λ_=>do mark .enable;pure Extern.Race.none_)
 acq:Ext P n.acq (Extern.Race.marked .acquire)
 rel:Ext P n.rel (Extern.Race.marked .releaseMerge)
 rd:Ext P n.rd (Extern.Race.marked .read)
 wr:Ext P n.wr (Extern.Race.marked .write)
 OC:Ext P n.OC (λ_=>pure (.bool false))
 sG:Ext P n.sG (Extern.Atomic.update (Op.intArith .add) .u64 true)
 vF:Ext P n.vF (Extern.Atomic.loadT (.int .u64))
 HW:Ext P n.HW Extern.Atomic.storeT
 xl:Ext P n.xl (Extern.Atomic.casT (.int .u64))
 ER:Ext P n.ER Extern.Sync.semacquire
 oh:Ext P n.oh Extern.Sync.semrelease
 Xh:∃t,P.underlying n.tG=some (.pointer t)/\P.underlying n.tU=some .unsafePointer/\(P.info? t).map (λi=>decide (i.size=0))=some false
 Xi:∃t,P.underlying n.tS=some (.pointer t)/\P.underlying n.tU=some .unsafePointer/\(P.info? t).map (λi=>decide (i.size=0))=some false
 QY:∃fn body,P.funcs[n.add]?=some fn/\fn.body=some body/\fn.ntmps=117/\fn.results=#[]
 KP:∃fn body,P.funcs[n.done]?=some fn/\fn.body=some body/\fn.ntmps=4/\fn.results=#[]
 KQ:∃fn body,P.funcs[n.wait]?=some fn/\fn.body=some body/\fn.ntmps=84/\fn.results=#[]
