import Derived.Conc.DeferLaws
import Derived.Conc.AtomicLaws
import Derived.Test.YtggpckcdfilkoaaGreatDoorC7
set_option linter.all false
namespace Go.bu
open Go.Conc
def yp (s:vS):Option FuncId:=
 match s.mode,s.defers with
 | .ret,[{ target:=.fn (.func g) cap,args:=as }]=>if cap=#[]∧as=#[] then some g else none
 | _,_=>none
def pQ(s:vS)(f:FuncId):Bool:=(match s.mode with|.ret=>true|.run=>false) && s.defers.isEmpty && s.fn==f
section
variable{P:Rg}{Wd:FD}{γ:Bool}{y:Sy}{s:vS}{fr:Frame}{f:FuncId}{svs:List SV}{cs:E8}{w:World}
def HC (i:FR y s fr) (h:yp s=some f) (j:Ext P f (fun _=>do mark .enable;pure Extern.Race.none_)) :
 stepG P γ (G fr cs) w = .go (G { fr with defers:=[] } cs) w #[⟨.mark .enable,false,true⟩]∧FR y { s with defers:=[] } { fr with defers:=[] }:=by
 obtain⟨fn,τ,todo,ξ,mode,ν,ro⟩:=fr;obtain⟨k,l,d,e,m,n,o,p⟩:=i;subst n;unfold yp at h;split at h
 . rename_i g cap as q hd
   split at h
   . rename_i c
     obtain⟨rfl,rfl⟩:=c;simp  [td] at h;subst h;rw[q] at e;subst e;rw[hd] at d;subst d;obtain⟨r,t,u,x,z,A⟩:=j.ex;refine⟨?_,⟨k,l,rfl,am,m,rfl,o,p⟩⟩
     exact stepG_unwind_entry (P:=P) (main:=γ) (b:=⟨fn,τ,todo,[],.returning,ν,none⟩) (a:=⟨τ,[{ target:=.fn _ #[],args:=#[] }]⟩)       (v:=.tuple #[]) rfl t u x z A (by simp[Extern.Race.none_]) ap (by
      grind)
   grind
 grind
def qQ{fn c μ}(l:FR y s fr)(h:pQ s f=true)(g:P.funcs[f]?=some fn)(a:fn.results=#[])(i:s.kind≠.early):zd P Wd (G fr (c::μ)) (qz s.kind c μ (.tuple #[])):=by
 obtain⟨m,τ,todo,ξ,mode,ν,ro⟩:=fr;obtain⟨n,p,j,k,o,q,r,t⟩:=l;unfold pQ at h;simp  [vc,DW,List.isEmpty_iff]at h;obtain⟨⟨u,hd⟩,rfl⟩:=h;have d:s.mode=.ret:=am
 rw[d]at k;subst k;rw[hd]at j;subst j;subst n;subst o;have b:∀w:World,(results fn τ).run P w=.ok (.tuple #[]) w:=λw=>by simp[results,a]
 have e:∀w:World,(results fn τ).events P w #[]=#[]:=λw=>by simp[results,a]
 refine⟨rfl,λγ w _=>?_⟩;generalize s.kind=kd at i ⊢
 cases kd<;>first
  |exact absurd rfl i
  |(simp[G,stepG,unwind,g,b];done)
  |(simp[G,stepG,unwind,g,b,e];rfl)
def AW {ad v} (a:FR y s fr) (h:ck s=some (f,[.lit (.pointer (some ad))])) (t:s.kind ≠ .early) (b:Ext P f (Extern.Atomic.loadT (.int .u64))) (c:w.cell? ad=some (.int .u64 v)) :
 stepG P γ (G fr cs) w = .go (G (fr.finish (.int .u64 v)) cs) w #[⟨.cell ad,false,true⟩]:=by
 obtain⟨ο,i,μ,kk,o,as,d,e,g,j,k,u,z⟩:=gh a h;obtain⟨fn,l,m,n,p,q⟩:=b.ex;obtain⟨x,rfl,r⟩:=Sb k;have:=stepG_load_atomic  (main:=γ)   (kk:=kk) (cs:=cs)  (rest:=μ) e g (by rw[a.kind];omega) j l m n p .u64 q (m5 a r) c
 grind
def ajs {ad v u} (a:FR y s fr) (h:ck s=some (f,[.lit (.pointer (some ad)),.lit (.int .u64 v)])) (B:s.kind ≠ .early) (c:Ext P f Extern.Atomic.storeT) (d:w.cell? ad=some u) (e:w.frozen? ad=false) :
 stepG P γ (G fr cs) w = .go (G (fr.finish (.tuple #[])) cs) (w.setCell ad (.int .u64 v)) #[⟨.cell ad,true,true⟩]:=by
 obtain⟨ο,i,μ,kk,o,as,g,j,k,l,m,C,D⟩:=gh a h;obtain⟨fn,n,p,q,r,t⟩:=c.ex;obtain⟨x,z,rfl,A,b⟩:=Sa m;have:=stepG_store_atomic  (main:=γ)   (kk:=kk) (cs:=cs)  (rest:=μ) j k (by rw[a.kind];omega) l n p q r t (m5 a A) (m5 a b) d e
 grind
end
structure W6 where
 add:Nat
 done:Nat
 wait:Nat
 om:Nat
 en:Nat
 acq:Nat
 rel:Nat
 rd:Nat
 wr:Nat
 W8:Nat
 zi:Nat
 Co:Nat
 O9:Nat
 Du:Nat
 LS:Nat
 uV:Nat
 tG:Nat
 tU:Nat
 tS:Nat
def u64(n:Int):SV:=.lit (.int .u64 n)
def xY:List vS->List ZB->List vS
 |[],_=>[]
 |s::st,[]=>keep [] s::xY st []
 |s::st,l::ls=>keep l s::xY st ls
def NW(live:ZB)(a:List ZB)(c:fq):fq:=(keep live c.1,xY c.2 a)
section
variable(P:Rg)(n:W6)(b:Nat)(ν:FB)(fl:Fl)
def A0:fq:=sgo P qO 400 (ia P n.add [pt b 0,i64 1] ν) []
def A1:fq:=next P qO (A0 P n b ν) un
def A2:fq:=next P qO (A1 P n b ν) ff
def A3:fq:=next P fl (A2 P n b ν) (.ju 0)
def A4:fq:=next P fl (A3 P n b ν fl) (pt b 1)
def A5:fq:=next P fl (A4 P n b ν fl) un
def D0:fq:=sgo P qO 400 (ia P n.done [pt b 0] .deferred) []
def D1:fq:=next P qO (D0 P n b) (pt b 0)
def D2:fq:=next P qO (D1 P n b) un
def D3:fq:=next P qO (D2 P n b) un
def D4:fq:=next P qO (D3 P n b) ff
def DE(w:Nat):fq:=next P fl (D4 P n b) (.ju w)
def D6:fq:=next P fl (DE P n b fl 1) (.ju 1)
def D7:fq:=next P fl (D6 P n b fl) un
def D8:fq:=next P fl (D7 P n b fl) un
def su(c:fq):fq:=sgo P fl 400 {c.1 with defers:=[]} c.2
def W0:fq:=NW [0] [] (sgo P qO 400 (ia P n.wait [pt b 0] ν) [])
def W1:fq:=NW [5] [[0]] (next P qO (W0 P n b ν) un)
def WE:fq:=next P fl (W1 P n b ν) (.ju 0)
def WC:fq:=next P fl (WE P n b ν fl) un
def WA:fq:=next P fl (WC P n b ν fl) (pt b 0)
def WB:fq:=next P fl (WA P n b ν fl) un
def W3:fq:=next P fl (WE P n b ν fl) tt
def Na:fq:=next P fl (W3 P n b ν fl) (pt b 1)
def W4:fq:=next P fl (Na P n b ν fl) un
def W5:fq:=next P fl (W4 P n b ν fl) un
def Mw:fq:=next P fl (W5 P n b ν fl) (u64 0)
def My:fq:=next P fl (Mw P n b ν fl) un
def Mz:fq:=next P fl (My P n b ν fl) (pt b 0)
def YQ:fq:=next P fl (Mz P n b ν fl) un
end
def f1(fl:Fl)(x:Bool):Fl:={fl with c1:=x}
def f0(fl:Fl)(x:Bool):Fl:={fl with c0:=x}
def CC(c:fq):Bool:=c.1.kind==.normal
structure lH  P   n :Prop where
 a0:∀b ν,ck (A0 P n b ν).1=some (n.om,[])/\(A0 P n b ν).1.env.all plain=true/\(A0 P n b ν).2=[]/\(A0 P n b ν).1.kind=ν
 a1:∀b ν,ck (A1 P n b ν).1=some (n.W8,[])/\(A1 P n b ν).1.env.all plain=true/\(A1 P n b ν).2=[]/\(A1 P n b ν).1.kind=ν
 a2:∀b ν,ck (A2 P n b ν).1=some (n.zi,[pt b 0,u64 4294967296])/\CC (A2 P n b ν)=true/\(A2 P n b ν).1.env.all plain=true/\(A2 P n b ν).2.all (·.env.all plain)=true
 a3:∀b ν fl,qh (A3 P n b ν (f1 fl true)).1=some (n.tS,n.tU,pt b 1)
 a4:∀b ν fl,ck (A4 P n b ν (f1 fl true)).1=some (n.rd,[pt b 1])/\(A4 P n b ν (f1 fl true)).1.kind=ν
 a5:∀b ν fl,yp (A5 P n b ν (f0 (f1 fl true) false)).1=some n.en/\(A5 P n b ν (f0 (f1 fl true) false)).2=[]/\(A5 P n b ν (f0 (f1 fl true) false)).1.kind=ν/\(A5 P n b ν (f0 (f1 fl true) false)).1.fn=n.add
 a6:∀b ν fl,yp (A3 P n b ν (f0 (f1 fl false) false)).1=some n.en/\(A3 P n b ν (f0 (f1 fl false) false)).2=[]/\(A3 P n b ν (f0 (f1 fl false) false)).1.kind=ν/\(A3 P n b ν (f0 (f1 fl false) false)).1.fn=n.add
 d0:∀b,qh (D0 P n b).1=some (n.tG,n.tU,pt b 0)/\(D0 P n b).1.env.all plain=true/\(D0 P n b).2.all (·.env.all plain)=true
 d1:∀b,ck (D1 P n b).1=some (n.rel,[pt b 0])/\CC (D1 P n b)=true/\(D1 P n b).1.env.all plain=true/\(D1 P n b).2.all (·.env.all plain)=true
 d2:∀b,ck (D2 P n b).1=some (n.om,[])/\CC (D2 P n b)=true/\(D2 P n b).1.env.all plain=true/\(D2 P n b).2.all (·.env.all plain)=true
 d3:∀b,ck (D3 P n b).1=some (n.W8,[])/\CC (D3 P n b)=true/\(D3 P n b).1.env.all plain=true/\(D3 P n b).2.all (·.env.all plain)=true
 d4:∀b,ck (D4 P n b).1=some (n.zi,[pt b 0,u64 18446744069414584320])/\CC (D4 P n b)=true/\(D4 P n b).1.env.all plain=true/\(D4 P n b).2.all (·.env.all plain)=true
 d5:∀b fl x,yp (DE P n b (f0 fl x) 0).1=some n.en
 d5b:∀b fl x,pQ (su P (f0 fl x) (DE P n b (f0 fl x) 0)).1 n.done=true/\(su P (f0 fl x) (DE P n b (f0 fl x) 0)).2=[]/\(su P (f0 fl x) (DE P n b (f0 fl x) 0)).1.kind=.deferred
 d6:∀b fl,yp (DE P n b (f0 fl false) 1).1=some n.en
 d6b:∀b fl,pQ (su P (f0 fl false) (DE P n b (f0 fl false) 1)).1 n.done=true/\(su P (f0 fl false) (DE P n b (f0 fl false) 1)).2=[]/\(su P (f0 fl false) (DE P n b (f0 fl false) 1)).1.kind=.deferred
 d7:∀b fl,ck (DE P n b (f0 fl true) 1).1=some (n.Co,[pt b 0])/\CC (DE P n b (f0 fl true) 1)=true
 d8:∀b fl,ck (D6 P n b (f0 fl true)).1=some (n.O9,[pt b 0,u64 0])/\CC (D6 P n b (f0 fl true))=true
 d9:∀b fl,ck (D7 P n b (f0 fl true)).1=some (n.uV,[pt b 1,ff,i64 0])/\CC (D7 P n b (f0 fl true))=true
 da:∀b fl,yp (D8 P n b (f0 fl true)).1=some n.en
 db:∀b fl,pQ (su P (f0 fl true) (D8 P n b (f0 fl true))).1 n.done=true/\(su P (f0 fl true) (D8 P n b (f0 fl true))).2=[]/\(su P (f0 fl true) (D8 P n b (f0 fl true))).1.kind=.deferred
 w0:∀b ν,ck (W0 P n b ν).1=some (n.om,[])/\(W0 P n b ν).1.env.all plain=true/\(W0 P n b ν).2=[]/\(W0 P n b ν).1.kind=ν
 w1:∀b ν,ck (W1 P n b ν).1=some (n.Co,[pt b 0])/\CC (W1 P n b ν)=true/\(W1 P n b ν).1.env.all plain=true/\(W1 P n b ν).2.all (·.env.all plain)=true
 w2:∀b ν fl,ck (WE P n b ν (f0 fl true)).1=some (n.en,[])/\(WE P n b ν (f0 fl true)).1.kind=ν
 w3:∀b ν fl,qh (WC P n b ν (f0 fl true)).1=some (n.tG,n.tU,pt b 0)
 w4:∀b ν fl,ck (WA P n b ν (f0 fl true)).1=some (n.acq,[pt b 0])/\(WA P n b ν (f0 fl true)).1.kind=ν
 w5:∀b ν fl,pQ (WB P n b ν (f0 fl true)).1 n.wait=true/\(WB P n b ν (f0 fl true)).2=[]/\(WB P n b ν (f0 fl true)).1.kind=ν
 w6:∀b ν fl,ck (WE P n b ν (f0 fl false)).1=some (n.Du,[pt b 0,.ju 0,.ju 1])/\CC (WE P n b ν (f0 fl false))=true
 w7:∀b ν fl,NW [5] [[0]] (next P (f0 fl false) (WE P n b ν (f0 fl false)) ff)=W1 P n b ν
 w8:∀b ν fl,qh (W3 P n b ν (f0 fl false)).1=some (n.tS,n.tU,pt b 1)
 w9:∀b ν fl,ck (Na P n b ν (f0 fl false)).1=some (n.wr,[pt b 1])/\(Na P n b ν (f0 fl false)).1.kind=ν
 wa:∀b ν fl,ck (W4 P n b ν (f0 fl false)).1=some (n.LS,[pt b 1,ff])/\(W4 P n b ν (f0 fl false)).1.kind=ν
 wb:∀b ν fl,ck (W5 P n b ν (f0 fl false)).1=some (n.Co,[pt b 0])/\CC (W5 P n b ν (f0 fl false))=true
 wc:∀b ν fl,ck (Mw P n b ν (f0 fl false)).1=some (n.en,[])/\(Mw P n b ν (f0 fl false)).1.kind=ν
 wd:∀b ν fl,qh (My P n b ν (f0 fl false)).1=some (n.tG,n.tU,pt b 0)
 we:∀b ν fl,ck (Mz P n b ν (f0 fl false)).1=some (n.acq,[pt b 0])/\(Mz P n b ν (f0 fl false)).1.kind=ν
 wf:∀b ν fl,pQ (YQ P n b ν (f0 fl false)).1 n.wait=true/\(YQ P n b ν (f0 fl false)).2=[]/\(YQ P n b ν (f0 fl false)).1.kind=ν
structure mP  P  (n:W6):Prop where
 om:Ext P n.om (λ_=>do mark .disable;pure Extern.Race.none_)
 en:Ext P n.en (λ_=>do mark .enable;pure Extern.Race.none_)
 acq:Ext P n.acq (Extern.Race.marked .acquire)
 rel:Ext P n.rel (Extern.Race.marked .releaseMerge)
 rd:Ext P n.rd (Extern.Race.marked .read)
 wr:Ext P n.wr (Extern.Race.marked .write)
 W8:Ext P n.W8 (λ_=>pure (.bool false))
 zi:Ext P n.zi (Extern.Atomic.update (Op.intArith .add) .u64 true)
 Co:Ext P n.Co (Extern.Atomic.loadT (.int .u64))
 O9:Ext P n.O9 Extern.Atomic.storeT
 Du:Ext P n.Du (Extern.Atomic.casT (.int .u64))
 LS:Ext P n.LS Extern.Sync.semacquire
 uV:Ext P n.uV Extern.Sync.semrelease
 tyG:∃t,P.underlying n.tG=some (.pointer t)/\P.underlying n.tU=some .unsafePointer/\(P.info? t).map (λi=>decide (i.size=0))=some false
 tyS:∃t,P.underlying n.tS=some (.pointer t)/\P.underlying n.tU=some .unsafePointer/\(P.info? t).map (λi=>decide (i.size=0))=some false
 ZP:∃fn body,P.funcs[n.add]?=some fn/\fn.body=some body/\fn.ntmps=117/\fn.results=#[]
 Sq:∃fn body,P.funcs[n.done]?=some fn/\fn.body=some body/\fn.ntmps=4/\fn.results=#[]
 Sr:∃fn body,P.funcs[n.wait]?=some fn/\fn.body=some body/\fn.ntmps=84/\fn.results=#[]
