import Derived.Conc.DeferLaws
import Derived.Conc.AtomicLaws
import Derived.Test.YtebcbkhnlnkolaaGreatDoorC7
set_option linter.all false
namespace Go.ck
open Go.Conc
def sA (s:pP):Option FuncId:=
 match s.mode,s.defers with
 | .ret,[{ target:=.fn (.func g) cap,args:=as }]=>if cap=#[]∧as=#[] then some g else none
 | _,_=>none
def kL(s:pP)(f:FuncId):Bool:=(match s.mode with|.ret=>true|.run=>false) && s.defers.isEmpty && s.fn==f
section
variable{P:adT}{Wd:adz}{main:Bool}{y:Sy}{s:pP}{fr:Frame}{f:FuncId}{svs:List SV}{cs:adE}{w:World}
def Ck (p:FR y s fr) (h:sA s=some f) (q:Ext P f (fun _=>do mark .enable;pure Extern.Race.none_)) :
 stepG P main (G fr cs) w = .go (G { fr with defers:=[] } cs) w #[⟨.mark .enable,false,true⟩]∧FR y { s with defers:=[] } { fr with defers:=[] }:=by
 obtain⟨fn,η,todo,θ,mode,τ,ro⟩:=fr;obtain⟨i,j,d,c,k,l,m,n⟩:=p;simp only at i j d c k l m n;subst l;unfold sA at h;split at h
 . rename_i g cap as o hd
   split at h
   . rename_i e
     obtain⟨rfl,rfl⟩:=e;simp only[kn] at h;subst h;rw[o] at c;have c:mode = .returning:=c;subst c;rw[hd] at d;subst d;obtain⟨r,t,u,x,z,A⟩:=q.ex;refine⟨?_,⟨i,j,rfl,by rw[o];rfl,k,rfl,m,n⟩⟩
     exact stepG_unwind_entry (P:=P) (main:=main) (b:=⟨fn,η,todo,[],.returning,τ,none⟩) (a:=⟨η,[{ target:=.fn (.func g) #[],args:=#[] }]⟩) (todo:=todo) (cs:=cs) (w:=w) (ds:=[]) (f:=g) (args:=#[]) (v:=.tuple #[]) rfl t u x z A (by simp[Extern.Race.none_]) (by simp) (by
      simp_all)
   . cases h
 . cases h
def lO{fn c μ}(o:FR y s fr)(h:kL s f=true)(j:P.funcs[f]?=some fn)(a:fn.results=#[])(k:s.kind≠.early):tp P Wd (G fr (c::μ)) (kH s.kind c μ (.tuple #[])):=by
 obtain⟨p,η,todo,θ,mode,τ,ro⟩:=fr;obtain⟨l,q,g,d,m,n,r,t⟩:=o;simp only at l q g d m n r t;subst n;unfold kL at h;simp only[wL,acm,List.isEmpty_iff]at h;obtain⟨⟨u,hd⟩,rfl⟩:=h;have i:s.mode=.ret:=by grind
 rw[i]at d;have d:mode=.returning:=d;subst d;rw[hd]at g;subst g;subst l;subst m;have b:∀w:World,(results fn η).run P w=.ok (.tuple #[]) w:=λw=>by simp[results,a]
 have e:∀w:World,(results fn η).events P w #[]=#[]:=λw=>by simp[results,a]
 refine⟨rfl,λmain w _=>?_⟩;generalize s.kind=kd at k ⊢
 cases kd<;>first
  |exact absurd rfl k
  |(simp[G,stepG,unwind,j,b,e,doReturn,GStep.after,kH,lK,iq];done)
  |(simp[G,stepG,unwind,j,b,e,doReturn,GStep.after,kH,lK,iq];rfl)
def uR {ad v} (c:FR y s fr) (h:bh s=some (f,[.lit (.pointer (some ad))])) (d:s.kind ≠ .early) (e:Ext P f (Extern.Atomic.loadT (.int .u64))) (g:w.cell? ad=some (.int .u64 v)) :
 stepG P main (G fr cs) w = .go (G (fr.finish (.int .u64 v)) cs) w #[⟨.cell ad,false,true⟩]:=by
 obtain⟨ζ,i,μ,kk,o,as,j,k,l,m,n,A,B⟩:=dD c h;obtain⟨fn,p,q,r,t,u⟩:=e.ex;obtain⟨x,rfl,z⟩:=Mj n;have:=stepG_load_atomic (P:=P) (main:=main) (b:=fr) (a:=⟨fr.tmps,fr.defers⟩) (kk:=kk) (cs:=cs) (w:=w) (rest:=μ) k l (by rw[c.kind];exact d) m p q r t .u64 u (jj c z) g
 grind
def Ju {ad v u} (c:FR y s fr) (h:bh s=some (f,[.lit (.pointer (some ad)),.lit (.int .u64 v)])) (e:s.kind ≠ .early) (g:Ext P f Extern.Atomic.storeT) (j:w.cell? ad=some u) (k:w.frozen? ad=false) :
 stepG P main (G fr cs) w = .go (G (fr.finish (.tuple #[])) cs) (w.setCell ad (.int .u64 v)) #[⟨.cell ad,true,true⟩]:=by
 obtain⟨ζ,i,μ,kk,o,as,l,m,n,p,q,E,F⟩:=dD c h;obtain⟨fn,r,t,A,B,C⟩:=g.ex;obtain⟨x,z,rfl,D,d⟩:=Mi q;have:=stepG_store_atomic (P:=P) (main:=main) (b:=fr) (a:=⟨fr.tmps,fr.defers⟩) (kk:=kk) (cs:=cs) (w:=w) (rest:=μ) m n (by rw[c.kind];exact e) p r t A B C (jj c D) (jj c d) j k
 grind
end
structure Qr where
 add:Nat
 done:Nat
 wait:Nat
 jR:Nat
 en:Nat
 acq:Nat
 rel:Nat
 rd:Nat
 wr:Nat
 Qs:Nat
 tz:Nat
 wJ:Nat
 Jv:Nat
 ym:Nat
 Gb:Nat
 oO:Nat
 tG:Nat
 tU:Nat
 tS:Nat
def u64(n:Int):SV:=.lit (.int .u64 n)
def rP:List pP->List adL->List pP
 |[],_=>[]
 |s::st,[]=>keep [] s::rP st []
 |s::st,l::ls=>keep l s::rP st ls
def Ii(live:adL)(a:List adL)(c:dc):dc:=(keep live c.1,rP c.2 a)
section
variable(P:adT)(n:Qr)(b:Nat)(τ:adP)(fl:Fl)
def A0:dc:=sgo P lN 400 (dR P n.add [pt b 0,i64 1] τ) []
def A1:dc:=next P lN (A0 P n b τ) un
def A2:dc:=next P lN (A1 P n b τ) ff
def A3:dc:=next P fl (A2 P n b τ) (.eZ 0)
def A4:dc:=next P fl (A3 P n b τ fl) (pt b 1)
def A5:dc:=next P fl (A4 P n b τ fl) un
def D0:dc:=sgo P lN 400 (dR P n.done [pt b 0] .deferred) []
def D1:dc:=next P lN (D0 P n b) (pt b 0)
def D2:dc:=next P lN (D1 P n b) un
def D3:dc:=next P lN (D2 P n b) un
def D4:dc:=next P lN (D3 P n b) ff
def DE(w:Nat):dc:=next P fl (D4 P n b) (.eZ w)
def D6:dc:=next P fl (DE P n b fl 1) (.eZ 1)
def D7:dc:=next P fl (D6 P n b fl) un
def D8:dc:=next P fl (D7 P n b fl) un
def mN(c:dc):dc:=sgo P fl 400 {c.1 with defers:=[]} c.2
def W0:dc:=Ii [0] [] (sgo P lN 400 (dR P n.wait [pt b 0] τ) [])
def W1:dc:=Ii [5] [[0]] (next P lN (W0 P n b τ) un)
def WE:dc:=next P fl (W1 P n b τ) (.eZ 0)
def WC:dc:=next P fl (WE P n b τ fl) un
def WA:dc:=next P fl (WC P n b τ fl) (pt b 0)
def WB:dc:=next P fl (WA P n b τ fl) un
def W3:dc:=next P fl (WE P n b τ fl) tt
def Uw:dc:=next P fl (W3 P n b τ fl) (pt b 1)
def W4:dc:=next P fl (Uw P n b τ fl) un
def W5:dc:=next P fl (W4 P n b τ fl) un
def Ux:dc:=next P fl (W5 P n b τ fl) (u64 0)
def VK:dc:=next P fl (Ux P n b τ fl) un
def Uy:dc:=next P fl (VK P n b τ fl) (pt b 0)
def RU:dc:=next P fl (Uy P n b τ fl) un
end
def f1(fl:Fl)(x:Bool):Fl:={fl with c1:=x}
def f0(fl:Fl)(x:Bool):Fl:={fl with c0:=x}
def xd(c:dc):Bool:=c.1.kind==.normal
structure iu  P   n :Prop where
 a0:∀b τ,bh (A0 P n b τ).1=some (n.jR,[])/\(A0 P n b τ).1.env.all plain=true/\(A0 P n b τ).2=[]/\(A0 P n b τ).1.kind=τ
 a1:∀b τ,bh (A1 P n b τ).1=some (n.Qs,[])/\(A1 P n b τ).1.env.all plain=true/\(A1 P n b τ).2=[]/\(A1 P n b τ).1.kind=τ
 a2:∀b τ,bh (A2 P n b τ).1=some (n.tz,[pt b 0,u64 4294967296])/\xd (A2 P n b τ)=true/\(A2 P n b τ).1.env.all plain=true/\(A2 P n b τ).2.all (·.env.all plain)=true
 a3:∀b τ fl,kY (A3 P n b τ (f1 fl true)).1=some (n.tS,n.tU,pt b 1)
 a4:∀b τ fl,bh (A4 P n b τ (f1 fl true)).1=some (n.rd,[pt b 1])/\(A4 P n b τ (f1 fl true)).1.kind=τ
 a5:∀b τ fl,sA (A5 P n b τ (f0 (f1 fl true) false)).1=some n.en/\(A5 P n b τ (f0 (f1 fl true) false)).2=[]/\(A5 P n b τ (f0 (f1 fl true) false)).1.kind=τ/\(A5 P n b τ (f0 (f1 fl true) false)).1.fn=n.add
 a6:∀b τ fl,sA (A3 P n b τ (f0 (f1 fl false) false)).1=some n.en/\(A3 P n b τ (f0 (f1 fl false) false)).2=[]/\(A3 P n b τ (f0 (f1 fl false) false)).1.kind=τ/\(A3 P n b τ (f0 (f1 fl false) false)).1.fn=n.add
 d0:∀b,kY (D0 P n b).1=some (n.tG,n.tU,pt b 0)/\(D0 P n b).1.env.all plain=true/\(D0 P n b).2.all (·.env.all plain)=true
 d1:∀b,bh (D1 P n b).1=some (n.rel,[pt b 0])/\xd (D1 P n b)=true/\(D1 P n b).1.env.all plain=true/\(D1 P n b).2.all (·.env.all plain)=true
 d2:∀b,bh (D2 P n b).1=some (n.jR,[])/\xd (D2 P n b)=true/\(D2 P n b).1.env.all plain=true/\(D2 P n b).2.all (·.env.all plain)=true
 d3:∀b,bh (D3 P n b).1=some (n.Qs,[])/\xd (D3 P n b)=true/\(D3 P n b).1.env.all plain=true/\(D3 P n b).2.all (·.env.all plain)=true
 d4:∀b,bh (D4 P n b).1=some (n.tz,[pt b 0,u64 18446744069414584320])/\xd (D4 P n b)=true/\(D4 P n b).1.env.all plain=true/\(D4 P n b).2.all (·.env.all plain)=true
 d5:∀b fl x,sA (DE P n b (f0 fl x) 0).1=some n.en
 Zj:∀b fl x,kL (mN P (f0 fl x) (DE P n b (f0 fl x) 0)).1 n.done=true/\(mN P (f0 fl x) (DE P n b (f0 fl x) 0)).2=[]/\(mN P (f0 fl x) (DE P n b (f0 fl x) 0)).1.kind=.deferred
 d6:∀b fl,sA (DE P n b (f0 fl false) 1).1=some n.en
 Zk:∀b fl,kL (mN P (f0 fl false) (DE P n b (f0 fl false) 1)).1 n.done=true/\(mN P (f0 fl false) (DE P n b (f0 fl false) 1)).2=[]/\(mN P (f0 fl false) (DE P n b (f0 fl false) 1)).1.kind=.deferred
 d7:∀b fl,bh (DE P n b (f0 fl true) 1).1=some (n.wJ,[pt b 0])/\xd (DE P n b (f0 fl true) 1)=true
 d8:∀b fl,bh (D6 P n b (f0 fl true)).1=some (n.Jv,[pt b 0,u64 0])/\xd (D6 P n b (f0 fl true))=true
 d9:∀b fl,bh (D7 P n b (f0 fl true)).1=some (n.oO,[pt b 1,ff,i64 0])/\xd (D7 P n b (f0 fl true))=true
 da:∀b fl,sA (D8 P n b (f0 fl true)).1=some n.en
 db:∀b fl,kL (mN P (f0 fl true) (D8 P n b (f0 fl true))).1 n.done=true/\(mN P (f0 fl true) (D8 P n b (f0 fl true))).2=[]/\(mN P (f0 fl true) (D8 P n b (f0 fl true))).1.kind=.deferred
 w0:∀b τ,bh (W0 P n b τ).1=some (n.jR,[])/\(W0 P n b τ).1.env.all plain=true/\(W0 P n b τ).2=[]/\(W0 P n b τ).1.kind=τ
 w1:∀b τ,bh (W1 P n b τ).1=some (n.wJ,[pt b 0])/\xd (W1 P n b τ)=true/\(W1 P n b τ).1.env.all plain=true/\(W1 P n b τ).2.all (·.env.all plain)=true
 w2:∀b τ fl,bh (WE P n b τ (f0 fl true)).1=some (n.en,[])/\(WE P n b τ (f0 fl true)).1.kind=τ
 w3:∀b τ fl,kY (WC P n b τ (f0 fl true)).1=some (n.tG,n.tU,pt b 0)
 w4:∀b τ fl,bh (WA P n b τ (f0 fl true)).1=some (n.acq,[pt b 0])/\(WA P n b τ (f0 fl true)).1.kind=τ
 w5:∀b τ fl,kL (WB P n b τ (f0 fl true)).1 n.wait=true/\(WB P n b τ (f0 fl true)).2=[]/\(WB P n b τ (f0 fl true)).1.kind=τ
 w6:∀b τ fl,bh (WE P n b τ (f0 fl false)).1=some (n.ym,[pt b 0,.eZ 0,.eZ 1])/\xd (WE P n b τ (f0 fl false))=true
 w7:∀b τ fl,Ii [5] [[0]] (next P (f0 fl false) (WE P n b τ (f0 fl false)) ff)=W1 P n b τ
 w8:∀b τ fl,kY (W3 P n b τ (f0 fl false)).1=some (n.tS,n.tU,pt b 1)
 w9:∀b τ fl,bh (Uw P n b τ (f0 fl false)).1=some (n.wr,[pt b 1])/\(Uw P n b τ (f0 fl false)).1.kind=τ
 wa:∀b τ fl,bh (W4 P n b τ (f0 fl false)).1=some (n.Gb,[pt b 1,ff])/\(W4 P n b τ (f0 fl false)).1.kind=τ
 wb:∀b τ fl,bh (W5 P n b τ (f0 fl false)).1=some (n.wJ,[pt b 0])/\xd (W5 P n b τ (f0 fl false))=true
 wc:∀b τ fl,bh (Ux P n b τ (f0 fl false)).1=some (n.en,[])/\(Ux P n b τ (f0 fl false)).1.kind=τ
 wd:∀b τ fl,kY (VK P n b τ (f0 fl false)).1=some (n.tG,n.tU,pt b 0)
 we:∀b τ fl,bh (Uy P n b τ (f0 fl false)).1=some (n.acq,[pt b 0])/\(Uy P n b τ (f0 fl false)).1.kind=τ
 wf:∀b τ fl,kL (RU P n b τ (f0 fl false)).1 n.wait=true/\(RU P n b τ (f0 fl false)).2=[]/\(RU P n b τ (f0 fl false)).1.kind=τ
structure iW  P  (n:Qr):Prop where
 jR:Ext P n.jR (λ_=>do mark .disable;pure Extern.Race.none_)
 en:Ext P n.en (λ_=>do mark .enable;pure Extern.Race.none_)
 acq:Ext P n.acq (Extern.Race.marked .acquire)
 rel:Ext P n.rel (Extern.Race.marked .releaseMerge)
 rd:Ext P n.rd (Extern.Race.marked .read)
 wr:Ext P n.wr (Extern.Race.marked .write)
 Qs:Ext P n.Qs (λ_=>pure (.bool false))
 tz:Ext P n.tz (Extern.Atomic.update (Op.intArith .add) .u64 true)
 wJ:Ext P n.wJ (Extern.Atomic.loadT (.int .u64))
 Jv:Ext P n.Jv Extern.Atomic.storeT
 ym:Ext P n.ym (Extern.Atomic.casT (.int .u64))
 Gb:Ext P n.Gb Extern.Sync.semacquire
 oO:Ext P n.oO Extern.Sync.semrelease
 Zl:∃t,P.underlying n.tG=some (.pointer t)/\P.underlying n.tU=some .unsafePointer/\(P.info? t).map (λi=>decide (i.size=0))=some false
 Zm:∃t,P.underlying n.tS=some (.pointer t)/\P.underlying n.tU=some .unsafePointer/\(P.info? t).map (λi=>decide (i.size=0))=some false
 SU:∃fn body,P.funcs[n.add]?=some fn/\fn.body=some body/\fn.ntmps=117/\fn.results=#[]
 MA:∃fn body,P.funcs[n.done]?=some fn/\fn.body=some body/\fn.ntmps=4/\fn.results=#[]
 MB:∃fn body,P.funcs[n.wait]?=some fn/\fn.body=some body/\fn.ntmps=84/\fn.results=#[]
