import Derived.Conc.QuitsD
import Derived.Test.YtkcceaplmgdnfaaGreatDoorC8
set_option linter.all false
namespace Go.cC
open Go.Conc
inductive GJ where
 |a0|a2|a4|ae
 |d1|d2|d4|d5|d6|d7
 |w0|w1|we|wa|w2 (c:Nat)|w3|w4|w5
structure qL  b  (w:World) (c v m:Nat):Prop where
 cw:w.cell? ⟨b,0,none⟩=some (.int .u64 (eC c v))
 cs:w.cell? ⟨b,1,none⟩=some (.int .u32 m)
 fz:∀i,w.frozen? ⟨b,i,none⟩=false
def qL.aU{b w c v m}(h:qL b w c v m)(c' a:Nat):qL b (w.setCell ⟨b,0,none⟩ (.int .u64 (eC c' a))) c' a m:=⟨jS h.cw,by rw[dC (by simp)];exact h.cs,λi=>by rw[nY];exact h.fz i⟩
def qL.EU{b w c v m}(h:qL b w c v m)(a:Nat):qL b (w.setCell ⟨b,1,none⟩ (.int .u32 a)) c v a:=⟨by rw[dC (by simp)];exact h.cw,jS h.cs,λi=>by rw[nY];exact h.fz i⟩
section
variable(P:acH)(n:OA)(b:Nat)(kind:acD)
def YT(p:GJ)(c:cN)(y:Sy):Prop:=
 match p with
 |.a0=>c=A0 P n b kind
 |.a2=>c=A2 P n b kind
 |.a4=>c=A4 P n b kind (Fl.of y)/\y.c=1
 |.ae=>y.c≠0/\((c=A5 P n b kind (Fl.of y)/\y.c=1)\/(c=A3 P n b kind (Fl.of y)/\y.c≠1))
 |.d1=>c=D1 P n b
 |.d2=>c=D2 P n b
 |.d4=>c=D4 P n b
 |.d5=>c=DE P n b (Fl.of y) 1/\y.c=0
 |.d6=>c=D6 P n b (Fl.of y)/\y.c=0
 |.d7=>c=D7 P n b (Fl.of y)/\y.c=0
 |.w0=>c=W0 P n b kind
 |.w1=>c=W1 P n b kind
 |.we=>(c=WE P n b kind (Fl.of y)/\y.c=0)\/(c=Ss P n b kind (Fl.of y)/\y.c≠0)
 |.wa=>(c=WA P n b kind (Fl.of y)/\y.c=0)\/(c=Su P n b kind (Fl.of y)/\y.c≠0)
 |.w2 k=>c=WE P n b kind (Fl.of y)/\y.c=k/\k≠0
 |.w3=>c=Sr P n b kind (Fl.of y)/\y.c≠0
 |.w4=>c=W4 P n b kind (Fl.of y)/\y.c≠0
 |.w5=>c=W5 P n b kind (Fl.of y)/\y.c≠0
def qM(p:GJ)(cs:acr)(g:acx):Prop:=∃c y fr frs,YT P n b kind p c y/\y.ok/\FR y c.1 fr/\lU y c.2 frs/\g=G fr (frs++cs)
def iD(Wd:ack)(p:GJ)(cs:acr)(a:acx):Prop:=a.status=.running/\∃c,sd P Wd a c/\qM P n b kind p cs c
end
def qM.running{P n b kind p cs g}(h:qM P n b kind p cs g):g.status=.running/\g.offers=none:=by obtain⟨c,y,fr,frs,_,_,_,_,rfl⟩:=h;exact⟨rfl,rfl⟩
def zI{s v}(h:(∃x,aZ s=some x)\/(∃x,kr s=some x)):∃s',wW s v=some s':=by
 unfold wW;rcases h with⟨x,h⟩|⟨x,h⟩
 . unfold aZ at h
   split at h
   . simp_all
   . cases h
 . unfold kr at h
   split at h
   . simp_all
   . cases h
section
variable{P:acH}{Wd:ack}{y:Sy}{c:cN}{v:SV}{x:Value}{fr:Frame}{frs:acr}
def lX(h:(∃x,aZ c.1=some x)\/(∃x,kr c.1=some x))(f:y.ok)(g:FR y c.1 fr)(d:lU y c.2 frs)(i:SR y v x):
 ∃b a,FR y (next P (Fl.of y) c v).1 b/\lU y (next P (Fl.of y) c v).2 a/\∀cs,sd P Wd (G (fr.finish x) (frs++cs)) (G b (a++cs)):=by
 obtain⟨n,e⟩:=zI (v:=v) h;obtain⟨m,b,a,j,k,l⟩:=lE (Wd:=Wd) (Fl.CE f) 400 (P:=P) (g.fin e i) d;unfold next
 rw[e];exact⟨b,a,j,k,λcs=>⟨m,l cs⟩⟩
def EW(h:(∃x,aZ c.1=some x)\/(∃x,kr c.1=some x))(g:FR y c.1 fr)(d:lU y c.2 frs)(i:c.1.env.all plain=true)(e:c.2.all (·.env.all plain)=true)(j:∀y,SR y v x):
 ∃b a,FR y0 (next P kU c v).1 b/\lU y0 (next P kU c v).2 a/\∀cs,sd P Wd (G (fr.finish x) (frs++cs)) (G b (a++cs)):=by
 obtain⟨p,f⟩:=zI (v:=v) h;have k:kU.At y0:=⟨by decide,by decide,rfl,rfl,rfl,rfl,rfl,by decide⟩;obtain⟨m,b,a,l,n,o⟩:=lE (Wd:=Wd) k 400 (P:=P) ((g.gQ i).fin f (j y0)) (d.gQ e);unfold next
 rw[f];exact⟨b,a,l,n,λcs=>⟨m,o cs⟩⟩
end
def lU.qK{y}:∀{st frs}  ls ,lU y st frs->lU y (Go.cC.qK st ls) frs
 |[],frs,ls,h=>by rw[h.mn];trivial
 |s::st,frs,[],h=>by obtain⟨f,a,rfl,b,c⟩:=h.cons_inv;exact⟨b.keep [],c.qK []⟩
 |s::st,frs,l::ls,h=>by obtain⟨f,a,rfl,b,c⟩:=h.cons_inv;exact⟨b.keep l,c.qK ls⟩
def f10{y a c}(b:decide (y.c=1)=a)(d:decide (y.c=0)=c):f0 (f1 (Fl.of y) a) c=Fl.of y:=by subst b;subst d;rfl
def Xv{y a}(b:decide (y.c=1)=a):f1 (Fl.of y) a=Fl.of y:=by subst b;rfl
def EX{y a}(b:decide (y.c=0)=a):f0 (Fl.of y) a=Fl.of y:=by subst b;rfl
def kz{c}(h:vH c=true):c.1.kind≠.early:=by
 unfold vH at h
 simp_all
section
variable{P:acH}{n:OA}(C:gS P n)(X:iC P n){b:Nat}{kind:acD}{Wd:ack}{cs:acr}{g:acx}{w:World}{main:Bool}
variable(hW0:∀w,Wd w->∃v,w.cell? ⟨b,0,none⟩=some v)(hW1:∀w,Wd w->∃v,w.cell? ⟨b,1,none⟩=some v)
include X hW1 in
def Qc{y}{c:cN}{fr frs}(h:kr c.1=some (n.tS,n.tU,pt b 1))(a:FR y c.1 fr):sc P Wd (G fr (frs++cs)) (G (fr.finish (.pointer (some ⟨b,1,none⟩))) (frs++cs)):=by obtain⟨t,d,e,f⟩:=X.Xu;exact⟨rfl,λmain w g=>tD a h d e f (hW1 w g)⟩
include X hW0 in
def KN{y}{c:cN}{fr frs}(h:kr c.1=some (n.tG,n.tU,pt b 0))(a:FR y c.1 fr):sc P Wd (G fr (frs++cs)) (G (fr.finish (.pointer (some ⟨b,0,none⟩))) (frs++cs)):=by obtain⟨t,d,e,f⟩:=X.Xt;exact⟨rfl,λmain w g=>tD a h d e f (hW0 w g)⟩
def sn{f args dJ y fn body}(b:P.funcs[f]?=some fn)(c:fn.body=some body)(d:args.length=dJ.size)(e:∀(i:Nat) a,args[i]?=some a->∃x,dJ[i]?=some x/\SR y a x):FR y (dF P f args kind) (Frame.enter P f dJ kind):=by
 refine⟨by simp[dF,b,Frame.enter],by simp[dF,b,c,Frame.enter],by simp[dF,b,Frame.enter],by simp[dF,b,Frame.enter,Cw.of],by simp[dF,b,Frame.enter],rfl,by simp[dF,b,Frame.enter,d],λt=>?_⟩;simp only[dF,b,Frame.enter,aal,aaD];rw[abD,zG];by_cases g:t<args.length
 . grind
 . rw[aaY (by omega),aah (by omega),List.getElem?_replicate]
   split<;>trivial
include X in
def yP:∃e,sd P Wd (G (Frame.enter P n.add #[.pointer (some ⟨b,0,none⟩),.int .i64 1] kind) cs) e/\qM P n b kind .a0 cs e:=by
 obtain⟨fn,body,f,g,q,r⟩:=X.QZ
 have j:FR y0 (dF P n.add [pt b 0,i64 1] kind) (Frame.enter P n.add #[.pointer (some ⟨b,0,none⟩),.int .i64 1] kind):=sn f g rfl λi a h=>by
  match i with
  |0=>simp at h;subst h;exact⟨_,rfl,rfl⟩
  |1=>simp at h;subst h;exact⟨_,rfl,rfl⟩
  |i+2=>simp at h
 have k:kU.At y0:=⟨by decide,by decide,rfl,rfl,rfl,rfl,rfl,by decide⟩;obtain⟨m,d,c,l,o,p⟩:=lE (Wd:=Wd) (P:=P) k 400 j (st:=[]) (frs:=[]) trivial;exact⟨_,⟨m,p cs⟩,_,y0,d,c,rfl,sk,l,o,rfl⟩
def EY:kU.At y0:=⟨by decide,by decide,rfl,rfl,rfl,rfl,rfl,by decide⟩
include X in
def py(C:gS P n):∃e,sd P Wd (G (Frame.enter P n.wait #[.pointer (some ⟨b,0,none⟩)] kind) cs) e/\qM P n b kind .w0 cs e:=by
 obtain⟨fn,body,f,g,p,q⟩:=X.KM
 have j:FR y0 (dF P n.wait [pt b 0] kind) (Frame.enter P n.wait #[.pointer (some ⟨b,0,none⟩)] kind):=sn f g rfl λi a h=>by
  match i with
  |0=>simp at h;subst h;exact⟨_,rfl,rfl⟩
  |i+1=>simp at h
 obtain⟨m,d,c,k,l,o⟩:=lE (Wd:=Wd) (P:=P) EY 400 j (st:=[]) (frs:=[]) trivial;exact⟨_,⟨m,o cs⟩,_,y0,d,c,rfl,sk,k.keep [0],l.qK [],rfl⟩
include X hW0 in
def xc(C:gS P n):∃f,sd P Wd (G (Frame.enter P n.done #[.pointer (some ⟨b,0,none⟩)] .deferred) cs) f/\qM P n b kind .d1 cs f:=by
 obtain⟨fn,body,l,o,A,B⟩:=X.KL
 have p:FR y0 (dF P n.done [pt b 0] .deferred) (Frame.enter P n.done #[.pointer (some ⟨b,0,none⟩)] .deferred):=sn l o rfl λi a h=>by
  match i with
  |0=>simp at h;subst h;exact⟨_,rfl,rfl⟩
  |i+1=>simp at h
 obtain⟨m,q,g,j,r,s⟩:=lE (Wd:=Wd) (P:=P) EY 400 p (st:=[]) (frs:=[]) trivial;obtain⟨k,t,u⟩:=C.d0 b;obtain⟨e,d,w,y,z⟩:=EW (P:=P) (Wd:=Wd) (c:=D0 P n b) (v:=pt b 0) (x:=.pointer (some ⟨b,0,none⟩)) (.inr ⟨_,k⟩) j r t u (λ_=>rfl);exact⟨_,sd.trans ⟨m,s cs⟩ (sd.trans (KN X hW0 (cs:=cs) k j).zx (z cs)),_,y0,e,d,rfl,sk,w,y,rfl⟩
include C X in
def VT(h:qM P n b kind .a0 cs g)(j:kind≠.early):∃k,stepG P main g w=.go k w #[⟨.mark .disable,false,true⟩]/\iD P n b kind Wd .a2 cs k:=by
 obtain⟨c,y,fr,frs,rfl,I,l,f,rfl⟩:=h;obtain⟨m,q,r,t⟩:=C.a0 b kind;obtain⟨o,u,z,A⟩:=C.a1 b kind;refine⟨_,eS KC l m (by rw[t];exact j) X.jq,rfl,?_⟩;obtain⟨d,a,p,B,D⟩:=EW (P:=P) (Wd:=Wd) (v:=un) (x:=.tuple #[]) (.inl ⟨_,m⟩) l f q (by rw[r];rfl) (λ_=>rfl);obtain⟨i,e,E,F,H⟩:=EW (P:=P) (Wd:=Wd) (c:=A1 P n b kind) (v:=ff) (x:=.bool false) (.inl ⟨_,o⟩) p B u (by rw[z];rfl) (λ_=>rfl);have hb:sc P Wd (G d (a++cs)) (G (d.finish (.bool false)) (a++cs)):=⟨rfl,λmain w _=>tC (s:=(A1 P n b kind).1) p o (by rw[A];exact j) X.OB⟩;exact⟨_,(D cs).trans (hb.zx.trans (H cs)),_,y0,i,e,rfl,sk,E,F,rfl⟩
include C X hW1 in
def VU{c v m:Nat}(o:qL b w c 0 m)(L:c<1000)(h:qM P n b kind .a2 cs g):
 ∃p w',stepG P main g w=.go p w' #[⟨.cell ⟨b,0,none⟩,false,true⟩,⟨.cell ⟨b,0,none⟩,true,true⟩]/\w'=w.setCell ⟨b,0,none⟩ (.int .u64 (eC (c+1:Nat) 0))/\qL b w' (c+1) 0 m/\(iD P n b kind Wd .a4 cs p\/iD P n b kind Wd .ae cs p):=by
 obtain⟨cf,y,fr,frs,rfl,M,z,q,rfl⟩:=h;obtain⟨A,E,F,G⟩:=C.a2 b kind
 have e:IntKind.u64.wrap (eC c 0+4294967296)=eC (c+1:Nat) 0:=by
  rw[jW (by unfold eC;omega) (by unfold eC;omega)];unfold eC;push_cast;omega
 have i:=pw (main:=main) (cs:=frs++cs) (w:=w) z A (kz E) X.sm (λx h=>h) o.cw (o.fz 0);rw[e]at i;have d:({y0 with c:=((c+1:Nat):Int)}:Sy).ok:=⟨by show(0:Int)<=2/\(2:Int)<=1000;decide,by show(0:Int)<=((c+1:Nat):Int)/\((c+1:Nat):Int)<=1000;omega⟩;have r:((c+1:Nat):Int)≠0:=by omega
 obtain⟨s,j,t,B,D⟩:=lX (P:=P) (Wd:=Wd) (y:={y0 with c:=((c+1:Nat):Int)}) (v:=.eC 0) (x:=.int .u64 (eC (c+1:Nat) 0)) (.inl ⟨_,A⟩) d (z.gQ F) (q.gQ G) rfl;refine⟨_,_,i,rfl,o.aU (c+1) 0,?_⟩;by_cases f:((c+1:Nat):Int)=1
 . left
   have H:=Xv (y:={y0 with c:=((c+1:Nat):Int)}) (a:=true) (by simpa using f);have k:=C.a3 b kind (Fl.of {y0 with c:=((c+1:Nat):Int)});rw[H]at k;obtain⟨u,l,I,J,K⟩:=lX (P:=P) (Wd:=Wd) (v:=pt b 1) (x:=.pointer (some ⟨b,1,none⟩)) (.inr ⟨_,k⟩) d t B rfl;exact⟨rfl,_,(D cs).trans ((Qc X hW1 (cs:=cs) k t).zx.trans (K cs)),_,_,u,l,⟨rfl,f⟩,d,I,J,rfl⟩
 . right
   exact⟨rfl,_,D cs,_,_,s,j,⟨r,.inr ⟨rfl,f⟩⟩,d,t,B,rfl⟩
end
section
variable{P:acH}{n:OA}(C:gS P n)(X:iC P n){b:Nat}{kind:acD}{Wd:ack}{cs:acr}{g:acx}{w:World}{main:Bool}
variable(hW0:∀w,Wd w->∃v,w.cell? ⟨b,0,none⟩=some v)(hW1:∀w,Wd w->∃v,w.cell? ⟨b,1,none⟩=some v)
def Bg{y:Sy}(h:y.c≠0):decide (y.c=0)=false:=by grind
include C X in
def VV(h:qM P n b kind .a4 cs g)(p:kind≠.early):∃k,stepG P main g w=.go k w #[⟨.mark (.read ⟨b,1,none⟩),false,true⟩]/\iD P n b kind Wd .ae cs k:=by
 obtain⟨c,y,fr,frs,⟨rfl,e⟩,l,m,f,rfl⟩:=h;have q:=Xv (y:=y) (a:=true) (by simpa using e);obtain⟨i,o⟩:=C.a4 b kind (Fl.of y);rw[q]at i o;obtain⟨j,d,r,s,t⟩:=lX (P:=P) (Wd:=Wd) (v:=un) (x:=.tuple #[]) (.inl ⟨_,i⟩) l m f rfl;exact⟨_,fC (λu g h=>by cases h) m i (by rw[o];exact p) X.rd,rfl,_,t cs,_,y,j,d,⟨by rw[e];decide,.inl ⟨rfl,e⟩⟩,l,r,s,rfl⟩
include C X in
def VW {e rest} (h:qM P n b kind .ae (e :: rest) g) (t:kind ≠ .early):∃ d,stepG P main g w = .go d w #[⟨.mark .enable,false,true⟩]∧d.status = .running∧sd P Wd d (jT kind e rest (.tuple #[])):=by
 obtain⟨c,y,fr,frs,⟨f,i⟩,E,u,j,rfl⟩:=h;obtain⟨fn,body,f1,F,H,v⟩:=X.QZ
 have key:rq c.1=some n.en->c.2=[]->c.1.kind=kind->c.1.fn=n.add->∃ d,stepG P main (G fr (frs ++ e :: rest)) w = .go d w #[⟨.mark .enable,false,true⟩]∧d.status = .running∧sd P Wd d (jT kind e rest (.tuple #[])):=fun q x s z=>by
  rw[x] at j;obtain rfl:=j.mn;obtain⟨A,B⟩:=Bf (main:=main) (cs:=[] ++ e :: rest) (w:=w) u q X.en
  have k:jX ({ c.1 with defers:=[] }:oV) n.add=true:=by
   unfold jX;unfold rq at q;split at q
   . rename_i g cap as D hd;simp[D,z]
   . cases q
  refine⟨_,A,rfl,?_⟩;have:=kV (Wd:=Wd) (c:=e) (rest:=rest) B k f1 v (by show c.1.kind≠_;rw[s];exact t)
  rw[show ({ c.1 with defers:=[] }:oV).kind=kind from s] at this
  exact this.zx
 rcases i with ⟨rfl,i⟩|⟨rfl,i⟩
 . have r:=f10 (y:=y) (a:=true) (c:=false) (by simpa using i) (Bg f)
   obtain⟨l,m,o,p⟩:=C.a5 b kind (Fl.of y);rw[r] at l m o p;exact key l m o p
 . have r:=f10 (y:=y) (a:=false) (c:=false) (by simpa using i) (Bg f)
   obtain⟨l,m,o,p⟩:=C.a6 b kind (Fl.of y);rw[r] at l m o p;exact key l m o p
include C X in
def VX(h:qM P n b kind .d1 cs g):∃f,stepG P main g w=.go f w #[⟨.mark (.releaseMerge ⟨b,0,none⟩),false,true⟩]/\iD P n b kind Wd .d2 cs f:=by
 obtain⟨c,y,fr,frs,rfl,r,i,d,rfl⟩:=h;obtain⟨j,k,l,m⟩:=C.d1 b;obtain⟨e,a,o,p,q⟩:=EW (P:=P) (Wd:=Wd) (v:=un) (x:=.tuple #[]) (.inl ⟨_,j⟩) i d l m (λ_=>rfl);exact⟨_,fC (λs g h=>by cases h) i j (kz k) X.rel,rfl,_,q cs,_,y0,e,a,rfl,sk,o,p,rfl⟩
include C X in
def VY(h:qM P n b kind .d2 cs g):∃j,stepG P main g w=.go j w #[⟨.mark .disable,false,true⟩]/\iD P n b kind Wd .d4 cs j:=by
 obtain⟨c,y,fr,frs,rfl,H,k,f,rfl⟩:=h;obtain⟨l,p,q,r⟩:=C.d2 b;obtain⟨m,t,u,z⟩:=C.d3 b;refine⟨_,eS KC k l (kz p) X.jq,rfl,?_⟩;obtain⟨d,a,o,A,B⟩:=EW (P:=P) (Wd:=Wd) (v:=un) (x:=.tuple #[]) (.inl ⟨_,l⟩) k f q r (λ_=>rfl);obtain⟨i,e,D,E,F⟩:=EW (P:=P) (Wd:=Wd) (c:=D3 P n b) (v:=ff) (x:=.bool false) (.inl ⟨_,m⟩) o A u z (λ_=>rfl);have hb:sc P Wd (G d (a++cs)) (G (d.finish (.bool false)) (a++cs)):=⟨rfl,λmain w _=>tC (s:=(D3 P n b).1) o m (kz t) X.OB⟩;exact⟨_,(B cs).trans (hb.zx.trans (F cs)),_,y0,i,e,rfl,sk,D,E,rfl⟩
def kA(P:acH)(a:FuncId)(tmps:acj)(todo:acv):Frame:=⟨a,tmps,todo,[],.returning,.deferred,none⟩
def cB(P:acH):Frame:={(default:Frame)with fn:=P.funcs.size,defers:=[],mode:=.panicking [goexitEntry]}
def tJ{a fn tmps todo}(c:P.funcs[a]?=some fn)(d:fn.results=#[]):QuitsD P 2 0 (G (kA P a tmps todo) [cB P]):=by
 refine .ctl (g':=G (cB P) []) rfl (λw=>?_) (.ctl (g':={G (cB P) []with status:=.finished}) rfl (λw=>?_) ⟨rfl,rfl⟩)
 . simp[G,stepG,unwind,c,results,d,kA,cB,goexitEntry]
   rfl
 . have b:(cB P).catches P=false:=by
    simp[Frame.catches,cB];rfl
   simp[G,stepG,unwind,cB,goexitEntry]at b ⊢;simp[b]
def tK{d}:∀{m k a c},jd P (λ_=>True) m a c->QuitsD P k d c->QuitsD P (k+m) d a
 |0,k,a,c,h,b=>by obtain rfl:=h;exact b
 |m+1,k,a,c,h,b=>by obtain⟨i,⟨e,f⟩,g⟩:=h;exact .ctl e (λw=>f false w trivial) (tK g b)
include X in
def xd{c y fr frs a fn tmps todo}(o:P.funcs[a]?=some fn)(b:fn.results=#[])(p:y.ok)(j:FR y c.1 fr)(e:lU y c.2 frs)
 (k:rq c.1=some n.en) (q:jX (lV P (Fl.of y) c).1 n.done=true) (r:(lV P (Fl.of y) c).2=[]) (l:(lV P (Fl.of y) c).1.kind=.deferred):∃m,QuitsD P m 1 (G fr (frs++[kA P a tmps todo,cB P])):=by
 obtain⟨_,f⟩:=Bf (P:=P) (main:=false) (cs:=frs++[kA P a tmps todo,cB P]) (w:=default) j k X.en;obtain⟨m,g,d,s,t,u⟩:=lE (Wd:=λ_=>True) (P:=P) (Fl.CE p) 400 f e
 have h:lU y [] d:=by rw[<-r];exact t
 obtain rfl:=h.mn;obtain⟨fd,body,v,B,C,x⟩:=X.KL;have hb:=kV (Wd:=λ_=>True) (c:=kA P a tmps todo) (rest:=[cB P]) s q v x (by show(lV P (Fl.of y) c).1.kind≠_;rw[l];decide)
 have i:jT (sgo P (Fl.of y) 400 {c.1 with defers:=[]} c.2).1.kind (kA P a tmps todo) [cB P] (.tuple #[])=G (kA P a tmps todo) [cB P]:=by rw[show(sgo P (Fl.of y) 400 {c.1 with defers:=[]} c.2).1.kind=.deferred from l];rfl
 rw[i]at hb;have z:QuitsD P (2+1) 0 (G g [kA P a tmps todo,cB P]):=.ctl rfl (λw=>hb.2 false w trivial) (tJ o b)
 have A:=tK (u [kA P a tmps todo,cB P]) z;exact⟨_,.said ⟨.mark .enable,false,true⟩ rfl rfl (λw=>(Bf (P:=P) (main:=false) (cs:=frs++[kA P a tmps todo,cB P]) (w:=w) j k X.en).1) A⟩
def Gone(P:acH)(Wd:ack)(a:acx):Prop:=∃m,QuitsD P m 1 a
def Bh{m k a c}(h:jd P (λ_=>True) m a c)(b:QuitsD P k 1 c):Gone P Wd a:=⟨_,tK h b⟩
include C X in
def VZ{k v m o fn tmps todo}(N:P.funcs[o]?=some fn)(f:fn.results=#[])(G:qL b w (k+1) v m)(R:k<1000)(S:v<=1)(h:qM P n b kind .d4 [kA P o tmps todo,cB P] g):
 ∃H w',stepG P main g w=.go H w' #[⟨.cell ⟨b,0,none⟩,false,true⟩,⟨.cell ⟨b,0,none⟩,true,true⟩]/\w'=w.setCell ⟨b,0,none⟩ (.int .u64 (eC k v))/\qL b w' k v m/\((k=0/\v=1/\iD P n b kind Wd .d5 [kA P o tmps todo,cB P] H)\/(¬(k=0/\v=1)/\Gone P Wd H)):=by
 obtain⟨cf,y,fr,frs,rfl,T,E,i,rfl⟩:=h;obtain⟨F,O,I,J⟩:=C.d4 b
 have e:IntKind.u64.wrap (eC (k+1:Nat) v+18446744069414584320)=eC k v:=by
  have:eC (k+1:Nat) v+18446744069414584320=eC k v+18446744073709551616:=by unfold eC;push_cast;omega
  rw[this];simp[IntKind.wrap,IntKind.bits,IntKind.signed];unfold eC;omega
 have p:=pw (main:=main) (cs:=frs++[kA P o tmps todo,cB P]) (w:=w) E F (kz O) X.sm (λx h=>h) G.cw (G.fz 0)
 rw[e]at p;have a:({y0 with c:=(k:Int)}:Sy).ok:=⟨by show(0:Int)<=2/\(2:Int)<=1000;decide,by show(0:Int)<=(k:Int)/\(k:Int)<=1000;omega⟩
 refine⟨_,_,p,rfl,G.aU k v,?_⟩;have q:v=0\/v=1:=by omega
 rcases q with rfl|rfl
 . refine .inr ⟨by omega,?_⟩
   obtain⟨l,d,r,s,t⟩:=lX (P:=P) (Wd:=λ_=>True) (y:={y0 with c:=(k:Int)}) (v:=.eC 0) (x:=.int .u64 (eC k 0)) (.inl ⟨_,F⟩) a (E.gQ I) (i.gQ J) rfl
   have u:=C.d5 b (Fl.of {y0 with c:=(k:Int)}) (decide ((k:Int)=0))
   obtain⟨z,A,B⟩:=C.Xr b (Fl.of {y0 with c:=(k:Int)}) (decide ((k:Int)=0))
   rw[EX rfl]at u z A B;obtain⟨Q,K⟩:=xd X N f a r s u z A B;obtain⟨j,L⟩:=t [kA P o tmps todo,cB P];exact Bh L K
 . by_cases D:k=0
   . refine .inl ⟨D,rfl,?_⟩
     obtain⟨l,d,r,s,t⟩:=lX (P:=P) (Wd:=Wd) (y:={y0 with c:=(k:Int)}) (v:=.eC 1) (x:=.int .u64 (eC k 1)) (.inl ⟨_,F⟩) a (E.gQ I) (i.gQ J) rfl
     exact⟨rfl,_,t _,_,_,l,d,⟨rfl,by show(k:Int)=0;omega⟩,a,r,s,rfl⟩
   . refine .inr ⟨by omega,?_⟩
     obtain⟨l,d,r,s,t⟩:=lX (P:=P) (Wd:=λ_=>True) (y:={y0 with c:=(k:Int)}) (v:=.eC 1) (x:=.int .u64 (eC k 1)) (.inl ⟨_,F⟩) a (E.gQ I) (i.gQ J) rfl
     have M:decide ((k:Int)=0)=false:=by simpa using D
     have u:=C.d6 b (Fl.of {y0 with c:=(k:Int)})
     obtain⟨z,A,B⟩:=C.Xs b (Fl.of {y0 with c:=(k:Int)})
     rw[EX M]at u z A B;obtain⟨Q,K⟩:=xd X N f a r s u z A B;obtain⟨j,L⟩:=t [kA P o tmps todo,cB P];exact Bh L K
include C X in
def V0{m}(q:qL b w 0 1 m)(h:qM P n b kind .d5 cs g):∃k,stepG P main g w=.go k w #[⟨.cell ⟨b,0,none⟩,false,true⟩]/\iD P n b kind Wd .d6 cs k:=by
 obtain⟨c,y,fr,frs,⟨rfl,e⟩,l,o,f,rfl⟩:=h;have r:=EX (y:=y) (a:=true) (by simpa using e)
 obtain⟨i,p⟩:=C.d7 b (Fl.of y);rw[r]at i p;have s:SR y (.eC 1) (.int .u64 (eC 0 1)):=by show _=Value.int .u64 (eC y.c 1);rw[e]
 obtain⟨j,d,t,u,v⟩:=lX (P:=P) (Wd:=Wd) (.inl ⟨_,i⟩) l o f s;exact⟨_,tH o i (kz p) X.vt q.cw,rfl,_,v cs,_,y,j,d,⟨rfl,e⟩,l,t,u,rfl⟩
include C X in
def V1{m}(e:qL b w 0 1 m)(h:qM P n b kind .d6 cs g):∃k w',stepG P main g w=.go k w' #[⟨.cell ⟨b,0,none⟩,true,true⟩]/\w'=w.setCell ⟨b,0,none⟩ (.int .u64 (eC 0 0))/\qL b w' 0 0 m/\iD P n b kind Wd .d7 cs k:=by
 obtain⟨c,y,fr,frs,⟨rfl,l⟩,o,p,f,rfl⟩:=h;have r:=EX (y:=y) (a:=true) (by simpa using l);obtain⟨i,q⟩:=C.d8 b (Fl.of y);rw[r]at i q;obtain⟨j,d,s,t,u⟩:=lX (P:=P) (Wd:=Wd) (v:=un) (x:=.tuple #[]) (.inl ⟨_,i⟩) o p f rfl;exact⟨_,_,HV p i (kz q) X.HW e.cw (e.fz 0),rfl,e.aU 0 0,rfl,_,u cs,_,y,j,d,⟨rfl,l⟩,o,s,t,rfl⟩
include C X in
def V2{v m k fn tmps todo}(E:P.funcs[k]?=some fn)(d:fn.results=#[])(l:qL b w 0 v m)(M:m<=1000)(h:qM P n b kind .d7 [kA P k tmps todo,cB P] g):
 ∃q w',stepG P main g w=.go q w' (semEvents ⟨b,1,none⟩)/\w'=w.setCell ⟨b,1,none⟩ (.int .u32 (m+1:Nat))/\qL b w' 0 v (m+1)/\Gone P Wd q:=by
 obtain⟨c,y,fr,frs,⟨rfl,F⟩,r,s,o,rfl⟩:=h;have f:=EX (y:=y) (a:=true) (by simpa using F)
 obtain⟨p,t⟩:=C.d9 b (Fl.of y);rw[f]at p t;have i:=nW (main:=main) (cs:=frs++[kA P k tmps todo,cB P]) (w:=w) s p (kz t) X.nX l.cs (l.fz 1);have e:IntKind.u32.wrap ((m:Int)+1)=((m+1:Nat):Int):=by rw[IntKind.wrap_u32];omega
 rw[e]at i;obtain⟨G,u,H,I,J⟩:=lX (P:=P) (Wd:=λ_=>True) (v:=un) (x:=.tuple #[]) (.inl ⟨_,p⟩) r s o rfl
 have z:=C.da b (Fl.of y);obtain⟨A,B,D⟩:=C.db b (Fl.of y);rw[f]at z A B D;obtain⟨N,K⟩:=xd X E d r H I z A B D;obtain⟨j,L⟩:=J [kA P k tmps todo,cB P];exact⟨_,_,i,rfl,l.EU (m+1),Bh L K⟩
end
section
variable{P:acH}{n:OA}(C:gS P n)(X:iC P n){b:Nat}{kind:acD}{Wd:ack}{cs:acr}{g:acx}{w:World}{main:Bool}
variable(hW0:∀w,Wd w->∃v,w.cell? ⟨b,0,none⟩=some v)(hW1:∀w,Wd w->∃v,w.cell? ⟨b,1,none⟩=some v)
include C X in
def V3(h:qM P n b kind .w0 cs g)(k:kind≠.early):∃f,stepG P main g w=.go f w #[⟨.mark .disable,false,true⟩]/\iD P n b kind Wd .w1 cs f:=by
 obtain⟨c,y,fr,frs,rfl,s,i,d,rfl⟩:=h;obtain⟨j,l,m,o⟩:=C.w0 b kind;obtain⟨e,a,p,q,r⟩:=EW (P:=P) (Wd:=Wd) (v:=un) (x:=.tuple #[]) (.inl ⟨_,j⟩) i d l (by rw[m];rfl) (λ_=>rfl);exact⟨_,eS KC i j (by rw[o];exact k) X.jq,rfl,_,r cs,_,y0,e,a,rfl,sk,p.keep [5],q.qK [[0]],rfl⟩
include C X in
def V4{c m}(r:qL b w c 0 m)(z:c<=1000)(h:qM P n b kind .w1 cs g):
 ∃f,stepG P main g w=.go f w #[⟨.cell ⟨b,0,none⟩,false,true⟩]/\((c=0/\iD P n b kind Wd .we cs f)\/(c≠0/\iD P n b kind Wd (.w2 c) cs f)):=by
 obtain⟨cf,y,fr,frs,rfl,A,k,i,rfl⟩:=h;obtain⟨l,s,t,u⟩:=C.w1 b kind;have d:({y0 with c:=(c:Int)}:Sy).ok:=⟨by show(0:Int)<=2/\(2:Int)<=1000;decide,by show(0:Int)<=(c:Int)/\(c:Int)<=1000;omega⟩;obtain⟨e,a,o,p,q⟩:=lX (P:=P) (Wd:=Wd) (y:={y0 with c:=(c:Int)}) (v:=.eC 0) (x:=.int .u64 (eC c 0)) (.inl ⟨_,l⟩) d (k.gQ t) (i.gQ u) rfl;refine⟨_,tH k l (kz s) X.vt r.cw,?_⟩;by_cases j:c=0
 . exact .inl ⟨j,rfl,_,q cs,_,_,e,a,.inl ⟨rfl,by show(c:Int)=0;omega⟩,d,o,p,rfl⟩
 . exact .inr ⟨j,rfl,_,q cs,_,_,e,a,⟨rfl,rfl,j⟩,d,o,p,rfl⟩
include C X hW0 in
def V5(h:qM P n b kind .we cs g)(D:kind≠.early):∃E,stepG P main g w=.go E w #[⟨.mark .enable,false,true⟩]/\iD P n b kind Wd .wa cs E:=by
 obtain⟨c,y,fr,frs,e,k,q,l,rfl⟩:=h;rcases e with⟨rfl,e⟩|⟨rfl,e⟩
 . have r:=EX (y:=y) (a:=true) (by simpa using e)
   obtain⟨f,m⟩:=C.w2 b kind (Fl.of y);have i:=C.w3 b kind (Fl.of y);rw[r]at f m i;obtain⟨s,o,p,t,u⟩:=lX (P:=P) (Wd:=Wd) (v:=un) (x:=.tuple #[]) (.inl ⟨_,f⟩) k q l rfl;obtain⟨j,d,z,A,B⟩:=lX (P:=P) (Wd:=Wd) (c:=WC P n b kind (Fl.of y)) (v:=pt b 0) (x:=.pointer (some ⟨b,0,none⟩)) (.inr ⟨_,i⟩) k p t rfl;exact⟨_,eS KG q f (by rw[m];exact D) X.en,rfl,_,(u cs).trans ((KN X hW0 (c:=WC P n b kind (Fl.of y)) (cs:=cs) i p).zx.trans (B cs)),_,y,j,d,.inl ⟨rfl,e⟩,k,z,A,rfl⟩
 . have r:=EX (y:=y) (a:=false) (Bg e)
   obtain⟨f,m⟩:=C.wc b kind (Fl.of y);have i:=C.wd b kind (Fl.of y);rw[r]at f m i;obtain⟨s,o,p,t,u⟩:=lX (P:=P) (Wd:=Wd) (v:=un) (x:=.tuple #[]) (.inl ⟨_,f⟩) k q l rfl;obtain⟨j,d,z,A,B⟩:=lX (P:=P) (Wd:=Wd) (c:=TM P n b kind (Fl.of y)) (v:=pt b 0) (x:=.pointer (some ⟨b,0,none⟩)) (.inr ⟨_,i⟩) k p t rfl;exact⟨_,eS KG q f (by rw[m];exact D) X.en,rfl,_,(u cs).trans ((KN X hW0 (c:=TM P n b kind (Fl.of y)) (cs:=cs) i p).zx.trans (B cs)),_,y,j,d,.inr ⟨rfl,e⟩,k,z,A,rfl⟩
include C X in
def TN{j rest}(h:qM P n b kind .wa (j::rest) g)(q:kind≠.early):∃t,stepG P main g w=.go t w #[⟨.mark (.acquire ⟨b,0,none⟩),false,true⟩]/\t.status=.running/\sd P Wd t (jT kind j rest (.tuple #[])):=by
 obtain⟨c,y,fr,frs,k,E,r,l,rfl⟩:=h;obtain⟨fn,body,f1,H,I,F⟩:=X.KM;rcases k with⟨rfl,k⟩|⟨rfl,k⟩
 . have u:=EX (y:=y) (a:=true) (by simpa using k)
   obtain⟨f,m⟩:=C.w4 b kind (Fl.of y);obtain⟨o,p,i⟩:=C.w5 b kind (Fl.of y);rw[u]at f m o p i;obtain⟨z,d,A,B,D⟩:=lX (P:=P) (Wd:=Wd) (v:=un) (x:=.tuple #[]) (.inl ⟨_,f⟩) E r l rfl;have e:lU y (WB P n b kind (Fl.of y)).2 d:=B;rw[p]at e;obtain rfl:=e.mn;have hb:=kV (Wd:=Wd) (c:=j) (rest:=rest) (s:=(WB P n b kind (Fl.of y)).1) A o f1 F (by rw[i];exact q);rw[i]at hb;exact⟨_,fC (λG g h=>by cases h) r f (by rw[m];exact q) X.acq,rfl,(D (j::rest)).trans hb.zx⟩
 . have u:=EX (y:=y) (a:=false) (Bg k)
   obtain⟨f,m⟩:=C.we b kind (Fl.of y);obtain⟨o,p,i⟩:=C.wf b kind (Fl.of y);rw[u]at f m o p i;obtain⟨z,d,A,B,D⟩:=lX (P:=P) (Wd:=Wd) (v:=un) (x:=.tuple #[]) (.inl ⟨_,f⟩) E r l rfl;have e:lU y (Qb P n b kind (Fl.of y)).2 d:=B;rw[p]at e;obtain rfl:=e.mn;have hb:=kV (Wd:=Wd) (c:=j) (rest:=rest) (s:=(Qb P n b kind (Fl.of y)).1) A o f1 F (by rw[i];exact q);rw[i]at hb;exact⟨_,fC (λG g h=>by cases h) r f (by rw[m];exact q) X.acq,rfl,(D (j::rest)).trans hb.zx⟩
def OC{c c' v a:Nat}(d:v<=1000)(b:a<=1000):eC c v=eC c' a↔(c=c'/\v=a):=by unfold eC;omega
include C X hW1 in
def V6{k c m}(l:qL b w c 0 m)(h:qM P n b kind (.w2 k) cs g):
 (c=k/\∃o w',stepG P main g w=.go o w' #[⟨.cell ⟨b,0,none⟩,false,true⟩,⟨.cell ⟨b,0,none⟩,true,true⟩]/\w'=w.setCell ⟨b,0,none⟩ (.int .u64 (eC k 1))/\qL b w' k 1 m/\iD P n b kind Wd .w3 cs o)\/
 (c≠k/\∃o,stepG P main g w=.go o w #[⟨.cell ⟨b,0,none⟩,false,true⟩]/\iD P n b kind Wd .w1 cs o):=by
 obtain⟨cf,y,fr,frs,⟨rfl,K,L⟩,p,z,q,rfl⟩:=h;have r:y.c≠0:=by rw[K];omega
 have D:=EX (y:=y) (a:=false) (Bg r);obtain⟨s,E⟩:=C.w6 b kind (Fl.of y);rw[D]at s E
 have A:∀j:Nat,∀x,SR y (.eC j) x->x=.int .u64 (eC k j):=λj x F=>by have F:x=.int .u64 (eC y.c j):=F;rw[F,K]
 by_cases f:c=k
 . subst f
   refine .inl ⟨rfl,_,_,ia z s (kz E) X.xa (A 0) (A 1) l.cw (l.fz 0),rfl,l.aU c 1,rfl,?_⟩;have i:=C.w8 b kind (Fl.of y);rw[D]at i;obtain⟨t,d,B,G,H⟩:=lX (P:=P) (Wd:=Wd) (v:=tt) (x:=.bool true) (.inl ⟨_,s⟩) p z q rfl;obtain⟨I,u,M,N,O⟩:=lX (P:=P) (Wd:=Wd) (c:=W3 P n b kind (Fl.of y)) (v:=pt b 1) (x:=.pointer (some ⟨b,1,none⟩)) (.inr ⟨_,i⟩) p B G rfl;exact⟨_,(H cs).trans ((Qc X hW1 (c:=W3 P n b kind (Fl.of y)) (cs:=cs) i B).zx.trans (O cs)),_,y,I,u,⟨rfl,r⟩,p,M,N,rfl⟩
 . have J:¬eC c 0=eC k 0:=λe=>f ((OC (by omega) (by omega)).1 e).1
   refine .inr ⟨f,_,iB z s (kz E) X.xa (A 0) (A 1) l.cw (l.fz 0) J,rfl,?_⟩;have i:=C.w7 b kind (Fl.of y);rw[D]at i;obtain⟨t,d,B,G,H⟩:=lX (P:=P) (Wd:=Wd) (v:=ff) (x:=.bool false) (.inl ⟨_,s⟩) p z q rfl;have Q:=B.keep [5];have R:=G.qK [[0]];refine⟨_,H cs,W1 P n b kind,y,t,d,rfl,p,?_,?_,rfl⟩
   . rw[<-i];exact Q
   . rw[<-i];exact R
include C X in
def V7(h:qM P n b kind .w3 cs g)(p:kind≠.early):∃j,stepG P main g w=.go j w #[⟨.mark (.write ⟨b,1,none⟩),false,true⟩]/\iD P n b kind Wd .w4 cs j:=by obtain⟨c,y,fr,frs,⟨rfl,k⟩,l,m,e,rfl⟩:=h;have q:=EX (y:=y) (a:=false) (Bg k);obtain⟨f,o⟩:=C.w9 b kind (Fl.of y);rw[q]at f o;obtain⟨i,d,r,s,t⟩:=lX (P:=P) (Wd:=Wd) (v:=un) (x:=.tuple #[]) (.inl ⟨_,f⟩) l m e rfl;exact⟨_,fC (λu g h=>by cases h) m f (by rw[o];exact p) X.wr,rfl,_,t cs,_,y,i,d,⟨rfl,k⟩,l,r,s,rfl⟩
include C X in
def V8{c v m}(i:qL b w c v m)(D:m≠0)(h:qM P n b kind .w4 cs g)(t:kind≠.early):
 ∃o w',stepG P main g w=.go o w' (semEvents ⟨b,1,none⟩)/\w'=w.setCell ⟨b,1,none⟩ (.int .u32 (m-1:Nat))/\qL b w' c v (m-1)/\iD P n b kind Wd .w5 cs o:=by
 obtain⟨cf,y,fr,frs,⟨rfl,p⟩,q,r,j,rfl⟩:=h;have u:=EX (y:=y) (a:=false) (Bg p);obtain⟨k,s⟩:=C.wa b kind (Fl.of y);rw[u]at k s;have d:=sf (main:=main) (cs:=frs++cs) (w:=w) (n:=(m:Int)) r k (by rw[s];exact t) X.EP i.cs (by omega) (i.fz _);have e:((m:Int)-1)=((m-1:Nat):Int):=by omega
 rw[e]at d;obtain⟨l,f,z,A,B⟩:=lX (P:=P) (Wd:=Wd) (v:=un) (x:=.tuple #[]) (.inl ⟨_,k⟩) q r j rfl;exact⟨_,_,d,rfl,i.EU (m-1),rfl,_,B cs,_,y,l,f,⟨rfl,p⟩,q,z,A,rfl⟩
include C X in
def TO{c v}(e:qL b w c v 0)(h:qM P n b kind .w4 cs g):stepG P main g w=.go {g with status:=.blocked} w #[]:=by obtain⟨cf,y,fr,frs,⟨rfl,f⟩,m,i,j,rfl⟩:=h;have k:=EX (y:=y) (a:=false) (Bg f);obtain⟨d,l⟩:=C.wa b kind (Fl.of y);rw[k]at d l;exact zE i d X.EP e.cs
include C X in
def V9{m}(r:qL b w 0 0 m)(h:qM P n b kind .w5 cs g):∃k,stepG P main g w=.go k w #[⟨.cell ⟨b,0,none⟩,false,true⟩]/\iD P n b kind Wd .we cs k:=by obtain⟨c,y,fr,frs,⟨rfl,l⟩,o,p,e,rfl⟩:=h;have s:=EX (y:=y) (a:=false) (Bg l);obtain⟨f,q⟩:=C.wb b kind (Fl.of y);rw[s]at f q;have i:=tH (main:=main) (cs:=frs++cs) p f (kz q) X.vt r.cw;obtain⟨j,d,t,u,z⟩:=lX (P:=P) (Wd:=Wd) (v:=u64 0) (x:=.int .u64 0) (.inl ⟨_,f⟩) o p e rfl;exact⟨_,i,rfl,_,z cs,_,y,j,d,.inr ⟨rfl,l⟩,o,t,u,rfl⟩
end
structure lY(P:acH)(n:CB):Prop where
 lock:∃fn body,P.funcs[n.lock]?=some fn/\fn.body=some body/\fn.ntmps=6/\fn.results=#[]
 unlock:∃fn body,P.funcs[n.unlock]?=some fn/\fn.body=some body/\fn.ntmps=6/\fn.results=#[]
section
variable{P:acH}{n:CB}(C:gy P n)(X:gz P n)(F:lY P n){b o:Nat}{kind:acD}{Wd:ack}{cs:acr}{g:acx}{w:World}{main:Bool}
include F in
def qN:∃a,sd P Wd (G (Frame.enter P n.lock #[.pointer (some ⟨b,o,none⟩)] kind) cs) a/\nJ P n b o kind .ld cs a:=by obtain⟨fn,body,c,d,e,f⟩:=F.lock;exact EV ⟨fn,body,c,d,e⟩
include F in
def oO:∃e,sd P Wd (G (Frame.enter P n.unlock #[.pointer (some ⟨b,o,none⟩)] kind) cs) e/\nJ P n b o kind .Gw cs e:=by
 obtain⟨fn,body,f,g,q,r⟩:=F.unlock
 have j:FR y0 (dF P n.unlock [pt b o] kind) (Frame.enter P n.unlock #[.pointer (some ⟨b,o,none⟩)] kind):=sn f g rfl λi a h=>by
  match i with
  |0=>simp at h;subst h;exact⟨_,rfl,rfl⟩
  |i+1=>simp at h
 obtain⟨m,d,c,k,l,p⟩:=lE (Wd:=Wd) (P:=P) EY 400 j (st:=[]) (frs:=[]) trivial;exact⟨_,⟨m,p cs⟩,_,y0,d,c,rfl,sk,k.keep [0,5],l.keep [],rfl⟩
include F in
def su{c rest}(h:nJ P n b o kind .back (c::rest) g)(e:kind≠.early):sd P Wd g (jT kind c rest (.tuple #[])):=by obtain⟨cf,y,fr,frs,rfl,l,i,a,rfl⟩:=h;obtain⟨fn,body,j,m,p,k⟩:=F.lock;have d:lU y [] frs:=a;obtain rfl:=d.mn;exact(kV (Wd:=Wd) (c:=c) (rest:=rest) (s:=(BK n kind).1) (f:=n.lock) i (by simp[BK,jX]) j k e).zx
include F in
def lG{c rest}(h:nJ P n b o kind .CG (c::rest) g)(e:kind≠.early):sd P Wd g (jT kind c rest (.tuple #[])):=by obtain⟨cf,y,fr,frs,rfl,l,i,a,rfl⟩:=h;obtain⟨fn,body,j,m,p,k⟩:=F.unlock;have d:lU y [] frs:=a;obtain rfl:=d.mn;exact(kV (Wd:=Wd) (c:=c) (rest:=rest) (s:=(Tz n kind).1) (f:=n.unlock) i (by simp[Tz,jX]) j k e).zx
end
