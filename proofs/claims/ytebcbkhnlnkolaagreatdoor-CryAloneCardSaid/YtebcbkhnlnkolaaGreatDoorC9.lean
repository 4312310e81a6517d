import Derived.Conc.QuitsD
import Derived.Test.YtebcbkhnlnkolaaGreatDoorC8
set_option linter.all false
namespace Go.bN
open Go.Conc
inductive J1 where
 |a0|a2|a4|ae
 |d1|d2|d4|d5|d6|d7
 |w0|w1|we|wa|w2 (c:Nat)|w3|w4|w5
structure tX  b  (w:World) (c v m:Nat):Prop where
 cw:w.cell? ⟨b,0,none⟩=some (.int .u64 (fL c v))
 cs:w.cell? ⟨b,1,none⟩=some (.int .u32 m)
 fz:∀i,w.frozen? ⟨b,i,none⟩=false
def tX.bb{b w c v m}(h:tX b w c v m)(c' a:Nat):tX b (w.setCell ⟨b,0,none⟩ (.int .u64 (fL c' a))) c' a m:=⟨lM h.cw,by rw[eG (by simp)];exact h.cs,λi=>by rw[qV];exact h.fz i⟩
def tX.Ib{b w c v m}(h:tX b w c v m)(a:Nat):tX b (w.setCell ⟨b,1,none⟩ (.int .u32 a)) c v a:=⟨by rw[eG (by simp)];exact h.cw,lM h.cs,λi=>by rw[qV];exact h.fz i⟩
section
variable(P:afn)(n:Sb)(b:Nat)(kind:afj)
def GtC(p:J1)(c:dt)(y:Sy):Prop:=
 match p with
 |.a0=>c=A0 P n b kind
 |.a2=>c=A2 P n b kind
 |.a4=>c=A4 P n b kind (Fl.of y)/\y.c=1
 |.ae=>y.c≠0/\((c=A5 P n b kind (Fl.of y)/\y.c=1)\/(c=A3 P n b kind (Fl.of y)/\y.c≠1))
 |.d1=>c=D1 P n b
 |.d2=>c=D2 P n b
 |.d4=>c=D4 P n b
 |.d5=>c=DE P n b (Fl.of y) 1/\y.c=0
 |.d6=>c=D6 P n b (Fl.of y)/\y.c=0
 |.d7=>c=D7 P n b (Fl.of y)/\y.c=0
 |.w0=>c=W0 P n b kind
 |.w1=>c=W1 P n b kind
 |.we=>(c=WE P n b kind (Fl.of y)/\y.c=0)\/(c=Wb P n b kind (Fl.of y)/\y.c≠0)
 |.wa=>(c=WA P n b kind (Fl.of y)/\y.c=0)\/(c=Wc P n b kind (Fl.of y)/\y.c≠0)
 |.w2 k=>c=WE P n b kind (Fl.of y)/\y.c=k/\k≠0
 |.w3=>c=Wa P n b kind (Fl.of y)/\y.c≠0
 |.w4=>c=W4 P n b kind (Fl.of y)/\y.c≠0
 |.w5=>c=W5 P n b kind (Fl.of y)/\y.c≠0
def tY(p:J1)(cs:aeY)(g:afd):Prop:=∃c y fr frs,GtC P n b kind p c y/\y.ok/\FR y c.1 fr/\oz y c.2 frs/\g=G fr (frs++cs)
def jI(Wd:aeT)(p:J1)(cs:aeY)(a:afd):Prop:=a.status=.running/\∃c,vp P Wd a c/\tY P n b kind p cs c
end
def tY.running{P n b kind p cs g}(h:tY P n b kind p cs g):g.status=.running/\g.offers=none:=by obtain⟨c,y,fr,frs,_,_,_,_,rfl⟩:=h;exact⟨rfl,rfl⟩
def CA{s v}(h:(∃x,bn s=some x)\/(∃x,mE s=some x)):∃s',Ab s v=some s':=by
 unfold Ab;rcases h with⟨x,h⟩|⟨x,h⟩
 . unfold bn at h
   split at h
   . simp_all
   . cases h
 . unfold mE at h
   split at h
   . simp_all
   . cases h
section
variable{P:afn}{Wd:aeT}{y:Sy}{c:dt}{v:SV}{x:Value}{fr:Frame}{frs:aeY}
def oB(h:(∃x,bn c.1=some x)\/(∃x,mE c.1=some x))(f:y.ok)(g:FR y c.1 fr)(d:oz y c.2 frs)(i:SR y v x):
 ∃b a,FR y (next P (Fl.of y) c v).1 b/\oz y (next P (Fl.of y) c v).2 a/\∀cs,vp P Wd (G (fr.finish x) (frs++cs)) (G b (a++cs)):=by
 obtain⟨n,e⟩:=CA (v:=v) h;obtain⟨m,b,a,j,k,l⟩:=nR (Wd:=Wd) (Fl.F1 f) 400 (P:=P) (g.fin e i) d;unfold next
 rw[e];exact⟨b,a,j,k,λcs=>⟨m,l cs⟩⟩
def Ie(h:(∃x,bn c.1=some x)\/(∃x,mE c.1=some x))(g:FR y c.1 fr)(d:oz y c.2 frs)(i:c.1.env.all plain=true)(e:c.2.all (·.env.all plain)=true)(j:∀y,SR y v x):
 ∃b a,FR y0 (next P np c v).1 b/\oz y0 (next P np c v).2 a/\∀cs,vp P Wd (G (fr.finish x) (frs++cs)) (G b (a++cs)):=by
 obtain⟨p,f⟩:=CA (v:=v) h;have k:np.At y0:=⟨by decide,by decide,rfl,rfl,rfl,rfl,rfl,by decide⟩;obtain⟨m,b,a,l,n,o⟩:=nR (Wd:=Wd) k 400 (P:=P) ((g.iU i).fin f (j y0)) (d.iU e);unfold next
 rw[f];exact⟨b,a,l,n,λcs=>⟨m,o cs⟩⟩
end
def oz.tW{y}:∀{st frs}  ls ,oz y st frs->oz y (Go.bN.tW st ls) frs
 |[],frs,ls,h=>by rw[h.oR];trivial
 |s::st,frs,[],h=>by obtain⟨f,a,rfl,b,c⟩:=h.cons_inv;exact⟨b.keep [],c.tW []⟩
 |s::st,frs,l::ls,h=>by obtain⟨f,a,rfl,b,c⟩:=h.cons_inv;exact⟨b.keep l,c.tW ls⟩
def f10{y a c}(b:decide (y.c=1)=a)(d:decide (y.c=0)=c):f0 (f1 (Fl.of y) a) c=Fl.of y:=by subst b;subst d;rfl
def f1'{y a}(b:decide (y.c=1)=a):f1 (Fl.of y) a=Fl.of y:=by subst b;rfl
def Ig{y a}(b:decide (y.c=0)=a):f0 (Fl.of y) a=Fl.of y:=by subst b;rfl
def mG{c}(h:yK c=true):c.1.kind≠.early:=by
 unfold yK at h
 simp_all
section
variable{P:afn}{n:Sb}(C:iV P n)(X:jH P n){b:Nat}{kind:afj}{Wd:aeT}{cs:aeY}{g:afd}{w:World}{main:Bool}
variable(hW0:∀w,Wd w->∃v,w.cell? ⟨b,0,none⟩=some v)(hW1:∀w,Wd w->∃v,w.cell? ⟨b,1,none⟩=some v)
include X hW1 in
def TP{y}{c:dt}{fr frs}(h:mE c.1=some (n.tS,n.tU,pt b 1))(a:FR y c.1 fr):vo P Wd (G fr (frs++cs)) (G (fr.finish (.pointer (some ⟨b,1,none⟩))) (frs++cs)):=by obtain⟨t,d,e,f⟩:=X.tyS;exact⟨rfl,λmain w g=>wM a h d e f (hW1 w g)⟩
include X hW0 in
def Oo{y}{c:dt}{fr frs}(h:mE c.1=some (n.tG,n.tU,pt b 0))(a:FR y c.1 fr):vo P Wd (G fr (frs++cs)) (G (fr.finish (.pointer (some ⟨b,0,none⟩))) (frs++cs)):=by obtain⟨t,d,e,f⟩:=X.tyG;exact⟨rfl,λmain w g=>wM a h d e f (hW0 w g)⟩
def vv{f args eQ y fn body}(b:P.funcs[f]?=some fn)(c:fn.body=some body)(d:args.length=eQ.size)(e:∀(i:Nat) a,args[i]?=some a->∃x,eQ[i]?=some x/\SR y a x):FR y (eL P f args kind) (Frame.enter P f eQ kind):=by
 refine⟨by simp[eL,b,Frame.enter],by simp[eL,b,c,Frame.enter],by simp[eL,b,Frame.enter],by simp[eL,b,Frame.enter,FT.of],by simp[eL,b,Frame.enter],rfl,by simp[eL,b,Frame.enter,d],λt=>?_⟩;simp only[eL,b,Frame.enter,aaT,acm];rw[aeg,zD];by_cases g:t<args.length
 . grind
 . rw[adH (by omega),aaP (by omega),List.getElem?_replicate]
   split<;>trivial
include X in
def BS:∃e,vp P Wd (G (Frame.enter P n.add #[.pointer (some ⟨b,0,none⟩),.int .i64 1] kind) cs) e/\tY P n b kind .a0 cs e:=by
 obtain⟨fn,body,f,g,q,r⟩:=X.UM
 have j:FR y0 (eL P n.add [pt b 0,i64 1] kind) (Frame.enter P n.add #[.pointer (some ⟨b,0,none⟩),.int .i64 1] kind):=vv f g rfl λi a h=>by
  match i with
  |0=>simp at h;subst h;exact⟨_,rfl,rfl⟩
  |1=>simp at h;subst h;exact⟨_,rfl,rfl⟩
  |i+2=>simp at h
 have k:np.At y0:=⟨by decide,by decide,rfl,rfl,rfl,rfl,rfl,by decide⟩;obtain⟨m,d,c,l,o,p⟩:=nR (Wd:=Wd) (P:=P) k 400 j (st:=[]) (frs:=[]) trivial;exact⟨_,⟨m,p cs⟩,_,y0,d,c,rfl,vt,l,o,rfl⟩
def Ih:np.At y0:=⟨by decide,by decide,rfl,rfl,rfl,rfl,rfl,by decide⟩
include X in
def sI(C:iV P n):∃e,vp P Wd (G (Frame.enter P n.wait #[.pointer (some ⟨b,0,none⟩)] kind) cs) e/\tY P n b kind .w0 cs e:=by
 obtain⟨fn,body,f,g,p,q⟩:=X.On
 have j:FR y0 (eL P n.wait [pt b 0] kind) (Frame.enter P n.wait #[.pointer (some ⟨b,0,none⟩)] kind):=vv f g rfl λi a h=>by
  match i with
  |0=>simp at h;subst h;exact⟨_,rfl,rfl⟩
  |i+1=>simp at h
 obtain⟨m,d,c,k,l,o⟩:=nR (Wd:=Wd) (P:=P) Ih 400 j (st:=[]) (frs:=[]) trivial;exact⟨_,⟨m,o cs⟩,_,y0,d,c,rfl,vt,k.keep [0],l.tW [],rfl⟩
include X hW0 in
def Ag(C:iV P n):∃f,vp P Wd (G (Frame.enter P n.done #[.pointer (some ⟨b,0,none⟩)] .deferred) cs) f/\tY P n b kind .d1 cs f:=by
 obtain⟨fn,body,l,o,A,B⟩:=X.Om
 have p:FR y0 (eL P n.done [pt b 0] .deferred) (Frame.enter P n.done #[.pointer (some ⟨b,0,none⟩)] .deferred):=vv l o rfl λi a h=>by
  match i with
  |0=>simp at h;subst h;exact⟨_,rfl,rfl⟩
  |i+1=>simp at h
 obtain⟨m,q,g,j,r,s⟩:=nR (Wd:=Wd) (P:=P) Ih 400 p (st:=[]) (frs:=[]) trivial;obtain⟨k,t,u⟩:=C.d0 b;obtain⟨e,d,w,y,z⟩:=Ie (P:=P) (Wd:=Wd) (c:=D0 P n b) (v:=pt b 0) (x:=.pointer (some ⟨b,0,none⟩)) (.inr ⟨_,k⟩) j r t u (λ_=>rfl);exact⟨_,vp.trans ⟨m,s cs⟩ (vp.trans (Oo X hW0 (cs:=cs) k j).Ct (z cs)),_,y0,e,d,rfl,vt,w,y,rfl⟩
include C X in
def ZA(h:tY P n b kind .a0 cs g)(j:kind≠.early):∃k,stepG P main g w=.go k w #[⟨.mark .disable,false,true⟩]/\jI P n b kind Wd .a2 cs k:=by
 obtain⟨c,y,fr,frs,rfl,I,l,f,rfl⟩:=h;obtain⟨m,q,r,t⟩:=C.a0 b kind;obtain⟨o,u,z,A⟩:=C.a1 b kind;refine⟨_,ga Oh l m (by rw[t];exact j) X.kO,rfl,?_⟩;obtain⟨d,a,p,B,D⟩:=Ie (P:=P) (Wd:=Wd) (v:=un) (x:=.tuple #[]) (.inl ⟨_,m⟩) l f q (by rw[r];rfl) (λ_=>rfl);obtain⟨i,e,E,F,H⟩:=Ie (P:=P) (Wd:=Wd) (c:=A1 P n b kind) (v:=ff) (x:=.bool false) (.inl ⟨_,o⟩) p B u (by rw[z];rfl) (λ_=>rfl);have hb:vo P Wd (G d (a++cs)) (G (d.finish (.bool false)) (a++cs)):=⟨rfl,λmain w _=>wJ (s:=(A1 P n b kind).1) p o (by rw[A];exact j) X.Sc⟩;exact⟨_,(D cs).trans (hb.Ct.trans (H cs)),_,y0,i,e,rfl,vt,E,F,rfl⟩
include C X hW1 in
def ZB{c v m:Nat}(o:tX b w c 0 m)(L:c<1000)(h:tY P n b kind .a2 cs g):
 ∃p w',stepG P main g w=.go p w' #[⟨.cell ⟨b,0,none⟩,false,true⟩,⟨.cell ⟨b,0,none⟩,true,true⟩]/\w'=w.setCell ⟨b,0,none⟩ (.int .u64 (fL (c+1:Nat) 0))/\tX b w' (c+1) 0 m/\(jI P n b kind Wd .a4 cs p\/jI P n b kind Wd .ae cs p):=by
 obtain⟨cf,y,fr,frs,rfl,M,z,q,rfl⟩:=h;obtain⟨A,E,F,G⟩:=C.a2 b kind
 have e:IntKind.u64.wrap (fL c 0+4294967296)=fL (c+1:Nat) 0:=by
  rw[lV (by unfold fL;omega) (by unfold fL;omega)];unfold fL;push_cast;omega
 have i:=sG (main:=main) (cs:=frs++cs) (w:=w) z A (mG E) X.vu (λx h=>h) o.cw (o.fz 0);rw[e]at i;have d:({y0 with c:=((c+1:Nat):Int)}:Sy).ok:=⟨by show(0:Int)<=2/\(2:Int)<=1000;decide,by show(0:Int)<=((c+1:Nat):Int)/\((c+1:Nat):Int)<=1000;omega⟩;have r:((c+1:Nat):Int)≠0:=by omega
 obtain⟨s,j,t,B,D⟩:=oB (P:=P) (Wd:=Wd) (y:={y0 with c:=((c+1:Nat):Int)}) (v:=.fL 0) (x:=.int .u64 (fL (c+1:Nat) 0)) (.inl ⟨_,A⟩) d (z.iU F) (q.iU G) rfl;refine⟨_,_,i,rfl,o.bb (c+1) 0,?_⟩;by_cases f:((c+1:Nat):Int)=1
 . left
   have H:=f1' (y:={y0 with c:=((c+1:Nat):Int)}) (a:=true) (by simpa using f);have k:=C.a3 b kind (Fl.of {y0 with c:=((c+1:Nat):Int)});rw[H]at k;obtain⟨u,l,I,J,K⟩:=oB (P:=P) (Wd:=Wd) (v:=pt b 1) (x:=.pointer (some ⟨b,1,none⟩)) (.inr ⟨_,k⟩) d t B rfl;exact⟨rfl,_,(D cs).trans ((TP X hW1 (cs:=cs) k t).Ct.trans (K cs)),_,_,u,l,⟨rfl,f⟩,d,I,J,rfl⟩
 . right
   exact⟨rfl,_,D cs,_,_,s,j,⟨r,.inr ⟨rfl,f⟩⟩,d,t,B,rfl⟩
end
section
variable{P:afn}{n:Sb}(C:iV P n)(X:jH P n){b:Nat}{kind:afj}{Wd:aeT}{cs:aeY}{g:afd}{w:World}{main:Bool}
variable(hW0:∀w,Wd w->∃v,w.cell? ⟨b,0,none⟩=some v)(hW1:∀w,Wd w->∃v,w.cell? ⟨b,1,none⟩=some v)
def Eh{y:Sy}(h:y.c≠0):decide (y.c=0)=false:=by grind
include C X in
def ZC(h:tY P n b kind .a4 cs g)(p:kind≠.early):∃k,stepG P main g w=.go k w #[⟨.mark (.read ⟨b,1,none⟩),false,true⟩]/\jI P n b kind Wd .ae cs k:=by
 obtain⟨c,y,fr,frs,⟨rfl,e⟩,l,m,f,rfl⟩:=h;have q:=f1' (y:=y) (a:=true) (by simpa using e);obtain⟨i,o⟩:=C.a4 b kind (Fl.of y);rw[q]at i o;obtain⟨j,d,r,s,t⟩:=oB (P:=P) (Wd:=Wd) (v:=un) (x:=.tuple #[]) (.inl ⟨_,i⟩) l m f rfl;exact⟨_,gQ (λu g h=>by cases h) m i (by rw[o];exact p) X.rd,rfl,_,t cs,_,y,j,d,⟨by rw[e];decide,.inl ⟨rfl,e⟩⟩,l,r,s,rfl⟩
include C X in
def ZD {e rest} (h:tY P n b kind .ae (e :: rest) g) (t:kind ≠ .early):∃ d,stepG P main g w = .go d w #[⟨.mark .enable,false,true⟩]∧d.status = .running∧vp P Wd d (lS kind e rest (.tuple #[])):=by
 obtain⟨c,y,fr,frs,⟨f,i⟩,E,u,j,rfl⟩:=h;obtain⟨fn,body,f1,F,H,v⟩:=X.UM
 have key:uD c.1=some n.en->c.2=[]->c.1.kind=kind->c.1.fn=n.add->∃ d,stepG P main (G fr (frs ++ e :: rest)) w = .go d w #[⟨.mark .enable,false,true⟩]∧d.status = .running∧vp P Wd d (lS kind e rest (.tuple #[])):=fun q x s z=>by
  rw[x] at j;obtain rfl:=j.oR;obtain⟨A,B⟩:=Eg (main:=main) (cs:=[] ++ e :: rest) (w:=w) u q X.en
  have k:lX ({ c.1 with defers:=[] }:sa) n.add=true:=by
   unfold lX;unfold uD at q;split at q
   . rename_i g cap as D hd;simp[D,z]
   cases q
  refine⟨_,A,rfl,?_⟩;have:=ns (Wd:=Wd) (c:=e) (rest:=rest) B k f1 v (by show c.1.kind≠_;rw[s];exact t)
  rw[show ({ c.1 with defers:=[] }:sa).kind=kind from s] at this
  exact this.Ct
 rcases i with ⟨rfl,i⟩|⟨rfl,i⟩
 . have r:=f10 (y:=y) (a:=true) (c:=false) (by simpa using i) (Eh f)
   obtain⟨l,m,o,p⟩:=C.a5 b kind (Fl.of y);rw[r] at l m o p;exact key l m o p
 have r:=f10 (y:=y) (a:=false) (c:=false) (by simpa using i) (Eh f)
 obtain⟨l,m,o,p⟩:=C.a6 b kind (Fl.of y);rw[r] at l m o p;exact key l m o p
include C X in
def ZE(h:tY P n b kind .d1 cs g):∃f,stepG P main g w=.go f w #[⟨.mark (.releaseMerge ⟨b,0,none⟩),false,true⟩]/\jI P n b kind Wd .d2 cs f:=by
 obtain⟨c,y,fr,frs,rfl,r,i,d,rfl⟩:=h;obtain⟨j,k,l,m⟩:=C.d1 b;obtain⟨e,a,o,p,q⟩:=Ie (P:=P) (Wd:=Wd) (v:=un) (x:=.tuple #[]) (.inl ⟨_,j⟩) i d l m (λ_=>rfl);exact⟨_,gQ (λs g h=>by cases h) i j (mG k) X.rel,rfl,_,q cs,_,y0,e,a,rfl,vt,o,p,rfl⟩
include C X in
def ZF(h:tY P n b kind .d2 cs g):∃j,stepG P main g w=.go j w #[⟨.mark .disable,false,true⟩]/\jI P n b kind Wd .d4 cs j:=by
 obtain⟨c,y,fr,frs,rfl,H,k,f,rfl⟩:=h;obtain⟨l,p,q,r⟩:=C.d2 b;obtain⟨m,t,u,z⟩:=C.d3 b;refine⟨_,ga Oh k l (mG p) X.kO,rfl,?_⟩;obtain⟨d,a,o,A,B⟩:=Ie (P:=P) (Wd:=Wd) (v:=un) (x:=.tuple #[]) (.inl ⟨_,l⟩) k f q r (λ_=>rfl);obtain⟨i,e,D,E,F⟩:=Ie (P:=P) (Wd:=Wd) (c:=D3 P n b) (v:=ff) (x:=.bool false) (.inl ⟨_,m⟩) o A u z (λ_=>rfl);have hb:vo P Wd (G d (a++cs)) (G (d.finish (.bool false)) (a++cs)):=⟨rfl,λmain w _=>wJ (s:=(D3 P n b).1) o m (mG t) X.Sc⟩;exact⟨_,(B cs).trans (hb.Ct.trans (F cs)),_,y0,i,e,rfl,vt,D,E,rfl⟩
def mH(P:afn)(a:FuncId)(tmps:aeS)(todo:afb):Frame:=⟨a,tmps,todo,[],.returning,.deferred,none⟩
def de(P:afn):Frame:={(default:Frame)with fn:=P.funcs.size,defers:=[],mode:=.panicking [goexitEntry]}
def wR{a fn tmps todo}(c:P.funcs[a]?=some fn)(d:fn.results=#[]):QuitsD P 2 0 (G (mH P a tmps todo) [de P]):=by
 refine .ctl (g':=G (de P) []) rfl (λw=>?_) (.ctl (g':={G (de P) []with status:=.finished}) rfl (λw=>?_) ⟨rfl,rfl⟩)
 . simp[G,stepG,unwind,c,results,d,mH,de,goexitEntry]
   rfl
 have b:(de P).catches P=false:=by simp[Frame.catches,de];rfl
 simp[G,stepG,unwind,de,goexitEntry]at b ⊢;simp[b]
def wT{d}:∀{m k a c},kB P (λ_=>True) m a c->QuitsD P k d c->QuitsD P (k+m) d a
 |0,k,a,c,h,b=>by obtain rfl:=h;exact b
 |m+1,k,a,c,h,b=>by obtain⟨i,⟨e,f⟩,g⟩:=h;exact .ctl e (λw=>f false w trivial) (wT g b)
include X in
def Ah{c y fr frs a fn tmps todo}(o:P.funcs[a]?=some fn)(b:fn.results=#[])(p:y.ok)(j:FR y c.1 fr)(e:oz y c.2 frs)
 (k:uD c.1=some n.en) (q:lX (oA P (Fl.of y) c).1 n.done=true) (r:(oA P (Fl.of y) c).2=[]) (l:(oA P (Fl.of y) c).1.kind=.deferred):∃m,QuitsD P m 1 (G fr (frs++[mH P a tmps todo,de P])):=by
 obtain⟨_,f⟩:=Eg (P:=P) (main:=false) (cs:=frs++[mH P a tmps todo,de P]) (w:=default) j k X.en;obtain⟨m,g,d,s,t,u⟩:=nR (Wd:=λ_=>True) (P:=P) (Fl.F1 p) 400 f e
 have h:oz y [] d:=by rw[<-r];exact t
 obtain rfl:=h.oR;obtain⟨fd,body,v,B,C,x⟩:=X.Om;have hb:=ns (Wd:=λ_=>True) (c:=mH P a tmps todo) (rest:=[de P]) s q v x (by show(oA P (Fl.of y) c).1.kind≠_;rw[l];decide)
 have i:lS (sgo P (Fl.of y) 400 {c.1 with defers:=[]} c.2).1.kind (mH P a tmps todo) [de P] (.tuple #[])=G (mH P a tmps todo) [de P]:=by rw[show(sgo P (Fl.of y) 400 {c.1 with defers:=[]} c.2).1.kind=.deferred from l];rfl
 rw[i]at hb;have z:QuitsD P (2+1) 0 (G g [mH P a tmps todo,de P]):=.ctl rfl (λw=>hb.2 false w trivial) (wR o b)
 have A:=wT (u [mH P a tmps todo,de P]) z;exact⟨_,.said ⟨.mark .enable,false,true⟩ rfl rfl (λw=>(Eg (P:=P) (main:=false) (cs:=frs++[mH P a tmps todo,de P]) (w:=w) j k X.en).1) A⟩
def Gone(P:afn)(Wd:aeT)(a:afd):Prop:=∃m,QuitsD P m 1 a
def Ei{m k a c}(h:kB P (λ_=>True) m a c)(b:QuitsD P k 1 c):Gone P Wd a:=⟨_,wT h b⟩
include C X in
def ZG{k v m o fn tmps todo}(N:P.funcs[o]?=some fn)(f:fn.results=#[])(G:tX b w (k+1) v m)(R:k<1000)(S:v<=1)(h:tY P n b kind .d4 [mH P o tmps todo,de P] g):
 ∃H w',stepG P main g w=.go H w' #[⟨.cell ⟨b,0,none⟩,false,true⟩,⟨.cell ⟨b,0,none⟩,true,true⟩]/\w'=w.setCell ⟨b,0,none⟩ (.int .u64 (fL k v))/\tX b w' k v m/\((k=0/\v=1/\jI P n b kind Wd .d5 [mH P o tmps todo,de P] H)\/(¬(k=0/\v=1)/\Gone P Wd H)):=by
 obtain⟨cf,y,fr,frs,rfl,T,E,i,rfl⟩:=h;obtain⟨F,O,I,J⟩:=C.d4 b
 have e:IntKind.u64.wrap (fL (k+1:Nat) v+18446744069414584320)=fL k v:=by
  have:fL (k+1:Nat) v+18446744069414584320=fL k v+18446744073709551616:=by unfold fL;push_cast;omega
  rw[this];simp[IntKind.wrap,IntKind.bits,IntKind.signed];unfold fL;omega
 have p:=sG (main:=main) (cs:=frs++[mH P o tmps todo,de P]) (w:=w) E F (mG O) X.vu (λx h=>h) G.cw (G.fz 0)
 rw[e]at p;have a:({y0 with c:=(k:Int)}:Sy).ok:=⟨by show(0:Int)<=2/\(2:Int)<=1000;decide,by show(0:Int)<=(k:Int)/\(k:Int)<=1000;omega⟩
 refine⟨_,_,p,rfl,G.bb k v,?_⟩;have q:v=0\/v=1:=by omega
 rcases q with rfl|rfl
 . refine .inr ⟨by omega,?_⟩
   obtain⟨l,d,r,s,t⟩:=oB (P:=P) (Wd:=λ_=>True) (y:={y0 with c:=(k:Int)}) (v:=.fL 0) (x:=.int .u64 (fL k 0)) (.inl ⟨_,F⟩) a (E.iU I) (i.iU J) rfl
   have u:=C.d5 b (Fl.of {y0 with c:=(k:Int)}) (decide ((k:Int)=0))
   obtain⟨z,A,B⟩:=C.d5b b (Fl.of {y0 with c:=(k:Int)}) (decide ((k:Int)=0))
   rw[Ig rfl]at u z A B;obtain⟨Q,K⟩:=Ah X N f a r s u z A B;obtain⟨j,L⟩:=t [mH P o tmps todo,de P];exact Ei L K
 by_cases D:k=0
 . refine .inl ⟨D,rfl,?_⟩
   obtain⟨l,d,r,s,t⟩:=oB (P:=P) (Wd:=Wd) (y:={y0 with c:=(k:Int)}) (v:=.fL 1) (x:=.int .u64 (fL k 1)) (.inl ⟨_,F⟩) a (E.iU I) (i.iU J) rfl
   exact⟨rfl,_,t _,_,_,l,d,⟨rfl,by show(k:Int)=0;omega⟩,a,r,s,rfl⟩
 refine .inr ⟨by omega,?_⟩
 obtain⟨l,d,r,s,t⟩:=oB (P:=P) (Wd:=λ_=>True) (y:={y0 with c:=(k:Int)}) (v:=.fL 1) (x:=.int .u64 (fL k 1)) (.inl ⟨_,F⟩) a (E.iU I) (i.iU J) rfl
 have M:decide ((k:Int)=0)=false:=by simpa using D
 have u:=C.d6 b (Fl.of {y0 with c:=(k:Int)})
 obtain⟨z,A,B⟩:=C.d6b b (Fl.of {y0 with c:=(k:Int)})
 rw[Ig M]at u z A B;obtain⟨Q,K⟩:=Ah X N f a r s u z A B;obtain⟨j,L⟩:=t [mH P o tmps todo,de P];exact Ei L K
include C X in
def ZH{m}(q:tX b w 0 1 m)(h:tY P n b kind .d5 cs g):∃k,stepG P main g w=.go k w #[⟨.cell ⟨b,0,none⟩,false,true⟩]/\jI P n b kind Wd .d6 cs k:=by
 obtain⟨c,y,fr,frs,⟨rfl,e⟩,l,o,f,rfl⟩:=h;have r:=Ig (y:=y) (a:=true) (by simpa using e)
 obtain⟨i,p⟩:=C.d7 b (Fl.of y);rw[r]at i p;have s:SR y (.fL 1) (.int .u64 (fL 0 1)):=by show _=Value.int .u64 (fL y.c 1);rw[e]
 obtain⟨j,d,t,u,v⟩:=oB (P:=P) (Wd:=Wd) (.inl ⟨_,i⟩) l o f s;exact⟨_,wQ o i (mG p) X.yt q.cw,rfl,_,v cs,_,y,j,d,⟨rfl,e⟩,l,t,u,rfl⟩
include C X in
def ZI{m}(e:tX b w 0 1 m)(h:tY P n b kind .d6 cs g):∃k w',stepG P main g w=.go k w' #[⟨.cell ⟨b,0,none⟩,true,true⟩]/\w'=w.setCell ⟨b,0,none⟩ (.int .u64 (fL 0 0))/\tX b w' 0 0 m/\jI P n b kind Wd .d7 cs k:=by
 obtain⟨c,y,fr,frs,⟨rfl,l⟩,o,p,f,rfl⟩:=h;have r:=Ig (y:=y) (a:=true) (by simpa using l);obtain⟨i,q⟩:=C.d8 b (Fl.of y);rw[r]at i q;obtain⟨j,d,s,t,u⟩:=oB (P:=P) (Wd:=Wd) (v:=un) (x:=.tuple #[]) (.inl ⟨_,i⟩) o p f rfl;exact⟨_,_,Lh p i (mG q) X.Li e.cw (e.fz 0),rfl,e.bb 0 0,rfl,_,u cs,_,y,j,d,⟨rfl,l⟩,o,s,t,rfl⟩
include C X in
def ZJ{v m k fn tmps todo}(E:P.funcs[k]?=some fn)(d:fn.results=#[])(l:tX b w 0 v m)(M:m<=1000)(h:tY P n b kind .d7 [mH P k tmps todo,de P] g):
 ∃q w',stepG P main g w=.go q w' (semEvents ⟨b,1,none⟩)/\w'=w.setCell ⟨b,1,none⟩ (.int .u32 (m+1:Nat))/\tX b w' 0 v (m+1)/\Gone P Wd q:=by
 obtain⟨c,y,fr,frs,⟨rfl,F⟩,r,s,o,rfl⟩:=h;have f:=Ig (y:=y) (a:=true) (by simpa using F)
 obtain⟨p,t⟩:=C.d9 b (Fl.of y);rw[f]at p t;have i:=qT (main:=main) (cs:=frs++[mH P k tmps todo,de P]) (w:=w) s p (mG t) X.qU l.cs (l.fz 1);have e:IntKind.u32.wrap ((m:Int)+1)=((m+1:Nat):Int):=by rw[IntKind.wrap_u32];omega
 rw[e]at i;obtain⟨G,u,H,I,J⟩:=oB (P:=P) (Wd:=λ_=>True) (v:=un) (x:=.tuple #[]) (.inl ⟨_,p⟩) r s o rfl
 have z:=C.da b (Fl.of y);obtain⟨A,B,D⟩:=C.db b (Fl.of y);rw[f]at z A B D;obtain⟨N,K⟩:=Ah X E d r H I z A B D;obtain⟨j,L⟩:=J [mH P k tmps todo,de P];exact⟨_,_,i,rfl,l.Ib (m+1),Ei L K⟩
end
section
variable{P:afn}{n:Sb}(C:iV P n)(X:jH P n){b:Nat}{kind:afj}{Wd:aeT}{cs:aeY}{g:afd}{w:World}{main:Bool}
variable(hW0:∀w,Wd w->∃v,w.cell? ⟨b,0,none⟩=some v)(hW1:∀w,Wd w->∃v,w.cell? ⟨b,1,none⟩=some v)
include C X in
def ZK(h:tY P n b kind .w0 cs g)(k:kind≠.early):∃f,stepG P main g w=.go f w #[⟨.mark .disable,false,true⟩]/\jI P n b kind Wd .w1 cs f:=by
 obtain⟨c,y,fr,frs,rfl,s,i,d,rfl⟩:=h;obtain⟨j,l,m,o⟩:=C.w0 b kind;obtain⟨e,a,p,q,r⟩:=Ie (P:=P) (Wd:=Wd) (v:=un) (x:=.tuple #[]) (.inl ⟨_,j⟩) i d l (by rw[m];rfl) (λ_=>rfl);exact⟨_,ga Oh i j (by rw[o];exact k) X.kO,rfl,_,r cs,_,y0,e,a,rfl,vt,p.keep [5],q.tW [[0]],rfl⟩
include C X in
def ZL{c m}(r:tX b w c 0 m)(z:c<=1000)(h:tY P n b kind .w1 cs g):
 ∃f,stepG P main g w=.go f w #[⟨.cell ⟨b,0,none⟩,false,true⟩]/\((c=0/\jI P n b kind Wd .we cs f)\/(c≠0/\jI P n b kind Wd (.w2 c) cs f)):=by
 obtain⟨cf,y,fr,frs,rfl,A,k,i,rfl⟩:=h;obtain⟨l,s,t,u⟩:=C.w1 b kind;have d:({y0 with c:=(c:Int)}:Sy).ok:=⟨by show(0:Int)<=2/\(2:Int)<=1000;decide,by show(0:Int)<=(c:Int)/\(c:Int)<=1000;omega⟩;obtain⟨e,a,o,p,q⟩:=oB (P:=P) (Wd:=Wd) (y:={y0 with c:=(c:Int)}) (v:=.fL 0) (x:=.int .u64 (fL c 0)) (.inl ⟨_,l⟩) d (k.iU t) (i.iU u) rfl;refine⟨_,wQ k l (mG s) X.yt r.cw,?_⟩;by_cases j:c=0
 . exact .inl ⟨j,rfl,_,q cs,_,_,e,a,.inl ⟨rfl,by show(c:Int)=0;omega⟩,d,o,p,rfl⟩
 exact .inr ⟨j,rfl,_,q cs,_,_,e,a,⟨rfl,rfl,j⟩,d,o,p,rfl⟩
include C X hW0 in
def ZM(h:tY P n b kind .we cs g)(D:kind≠.early):∃E,stepG P main g w=.go E w #[⟨.mark .enable,false,true⟩]/\jI P n b kind Wd .wa cs E:=by
 obtain⟨c,y,fr,frs,e,k,q,l,rfl⟩:=h;rcases e with⟨rfl,e⟩|⟨rfl,e⟩
 . have r:=Ig (y:=y) (a:=true) (by simpa using e)
   obtain⟨f,m⟩:=C.w2 b kind (Fl.of y);have i:=C.w3 b kind (Fl.of y);rw[r]at f m i;obtain⟨s,o,p,t,u⟩:=oB (P:=P) (Wd:=Wd) (v:=un) (x:=.tuple #[]) (.inl ⟨_,f⟩) k q l rfl;obtain⟨j,d,z,A,B⟩:=oB (P:=P) (Wd:=Wd) (c:=WC P n b kind (Fl.of y)) (v:=pt b 0) (x:=.pointer (some ⟨b,0,none⟩)) (.inr ⟨_,i⟩) k p t rfl;exact⟨_,ga Oi q f (by rw[m];exact D) X.en,rfl,_,(u cs).trans ((Oo X hW0 (c:=WC P n b kind (Fl.of y)) (cs:=cs) i p).Ct.trans (B cs)),_,y,j,d,.inl ⟨rfl,e⟩,k,z,A,rfl⟩
 have r:=Ig (y:=y) (a:=false) (Eh e);obtain⟨f,m⟩:=C.wc b kind (Fl.of y);have i:=C.wd b kind (Fl.of y);rw[r]at f m i;obtain⟨s,o,p,t,u⟩:=oB (P:=P) (Wd:=Wd) (v:=un) (x:=.tuple #[]) (.inl ⟨_,f⟩) k q l rfl;obtain⟨j,d,z,A,B⟩:=oB (P:=P) (Wd:=Wd) (c:=XB P n b kind (Fl.of y)) (v:=pt b 0) (x:=.pointer (some ⟨b,0,none⟩)) (.inr ⟨_,i⟩) k p t rfl;exact⟨_,ga Oi q f (by rw[m];exact D) X.en,rfl,_,(u cs).trans ((Oo X hW0 (c:=XB P n b kind (Fl.of y)) (cs:=cs) i p).Ct.trans (B cs)),_,y,j,d,.inr ⟨rfl,e⟩,k,z,A,rfl⟩
include C X in
def XC{j rest}(h:tY P n b kind .wa (j::rest) g)(q:kind≠.early):∃t,stepG P main g w=.go t w #[⟨.mark (.acquire ⟨b,0,none⟩),false,true⟩]/\t.status=.running/\vp P Wd t (lS kind j rest (.tuple #[])):=by
 obtain⟨c,y,fr,frs,k,E,r,l,rfl⟩:=h;obtain⟨fn,body,f1,H,I,F⟩:=X.On;rcases k with⟨rfl,k⟩|⟨rfl,k⟩
 . have u:=Ig (y:=y) (a:=true) (by simpa using k)
   obtain⟨f,m⟩:=C.w4 b kind (Fl.of y);obtain⟨o,p,i⟩:=C.w5 b kind (Fl.of y);rw[u]at f m o p i;obtain⟨z,d,A,B,D⟩:=oB (P:=P) (Wd:=Wd) (v:=un) (x:=.tuple #[]) (.inl ⟨_,f⟩) E r l rfl;have e:oz y (WB P n b kind (Fl.of y)).2 d:=B;rw[p]at e;obtain rfl:=e.oR;have hb:=ns (Wd:=Wd) (c:=j) (rest:=rest) (s:=(WB P n b kind (Fl.of y)).1) A o f1 F (by rw[i];exact q);rw[i]at hb;exact⟨_,gQ (λG g h=>by cases h) r f (by rw[m];exact q) X.acq,rfl,(D (j::rest)).trans hb.Ct⟩
 have u:=Ig (y:=y) (a:=false) (Eh k);obtain⟨f,m⟩:=C.we b kind (Fl.of y);obtain⟨o,p,i⟩:=C.wf b kind (Fl.of y);rw[u]at f m o p i;obtain⟨z,d,A,B,D⟩:=oB (P:=P) (Wd:=Wd) (v:=un) (x:=.tuple #[]) (.inl ⟨_,f⟩) E r l rfl;have e:oz y (TO P n b kind (Fl.of y)).2 d:=B;rw[p]at e;obtain rfl:=e.oR;have hb:=ns (Wd:=Wd) (c:=j) (rest:=rest) (s:=(TO P n b kind (Fl.of y)).1) A o f1 F (by rw[i];exact q);rw[i]at hb;exact⟨_,gQ (λG g h=>by cases h) r f (by rw[m];exact q) X.acq,rfl,(D (j::rest)).trans hb.Ct⟩
def Sd{c c' v a:Nat}(d:v<=1000)(b:a<=1000):fL c v=fL c' a↔(c=c'/\v=a):=by unfold fL;omega
include C X hW1 in
def ZN{k c m}(l:tX b w c 0 m)(h:tY P n b kind (.w2 k) cs g):
 (c=k/\∃o w',stepG P main g w=.go o w' #[⟨.cell ⟨b,0,none⟩,false,true⟩,⟨.cell ⟨b,0,none⟩,true,true⟩]/\w'=w.setCell ⟨b,0,none⟩ (.int .u64 (fL k 1))/\tX b w' k 1 m/\jI P n b kind Wd .w3 cs o)\/
 (c≠k/\∃o,stepG P main g w=.go o w #[⟨.cell ⟨b,0,none⟩,false,true⟩]/\jI P n b kind Wd .w1 cs o):=by
 obtain⟨cf,y,fr,frs,⟨rfl,K,L⟩,p,z,q,rfl⟩:=h;have r:y.c≠0:=by rw[K];omega
 have D:=Ig (y:=y) (a:=false) (Eh r);obtain⟨s,E⟩:=C.w6 b kind (Fl.of y);rw[D]at s E
 have A:∀j:Nat,∀x,SR y (.fL j) x->x=.int .u64 (fL k j):=λj x F=>by have F:x=.int .u64 (fL y.c j):=F;rw[F,K]
 by_cases f:c=k
 . subst f
   refine .inl ⟨rfl,_,_,ji z s (mG E) X.Af (A 0) (A 1) l.cw (l.fz 0),rfl,l.bb c 1,rfl,?_⟩;have i:=C.w8 b kind (Fl.of y);rw[D]at i;obtain⟨t,d,B,G,H⟩:=oB (P:=P) (Wd:=Wd) (v:=tt) (x:=.bool true) (.inl ⟨_,s⟩) p z q rfl;obtain⟨I,u,M,N,O⟩:=oB (P:=P) (Wd:=Wd) (c:=W3 P n b kind (Fl.of y)) (v:=pt b 1) (x:=.pointer (some ⟨b,1,none⟩)) (.inr ⟨_,i⟩) p B G rfl;exact⟨_,(H cs).trans ((TP X hW1 (c:=W3 P n b kind (Fl.of y)) (cs:=cs) i B).Ct.trans (O cs)),_,y,I,u,⟨rfl,r⟩,p,M,N,rfl⟩
 have J:¬fL c 0=fL k 0:=λe=>f ((Sd (by omega) (by omega)).1 e).1
 refine .inr ⟨f,_,jG z s (mG E) X.Af (A 0) (A 1) l.cw (l.fz 0) J,rfl,?_⟩;have i:=C.w7 b kind (Fl.of y);rw[D]at i;obtain⟨t,d,B,G,H⟩:=oB (P:=P) (Wd:=Wd) (v:=ff) (x:=.bool false) (.inl ⟨_,s⟩) p z q rfl;have Q:=B.keep [5];have R:=G.tW [[0]];refine⟨_,H cs,W1 P n b kind,y,t,d,rfl,p,?_,?_,rfl⟩
 . rw[<-i];exact Q
 rw[<-i];exact R
include C X in
def ZO(h:tY P n b kind .w3 cs g)(p:kind≠.early):∃j,stepG P main g w=.go j w #[⟨.mark (.write ⟨b,1,none⟩),false,true⟩]/\jI P n b kind Wd .w4 cs j:=by obtain⟨c,y,fr,frs,⟨rfl,k⟩,l,m,e,rfl⟩:=h;have q:=Ig (y:=y) (a:=false) (Eh k);obtain⟨f,o⟩:=C.w9 b kind (Fl.of y);rw[q]at f o;obtain⟨i,d,r,s,t⟩:=oB (P:=P) (Wd:=Wd) (v:=un) (x:=.tuple #[]) (.inl ⟨_,f⟩) l m e rfl;exact⟨_,gQ (λu g h=>by cases h) m f (by rw[o];exact p) X.wr,rfl,_,t cs,_,y,i,d,⟨rfl,k⟩,l,r,s,rfl⟩
include C X in
def ZP{c v m}(i:tX b w c v m)(D:m≠0)(h:tY P n b kind .w4 cs g)(t:kind≠.early):
 ∃o w',stepG P main g w=.go o w' (semEvents ⟨b,1,none⟩)/\w'=w.setCell ⟨b,1,none⟩ (.int .u32 (m-1:Nat))/\tX b w' c v (m-1)/\jI P n b kind Wd .w5 cs o:=by
 obtain⟨cf,y,fr,frs,⟨rfl,p⟩,q,r,j,rfl⟩:=h;have u:=Ig (y:=y) (a:=false) (Eh p);obtain⟨k,s⟩:=C.wa b kind (Fl.of y);rw[u]at k s;have d:=vr (main:=main) (cs:=frs++cs) (w:=w) (n:=(m:Int)) r k (by rw[s];exact t) X.H7 i.cs (by omega) (i.fz _);have e:((m:Int)-1)=((m-1:Nat):Int):=by omega
 rw[e]at d;obtain⟨l,f,z,A,B⟩:=oB (P:=P) (Wd:=Wd) (v:=un) (x:=.tuple #[]) (.inl ⟨_,k⟩) q r j rfl;exact⟨_,_,d,rfl,i.Ib (m-1),rfl,_,B cs,_,y,l,f,⟨rfl,p⟩,q,z,A,rfl⟩
include C X in
def XD{c v}(e:tX b w c v 0)(h:tY P n b kind .w4 cs g):stepG P main g w=.go {g with status:=.blocked} w #[]:=by obtain⟨cf,y,fr,frs,⟨rfl,f⟩,m,i,j,rfl⟩:=h;have k:=Ig (y:=y) (a:=false) (Eh f);obtain⟨d,l⟩:=C.wa b kind (Fl.of y);rw[k]at d l;exact Cy i d X.H7 e.cs
include C X in
def ZQ{m}(r:tX b w 0 0 m)(h:tY P n b kind .w5 cs g):∃k,stepG P main g w=.go k w #[⟨.cell ⟨b,0,none⟩,false,true⟩]/\jI P n b kind Wd .we cs k:=by obtain⟨c,y,fr,frs,⟨rfl,l⟩,o,p,e,rfl⟩:=h;have s:=Ig (y:=y) (a:=false) (Eh l);obtain⟨f,q⟩:=C.wb b kind (Fl.of y);rw[s]at f q;have i:=wQ (main:=main) (cs:=frs++cs) p f (mG q) X.yt r.cw;obtain⟨j,d,t,u,z⟩:=oB (P:=P) (Wd:=Wd) (v:=u64 0) (x:=.int .u64 0) (.inl ⟨_,f⟩) o p e rfl;exact⟨_,i,rfl,_,z cs,_,y,j,d,.inr ⟨rfl,l⟩,o,t,u,rfl⟩
end
structure oC(P:afn)(n:FY):Prop where
 lock:∃fn body,P.funcs[n.lock]?=some fn/\fn.body=some body/\fn.ntmps=6/\fn.results=#[]
 unlock:∃fn body,P.funcs[n.unlock]?=some fn/\fn.body=some body/\fn.ntmps=6/\fn.results=#[]
section
variable{P:afn}{n:FY}(C:iH P n)(X:iI P n)(F:oC P n){b o:Nat}{kind:afj}{Wd:aeT}{cs:aeY}{g:afd}{w:World}{main:Bool}
include F in
def tZ:∃a,vp P Wd (G (Frame.enter P n.lock #[.pointer (some ⟨b,o,none⟩)] kind) cs) a/\qC P n b o kind .ld cs a:=by obtain⟨fn,body,c,d,e,f⟩:=F.lock;exact Ic ⟨fn,body,c,d,e⟩
include F in
def rV:∃e,vp P Wd (G (Frame.enter P n.unlock #[.pointer (some ⟨b,o,none⟩)] kind) cs) e/\qC P n b o kind .JP cs e:=by
 obtain⟨fn,body,f,g,q,r⟩:=F.unlock
 have j:FR y0 (eL P n.unlock [pt b o] kind) (Frame.enter P n.unlock #[.pointer (some ⟨b,o,none⟩)] kind):=vv f g rfl λi a h=>by
  match i with
  |0=>simp at h;subst h;exact⟨_,rfl,rfl⟩
  |i+1=>simp at h
 obtain⟨m,d,c,k,l,p⟩:=nR (Wd:=Wd) (P:=P) Ih 400 j (st:=[]) (frs:=[]) trivial;exact⟨_,⟨m,p cs⟩,_,y0,d,c,rfl,vt,k.keep [0,5],l.keep [],rfl⟩
include F in
def vw{c rest}(h:qC P n b o kind .back (c::rest) g)(e:kind≠.early):vp P Wd g (lS kind c rest (.tuple #[])):=by obtain⟨cf,y,fr,frs,rfl,l,i,a,rfl⟩:=h;obtain⟨fn,body,j,m,p,k⟩:=F.lock;have d:oz y [] frs:=a;obtain rfl:=d.oR;exact(ns (Wd:=Wd) (c:=c) (rest:=rest) (s:=(BK n kind).1) (f:=n.lock) i (by simp[BK,lX]) j k e).Ct
include F in
def nW{c rest}(h:qC P n b o kind .F3 (c::rest) g)(e:kind≠.early):vp P Wd g (lS kind c rest (.tuple #[])):=by obtain⟨cf,y,fr,frs,rfl,l,i,a,rfl⟩:=h;obtain⟨fn,body,j,m,p,k⟩:=F.unlock;have d:oz y [] frs:=a;obtain rfl:=d.oR;exact(ns (Wd:=Wd) (c:=c) (rest:=rest) (s:=(Xp n kind).1) (f:=n.unlock) i (by simp[Xp,lX]) j k e).Ct
end
