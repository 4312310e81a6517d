import Derived.Conc.QuitsD
import Derived.Test.YtebcbkhnlnkolaaGreatDoorC8
set_option linter.all false
namespace Go.bU
open Go.Conc
inductive Iy where
 |a0|a2|a4|ae
 |d1|d2|d4|d5|d6|d7
 |w0|w1|we|wa|w2 (c:Nat)|w3|w4|w5
structure sA  b  (w:World) (c v m:Nat):Prop where
 cw:w.cell? ⟨b,0,none⟩=some (.int .u64 (fh c v))
 cs:w.cell? ⟨b,1,none⟩=some (.int .u32 m)
 fz:∀i,w.frozen? ⟨b,i,none⟩=false
def sA.bc{b w c v m}(h:sA b w c v m)(c' a:Nat):sA b (w.setCell ⟨b,0,none⟩ (.int .u64 (fh c' a))) c' a m:=⟨kQ h.cw,by rw[dU (by simp)];exact h.cs,λi=>by rw[pK];exact h.fz i⟩
def sA.GL{b w c v m}(h:sA b w c v m)(a:Nat):sA b (w.setCell ⟨b,1,none⟩ (.int .u32 a)) c v a:=⟨by rw[dU (by simp)];exact h.cw,kQ h.cs,λi=>by rw[pK];exact h.fz i⟩
section
variable(P:adY)(n:Qp)(b:Nat)(kind:adU)
def GtC(p:Iy)(c:dc)(y:Sy):Prop:=
 match p with
 |.a0=>c=A0 P n b kind
 |.a2=>c=A2 P n b kind
 |.a4=>c=A4 P n b kind (Fl.of y)/\y.c=1
 |.ae=>y.c≠0/\((c=A5 P n b kind (Fl.of y)/\y.c=1)\/(c=A3 P n b kind (Fl.of y)/\y.c≠1))
 |.d1=>c=D1 P n b
 |.d2=>c=D2 P n b
 |.d4=>c=D4 P n b
 |.d5=>c=DE P n b (Fl.of y) 1/\y.c=0
 |.d6=>c=D6 P n b (Fl.of y)/\y.c=0
 |.d7=>c=D7 P n b (Fl.of y)/\y.c=0
 |.w0=>c=W0 P n b kind
 |.w1=>c=W1 P n b kind
 |.we=>(c=WE P n b kind (Fl.of y)/\y.c=0)\/(c=Uk P n b kind (Fl.of y)/\y.c≠0)
 |.wa=>(c=WA P n b kind (Fl.of y)/\y.c=0)\/(c=Ul P n b kind (Fl.of y)/\y.c≠0)
 |.w2 k=>c=WE P n b kind (Fl.of y)/\y.c=k/\k≠0
 |.w3=>c=Uj P n b kind (Fl.of y)/\y.c≠0
 |.w4=>c=W4 P n b kind (Fl.of y)/\y.c≠0
 |.w5=>c=W5 P n b kind (Fl.of y)/\y.c≠0
def sB(p:Iy)(cs:adK)(g:adP):Prop:=∃c y fr frs,GtC P n b kind p c y/\y.ok/\FR y c.1 fr/\na y c.2 frs/\g=G fr (frs++cs)
def jh(Wd:adF)(p:Iy)(cs:adK)(a:adP):Prop:=a.status=.running/\∃c,tY P Wd a c/\sB P n b kind p cs c
end
def sB.running{P n b kind p cs g}(h:sB P n b kind p cs g):g.status=.running/\g.offers=none:=by obtain⟨c,y,fr,frs,_,_,_,_,rfl⟩:=h;exact⟨rfl,rfl⟩
def Bl{s v}(h:(∃x,bj s=some x)\/(∃x,lD s=some x)):∃s',yN s v=some s':=by
 unfold yN;rcases h with⟨x,h⟩|⟨x,h⟩
 . unfold bj at h
   split at h
   . simp_all
   . cases h
 . unfold lD at h
   split at h
   . simp_all
   . cases h
section
variable{P:adY}{Wd:adF}{y:Sy}{c:dc}{v:SV}{x:Value}{fr:Frame}{frs:adK}
def ni(h:(∃x,bj c.1=some x)\/(∃x,lD c.1=some x))(f:y.ok)(g:FR y c.1 fr)(d:na y c.2 frs)(i:SR y v x):
 ∃b a,FR y (next P (Fl.of y) c v).1 b/\na y (next P (Fl.of y) c v).2 a/\∀cs,tY P Wd (G (fr.finish x) (frs++cs)) (G b (a++cs)):=by
 obtain⟨n,e⟩:=Bl (v:=v) h;obtain⟨m,b,a,j,k,l⟩:=mM (Wd:=Wd) (Fl.Ez f) 400 (P:=P) (g.fin e i) d;unfold next
 rw[e];exact⟨b,a,j,k,λcs=>⟨m,l cs⟩⟩
def GN(h:(∃x,bj c.1=some x)\/(∃x,lD c.1=some x))(g:FR y c.1 fr)(d:na y c.2 frs)(i:c.1.env.all plain=true)(e:c.2.all (·.env.all plain)=true)(j:∀y,SR y v x):
 ∃b a,FR y0 (next P ma c v).1 b/\na y0 (next P ma c v).2 a/\∀cs,tY P Wd (G (fr.finish x) (frs++cs)) (G b (a++cs)):=by
 obtain⟨p,f⟩:=Bl (v:=v) h;have k:ma.At y0:=⟨by decide,by decide,rfl,rfl,rfl,rfl,rfl,by decide⟩;obtain⟨m,b,a,l,n,o⟩:=mM (Wd:=Wd) k 400 (P:=P) ((g.iB i).fin f (j y0)) (d.iB e);unfold next
 rw[f];exact⟨b,a,l,n,λcs=>⟨m,o cs⟩⟩
end
def na.sz{y}:∀{st frs}  ls ,na y st frs->na y (Go.bU.sz st ls) frs
 |[],frs,ls,h=>by rw[h.nz];trivial
 |s::st,frs,[],h=>by obtain⟨f,a,rfl,b,c⟩:=h.cons_inv;exact⟨b.keep [],c.sz []⟩
 |s::st,frs,l::ls,h=>by obtain⟨f,a,rfl,b,c⟩:=h.cons_inv;exact⟨b.keep l,c.sz ls⟩
def f10{y a c}(b:decide (y.c=1)=a)(d:decide (y.c=0)=c):f0 (f1 (Fl.of y) a) c=Fl.of y:=by subst b;subst d;rfl
def Za{y a}(b:decide (y.c=1)=a):f1 (Fl.of y) a=Fl.of y:=by subst b;rfl
def GO{y a}(b:decide (y.c=0)=a):f0 (Fl.of y) a=Fl.of y:=by subst b;rfl
def lF{c}(h:xD c=true):c.1.kind≠.early:=by
 unfold xD at h
 simp_all
section
variable{P:adY}{n:Qp}(C:iC P n)(X:jg P n){b:Nat}{kind:adU}{Wd:adF}{cs:adK}{g:adP}{w:World}{main:Bool}
variable(hW0:∀w,Wd w->∃v,w.cell? ⟨b,0,none⟩=some v)(hW1:∀w,Wd w->∃v,w.cell? ⟨b,1,none⟩=some v)
include X hW1 in
def RR{y}{c:dc}{fr frs}(h:lD c.1=some (n.tS,n.tU,pt b 1))(a:FR y c.1 fr):tX P Wd (G fr (frs++cs)) (G (fr.finish (.pointer (some ⟨b,1,none⟩))) (frs++cs)):=by obtain⟨t,d,e,f⟩:=X.Y';exact⟨rfl,λmain w g=>vn a h d e f (hW1 w g)⟩
include X hW0 in
def MH{y}{c:dc}{fr frs}(h:lD c.1=some (n.tG,n.tU,pt b 0))(a:FR y c.1 fr):tX P Wd (G fr (frs++cs)) (G (fr.finish (.pointer (some ⟨b,0,none⟩))) (frs++cs)):=by obtain⟨t,d,e,f⟩:=X.Y9;exact⟨rfl,λmain w g=>vn a h d e f (hW0 w g)⟩
def ug{f args eo y fn body}(b:P.funcs[f]?=some fn)(c:fn.body=some body)(d:args.length=eo.size)(e:∀(i:Nat) a,args[i]?=some a->∃x,eo[i]?=some x/\SR y a x):FR y (dX P f args kind) (Frame.enter P f eo kind):=by
 refine⟨by simp[dX,b,Frame.enter],by simp[dX,b,c,Frame.enter],by simp[dX,b,Frame.enter],by simp[dX,b,Frame.enter,Ep.of],by simp[dX,b,Frame.enter],rfl,by simp[dX,b,Frame.enter,d],λt=>?_⟩;simp only[dX,b,Frame.enter,abz,abV];rw[acW,zD];by_cases g:t<args.length
 . grind
 . rw[acr (by omega),abu (by omega),adi]
   split<;>trivial
include X in
def Ay:∃e,tY P Wd (G (Frame.enter P n.add #[.pointer (some ⟨b,0,none⟩),.int .i64 1] kind) cs) e/\sB P n b kind .a0 cs e:=by
 obtain⟨fn,body,f,g,q,r⟩:=X.SN
 have j:FR y0 (dX P n.add [pt b 0,i64 1] kind) (Frame.enter P n.add #[.pointer (some ⟨b,0,none⟩),.int .i64 1] kind):=ug f g rfl λi a h=>by
  match i with
  |0=>simp at h;subst h;exact⟨_,rfl,rfl⟩
  |1=>simp at h;subst h;exact⟨_,rfl,rfl⟩
  |i+2=>simp at h
 have k:ma.At y0:=⟨by decide,by decide,rfl,rfl,rfl,rfl,rfl,by decide⟩;obtain⟨m,d,c,l,o,p⟩:=mM (Wd:=Wd) (P:=P) k 400 j (st:=[]) (frs:=[]) trivial;exact⟨_,⟨m,p cs⟩,_,y0,d,c,rfl,ub,l,o,rfl⟩
def GP:ma.At y0:=⟨by decide,by decide,rfl,rfl,rfl,rfl,rfl,by decide⟩
include X in
def qS(C:iC P n):∃e,tY P Wd (G (Frame.enter P n.wait #[.pointer (some ⟨b,0,none⟩)] kind) cs) e/\sB P n b kind .w0 cs e:=by
 obtain⟨fn,body,f,g,p,q⟩:=X.MG
 have j:FR y0 (dX P n.wait [pt b 0] kind) (Frame.enter P n.wait #[.pointer (some ⟨b,0,none⟩)] kind):=ug f g rfl λi a h=>by
  match i with
  |0=>simp at h;subst h;exact⟨_,rfl,rfl⟩
  |i+1=>simp at h
 obtain⟨m,d,c,k,l,o⟩:=mM (Wd:=Wd) (P:=P) GP 400 j (st:=[]) (frs:=[]) trivial;exact⟨_,⟨m,o cs⟩,_,y0,d,c,rfl,ub,k.keep [0],l.sz [],rfl⟩
include X hW0 in
def yR(C:iC P n):∃f,tY P Wd (G (Frame.enter P n.done #[.pointer (some ⟨b,0,none⟩)] .deferred) cs) f/\sB P n b kind .d1 cs f:=by
 obtain⟨fn,body,l,o,A,B⟩:=X.MF
 have p:FR y0 (dX P n.done [pt b 0] .deferred) (Frame.enter P n.done #[.pointer (some ⟨b,0,none⟩)] .deferred):=ug l o rfl λi a h=>by
  match i with
  |0=>simp at h;subst h;exact⟨_,rfl,rfl⟩
  |i+1=>simp at h
 obtain⟨m,q,g,j,r,s⟩:=mM (Wd:=Wd) (P:=P) GP 400 p (st:=[]) (frs:=[]) trivial;obtain⟨k,t,u⟩:=C.d0 b;obtain⟨e,d,w,y,z⟩:=GN (P:=P) (Wd:=Wd) (c:=D0 P n b) (v:=pt b 0) (x:=.pointer (some ⟨b,0,none⟩)) (.inr ⟨_,k⟩) j r t u (λ_=>rfl);exact⟨_,tY.trans ⟨m,s cs⟩ (tY.trans (MH X hW0 (cs:=cs) k j).Bd (z cs)),_,y0,e,d,rfl,ub,w,y,rfl⟩
include C X in
def XQ(h:sB P n b kind .a0 cs g)(j:kind≠.early):∃k,stepG P main g w=.go k w #[⟨.mark .disable,false,true⟩]/\jh P n b kind Wd .a2 cs k:=by
 obtain⟨c,y,fr,frs,rfl,I,l,f,rfl⟩:=h;obtain⟨m,q,r,t⟩:=C.a0 b kind;obtain⟨o,u,z,A⟩:=C.a1 b kind;refine⟨_,fJ MA l m (by rw[t];exact j) X.j7,rfl,?_⟩;obtain⟨d,a,p,B,D⟩:=GN (P:=P) (Wd:=Wd) (v:=un) (x:=.tuple #[]) (.inl ⟨_,m⟩) l f q (by rw[r];rfl) (λ_=>rfl);obtain⟨i,e,E,F,H⟩:=GN (P:=P) (Wd:=Wd) (c:=A1 P n b kind) (v:=ff) (x:=.bool false) (.inl ⟨_,o⟩) p B u (by rw[z];rfl) (λ_=>rfl);have hb:tX P Wd (G d (a++cs)) (G (d.finish (.bool false)) (a++cs)):=⟨rfl,λmain w _=>vm (s:=(A1 P n b kind).1) p o (by rw[A];exact j) X.Qq⟩;exact⟨_,(D cs).trans (hb.Bd.trans (H cs)),_,y0,i,e,rfl,ub,E,F,rfl⟩
include C X hW1 in
def XR{c v m:Nat}(o:sA b w c 0 m)(L:c<1000)(h:sB P n b kind .a2 cs g):
 ∃p w',stepG P main g w=.go p w' #[⟨.cell ⟨b,0,none⟩,false,true⟩,⟨.cell ⟨b,0,none⟩,true,true⟩]/\w'=w.setCell ⟨b,0,none⟩ (.int .u64 (fh (c+1:Nat) 0))/\sA b w' (c+1) 0 m/\(jh P n b kind Wd .a4 cs p\/jh P n b kind Wd .ae cs p):=by
 obtain⟨cf,y,fr,frs,rfl,M,z,q,rfl⟩:=h;obtain⟨A,E,F,G⟩:=C.a2 b kind
 have e:IntKind.u64.wrap (fh c 0+4294967296)=fh (c+1:Nat) 0:=by
  rw[kW (by unfold fh;omega) (by unfold fh;omega)];unfold fh;push_cast;omega
 have i:=qQ (main:=main) (cs:=frs++cs) (w:=w) z A (lF E) X.uf (λx h=>h) o.cw (o.fz 0);rw[e]at i;have d:({y0 with c:=((c+1:Nat):Int)}:Sy).ok:=⟨by show(0:Int)<=2/\(2:Int)<=1000;decide,by show(0:Int)<=((c+1:Nat):Int)/\((c+1:Nat):Int)<=1000;omega⟩;have r:((c+1:Nat):Int)≠0:=by omega
 obtain⟨s,j,t,B,D⟩:=ni (P:=P) (Wd:=Wd) (y:={y0 with c:=((c+1:Nat):Int)}) (v:=.fh 0) (x:=.int .u64 (fh (c+1:Nat) 0)) (.inl ⟨_,A⟩) d (z.iB F) (q.iB G) rfl;refine⟨_,_,i,rfl,o.bc (c+1) 0,?_⟩;by_cases f:((c+1:Nat):Int)=1
 . left
   have H:=Za (y:={y0 with c:=((c+1:Nat):Int)}) (a:=true) (by simpa using f);have k:=C.a3 b kind (Fl.of {y0 with c:=((c+1:Nat):Int)});rw[H]at k;obtain⟨u,l,I,J,K⟩:=ni (P:=P) (Wd:=Wd) (v:=pt b 1) (x:=.pointer (some ⟨b,1,none⟩)) (.inr ⟨_,k⟩) d t B rfl;exact⟨rfl,_,(D cs).trans ((RR X hW1 (cs:=cs) k t).Bd.trans (K cs)),_,_,u,l,⟨rfl,f⟩,d,I,J,rfl⟩
 . right
   exact⟨rfl,_,D cs,_,_,s,j,⟨r,.inr ⟨rfl,f⟩⟩,d,t,B,rfl⟩
end
section
variable{P:adY}{n:Qp}(C:iC P n)(X:jg P n){b:Nat}{kind:adU}{Wd:adF}{cs:adK}{g:adP}{w:World}{main:Bool}
variable(hW0:∀w,Wd w->∃v,w.cell? ⟨b,0,none⟩=some v)(hW1:∀w,Wd w->∃v,w.cell? ⟨b,1,none⟩=some v)
def CV{y:Sy}(h:y.c≠0):decide (y.c=0)=false:=by grind
include C X in
def XS(h:sB P n b kind .a4 cs g)(p:kind≠.early):∃k,stepG P main g w=.go k w #[⟨.mark (.read ⟨b,1,none⟩),false,true⟩]/\jh P n b kind Wd .ae cs k:=by
 obtain⟨c,y,fr,frs,⟨rfl,e⟩,l,m,f,rfl⟩:=h;have q:=Za (y:=y) (a:=true) (by simpa using e);obtain⟨i,o⟩:=C.a4 b kind (Fl.of y);rw[q]at i o;obtain⟨j,d,r,s,t⟩:=ni (P:=P) (Wd:=Wd) (v:=un) (x:=.tuple #[]) (.inl ⟨_,i⟩) l m f rfl;exact⟨_,gi (λu g h=>by cases h) m i (by rw[o];exact p) X.rd,rfl,_,t cs,_,y,j,d,⟨by rw[e];decide,.inl ⟨rfl,e⟩⟩,l,r,s,rfl⟩
include C X in
def XT {e rest} (h:sB P n b kind .ae (e :: rest) g) (t:kind ≠ .early):∃ d,stepG P main g w = .go d w #[⟨.mark .enable,false,true⟩]∧d.status = .running∧tY P Wd d (kT kind e rest (.tuple #[])):=by
 obtain⟨c,y,fr,frs,⟨f,i⟩,E,u,j,rfl⟩:=h;obtain⟨fn,body,f1,F,H,v⟩:=X.SN
 have key:sW c.1=some n.en->c.2=[]->c.1.kind=kind->c.1.fn=n.add->∃ d,stepG P main (G fr (frs ++ e :: rest)) w = .go d w #[⟨.mark .enable,false,true⟩]∧d.status = .running∧tY P Wd d (kT kind e rest (.tuple #[])):=fun q x s z=>by
  rw[x] at j;obtain rfl:=j.nz;obtain⟨A,B⟩:=CU (main:=main) (cs:=[] ++ e :: rest) (w:=w) u q X.en
  have k:kX ({ c.1 with defers:=[] }:qx) n.add=true:=by
   unfold kX;unfold sW at q;split at q
   . rename_i g cap as D hd;simp[D,z]
   . cases q
  refine⟨_,A,rfl,?_⟩;have:=mc (Wd:=Wd) (c:=e) (rest:=rest) B k f1 v (by show c.1.kind≠_;rw[s];exact t)
  rw[show ({ c.1 with defers:=[] }:qx).kind=kind from s] at this
  exact this.Bd
 rcases i with ⟨rfl,i⟩|⟨rfl,i⟩
 . have r:=f10 (y:=y) (a:=true) (c:=false) (by simpa using i) (CV f)
   obtain⟨l,m,o,p⟩:=C.a5 b kind (Fl.of y);rw[r] at l m o p;exact key l m o p
 . have r:=f10 (y:=y) (a:=false) (c:=false) (by simpa using i) (CV f)
   obtain⟨l,m,o,p⟩:=C.a6 b kind (Fl.of y);rw[r] at l m o p;exact key l m o p
include C X in
def XU(h:sB P n b kind .d1 cs g):∃f,stepG P main g w=.go f w #[⟨.mark (.releaseMerge ⟨b,0,none⟩),false,true⟩]/\jh P n b kind Wd .d2 cs f:=by
 obtain⟨c,y,fr,frs,rfl,r,i,d,rfl⟩:=h;obtain⟨j,k,l,m⟩:=C.d1 b;obtain⟨e,a,o,p,q⟩:=GN (P:=P) (Wd:=Wd) (v:=un) (x:=.tuple #[]) (.inl ⟨_,j⟩) i d l m (λ_=>rfl);exact⟨_,gi (λs g h=>by cases h) i j (lF k) X.rel,rfl,_,q cs,_,y0,e,a,rfl,ub,o,p,rfl⟩
include C X in
def XV(h:sB P n b kind .d2 cs g):∃j,stepG P main g w=.go j w #[⟨.mark .disable,false,true⟩]/\jh P n b kind Wd .d4 cs j:=by
 obtain⟨c,y,fr,frs,rfl,H,k,f,rfl⟩:=h;obtain⟨l,p,q,r⟩:=C.d2 b;obtain⟨m,t,u,z⟩:=C.d3 b;refine⟨_,fJ MA k l (lF p) X.j7,rfl,?_⟩;obtain⟨d,a,o,A,B⟩:=GN (P:=P) (Wd:=Wd) (v:=un) (x:=.tuple #[]) (.inl ⟨_,l⟩) k f q r (λ_=>rfl);obtain⟨i,e,D,E,F⟩:=GN (P:=P) (Wd:=Wd) (c:=D3 P n b) (v:=ff) (x:=.bool false) (.inl ⟨_,m⟩) o A u z (λ_=>rfl);have hb:tX P Wd (G d (a++cs)) (G (d.finish (.bool false)) (a++cs)):=⟨rfl,λmain w _=>vm (s:=(D3 P n b).1) o m (lF t) X.Qq⟩;exact⟨_,(B cs).trans (hb.Bd.trans (F cs)),_,y0,i,e,rfl,ub,D,E,rfl⟩
def lG(P:adY)(a:FuncId)(tmps:adE)(todo:adN):Frame:=⟨a,tmps,todo,[],.returning,.deferred,none⟩
def cU(P:adY):Frame:={(default:Frame)with fn:=P.funcs.size,defers:=[],mode:=.panicking [goexitEntry]}
def vr{a fn tmps todo}(c:P.funcs[a]?=some fn)(d:fn.results=#[]):QuitsD P 2 0 (G (lG P a tmps todo) [cU P]):=by
 refine .ctl (g':=G (cU P) []) rfl (λw=>?_) (.ctl (g':={G (cU P) []with status:=.finished}) rfl (λw=>?_) ⟨rfl,rfl⟩)
 . simp[G,stepG,unwind,c,results,d,lG,cU,goexitEntry]
   rfl
 . have b:(cU P).catches P=false:=by
    simp[Frame.catches,cU];rfl
   simp[G,stepG,unwind,cU,goexitEntry]at b ⊢;simp[b]
def vt{d}:∀{m k a c},jN P (λ_=>True) m a c->QuitsD P k d c->QuitsD P (k+m) d a
 |0,k,a,c,h,b=>by obtain rfl:=h;exact b
 |m+1,k,a,c,h,b=>by obtain⟨i,⟨e,f⟩,g⟩:=h;exact .ctl e (λw=>f false w trivial) (vt g b)
include X in
def yS{c y fr frs a fn tmps todo}(o:P.funcs[a]?=some fn)(b:fn.results=#[])(p:y.ok)(j:FR y c.1 fr)(e:na y c.2 frs)
 (k:sW c.1=some n.en) (q:kX (nf P (Fl.of y) c).1 n.done=true) (r:(nf P (Fl.of y) c).2=[]) (l:(nf P (Fl.of y) c).1.kind=.deferred):∃m,QuitsD P m 1 (G fr (frs++[lG P a tmps todo,cU P])):=by
 obtain⟨_,f⟩:=CU (P:=P) (main:=false) (cs:=frs++[lG P a tmps todo,cU P]) (w:=default) j k X.en;obtain⟨m,g,d,s,t,u⟩:=mM (Wd:=λ_=>True) (P:=P) (Fl.Ez p) 400 f e
 have h:na y [] d:=by rw[<-r];exact t
 obtain rfl:=h.nz;obtain⟨fd,body,v,B,C,x⟩:=X.MF;have hb:=mc (Wd:=λ_=>True) (c:=lG P a tmps todo) (rest:=[cU P]) s q v x (by show(nf P (Fl.of y) c).1.kind≠_;rw[l];decide)
 have i:kT (sgo P (Fl.of y) 400 {c.1 with defers:=[]} c.2).1.kind (lG P a tmps todo) [cU P] (.tuple #[])=G (lG P a tmps todo) [cU P]:=by rw[show(sgo P (Fl.of y) 400 {c.1 with defers:=[]} c.2).1.kind=.deferred from l];rfl
 rw[i]at hb;have z:QuitsD P (2+1) 0 (G g [lG P a tmps todo,cU P]):=.ctl rfl (λw=>hb.2 false w trivial) (vr o b)
 have A:=vt (u [lG P a tmps todo,cU P]) z;exact⟨_,.said ⟨.mark .enable,false,true⟩ rfl rfl (λw=>(CU (P:=P) (main:=false) (cs:=frs++[lG P a tmps todo,cU P]) (w:=w) j k X.en).1) A⟩
def Gone(P:adY)(Wd:adF)(a:adP):Prop:=∃m,QuitsD P m 1 a
def CX{m k a c}(h:jN P (λ_=>True) m a c)(b:QuitsD P k 1 c):Gone P Wd a:=⟨_,vt h b⟩
include C X in
def XW{k v m o fn tmps todo}(N:P.funcs[o]?=some fn)(f:fn.results=#[])(G:sA b w (k+1) v m)(R:k<1000)(S:v<=1)(h:sB P n b kind .d4 [lG P o tmps todo,cU P] g):
 ∃H w',stepG P main g w=.go H w' #[⟨.cell ⟨b,0,none⟩,false,true⟩,⟨.cell ⟨b,0,none⟩,true,true⟩]/\w'=w.setCell ⟨b,0,none⟩ (.int .u64 (fh k v))/\sA b w' k v m/\((k=0/\v=1/\jh P n b kind Wd .d5 [lG P o tmps todo,cU P] H)\/(¬(k=0/\v=1)/\Gone P Wd H)):=by
 obtain⟨cf,y,fr,frs,rfl,T,E,i,rfl⟩:=h;obtain⟨F,O,I,J⟩:=C.d4 b
 have e:IntKind.u64.wrap (fh (k+1:Nat) v+18446744069414584320)=fh k v:=by
  have:fh (k+1:Nat) v+18446744069414584320=fh k v+18446744073709551616:=by unfold fh;push_cast;omega
  rw[this];simp[IntKind.wrap,IntKind.bits,IntKind.signed];unfold fh;omega
 have p:=qQ (main:=main) (cs:=frs++[lG P o tmps todo,cU P]) (w:=w) E F (lF O) X.uf (λx h=>h) G.cw (G.fz 0)
 rw[e]at p;have a:({y0 with c:=(k:Int)}:Sy).ok:=⟨by show(0:Int)<=2/\(2:Int)<=1000;decide,by show(0:Int)<=(k:Int)/\(k:Int)<=1000;omega⟩
 refine⟨_,_,p,rfl,G.bc k v,?_⟩;have q:v=0\/v=1:=by omega
 rcases q with rfl|rfl
 . refine .inr ⟨by omega,?_⟩
   obtain⟨l,d,r,s,t⟩:=ni (P:=P) (Wd:=λ_=>True) (y:={y0 with c:=(k:Int)}) (v:=.fh 0) (x:=.int .u64 (fh k 0)) (.inl ⟨_,F⟩) a (E.iB I) (i.iB J) rfl
   have u:=C.d5 b (Fl.of {y0 with c:=(k:Int)}) (decide ((k:Int)=0))
   obtain⟨z,A,B⟩:=C.Y7 b (Fl.of {y0 with c:=(k:Int)}) (decide ((k:Int)=0))
   rw[GO rfl]at u z A B;obtain⟨Q,K⟩:=yS X N f a r s u z A B;obtain⟨j,L⟩:=t [lG P o tmps todo,cU P];exact CX L K
 . by_cases D:k=0
   . refine .inl ⟨D,rfl,?_⟩
     obtain⟨l,d,r,s,t⟩:=ni (P:=P) (Wd:=Wd) (y:={y0 with c:=(k:Int)}) (v:=.fh 1) (x:=.int .u64 (fh k 1)) (.inl ⟨_,F⟩) a (E.iB I) (i.iB J) rfl
     exact⟨rfl,_,t _,_,_,l,d,⟨rfl,by show(k:Int)=0;omega⟩,a,r,s,rfl⟩
   . refine .inr ⟨by omega,?_⟩
     obtain⟨l,d,r,s,t⟩:=ni (P:=P) (Wd:=λ_=>True) (y:={y0 with c:=(k:Int)}) (v:=.fh 1) (x:=.int .u64 (fh k 1)) (.inl ⟨_,F⟩) a (E.iB I) (i.iB J) rfl
     have M:decide ((k:Int)=0)=false:=by simpa using D
     have u:=C.d6 b (Fl.of {y0 with c:=(k:Int)})
     obtain⟨z,A,B⟩:=C.Y8 b (Fl.of {y0 with c:=(k:Int)})
     rw[GO M]at u z A B;obtain⟨Q,K⟩:=yS X N f a r s u z A B;obtain⟨j,L⟩:=t [lG P o tmps todo,cU P];exact CX L K
include C X in
def XX{m}(q:sA b w 0 1 m)(h:sB P n b kind .d5 cs g):∃k,stepG P main g w=.go k w #[⟨.cell ⟨b,0,none⟩,false,true⟩]/\jh P n b kind Wd .d6 cs k:=by
 obtain⟨c,y,fr,frs,⟨rfl,e⟩,l,o,f,rfl⟩:=h;have r:=GO (y:=y) (a:=true) (by simpa using e)
 obtain⟨i,p⟩:=C.d7 b (Fl.of y);rw[r]at i p;have s:SR y (.fh 1) (.int .u64 (fh 0 1)):=by show _=Value.int .u64 (fh y.c 1);rw[e]
 obtain⟨j,d,t,u,v⟩:=ni (P:=P) (Wd:=Wd) (.inl ⟨_,i⟩) l o f s;exact⟨_,vq o i (lF p) X.xc q.cw,rfl,_,v cs,_,y,j,d,⟨rfl,e⟩,l,t,u,rfl⟩
include C X in
def XY{m}(e:sA b w 0 1 m)(h:sB P n b kind .d6 cs g):∃k w',stepG P main g w=.go k w' #[⟨.cell ⟨b,0,none⟩,true,true⟩]/\w'=w.setCell ⟨b,0,none⟩ (.int .u64 (fh 0 0))/\sA b w' 0 0 m/\jh P n b kind Wd .d7 cs k:=by
 obtain⟨c,y,fr,frs,⟨rfl,l⟩,o,p,f,rfl⟩:=h;have r:=GO (y:=y) (a:=true) (by simpa using l);obtain⟨i,q⟩:=C.d8 b (Fl.of y);rw[r]at i q;obtain⟨j,d,s,t,u⟩:=ni (P:=P) (Wd:=Wd) (v:=un) (x:=.tuple #[]) (.inl ⟨_,i⟩) o p f rfl;exact⟨_,_,JE p i (lF q) X.JF e.cw (e.fz 0),rfl,e.bc 0 0,rfl,_,u cs,_,y,j,d,⟨rfl,l⟩,o,s,t,rfl⟩
include C X in
def XZ{v m k fn tmps todo}(E:P.funcs[k]?=some fn)(d:fn.results=#[])(l:sA b w 0 v m)(M:m<=1000)(h:sB P n b kind .d7 [lG P k tmps todo,cU P] g):
 ∃q w',stepG P main g w=.go q w' (semEvents ⟨b,1,none⟩)/\w'=w.setCell ⟨b,1,none⟩ (.int .u32 (m+1:Nat))/\sA b w' 0 v (m+1)/\Gone P Wd q:=by
 obtain⟨c,y,fr,frs,⟨rfl,F⟩,r,s,o,rfl⟩:=h;have f:=GO (y:=y) (a:=true) (by simpa using F)
 obtain⟨p,t⟩:=C.d9 b (Fl.of y);rw[f]at p t;have i:=pI (main:=main) (cs:=frs++[lG P k tmps todo,cU P]) (w:=w) s p (lF t) X.pJ l.cs (l.fz 1);have e:IntKind.u32.wrap ((m:Int)+1)=((m+1:Nat):Int):=by rw[IntKind.wrap_u32];omega
 rw[e]at i;obtain⟨G,u,H,I,J⟩:=ni (P:=P) (Wd:=λ_=>True) (v:=un) (x:=.tuple #[]) (.inl ⟨_,p⟩) r s o rfl
 have z:=C.da b (Fl.of y);obtain⟨A,B,D⟩:=C.db b (Fl.of y);rw[f]at z A B D;obtain⟨N,K⟩:=yS X E d r H I z A B D;obtain⟨j,L⟩:=J [lG P k tmps todo,cU P];exact⟨_,_,i,rfl,l.GL (m+1),CX L K⟩
end
section
variable{P:adY}{n:Qp}(C:iC P n)(X:jg P n){b:Nat}{kind:adU}{Wd:adF}{cs:adK}{g:adP}{w:World}{main:Bool}
variable(hW0:∀w,Wd w->∃v,w.cell? ⟨b,0,none⟩=some v)(hW1:∀w,Wd w->∃v,w.cell? ⟨b,1,none⟩=some v)
include C X in
def X1(h:sB P n b kind .w0 cs g)(k:kind≠.early):∃f,stepG P main g w=.go f w #[⟨.mark .disable,false,true⟩]/\jh P n b kind Wd .w1 cs f:=by
 obtain⟨c,y,fr,frs,rfl,s,i,d,rfl⟩:=h;obtain⟨j,l,m,o⟩:=C.w0 b kind;obtain⟨e,a,p,q,r⟩:=GN (P:=P) (Wd:=Wd) (v:=un) (x:=.tuple #[]) (.inl ⟨_,j⟩) i d l (by rw[m];rfl) (λ_=>rfl);exact⟨_,fJ MA i j (by rw[o];exact k) X.j7,rfl,_,r cs,_,y0,e,a,rfl,ub,p.keep [5],q.sz [[0]],rfl⟩
include C X in
def X2{c m}(r:sA b w c 0 m)(z:c<=1000)(h:sB P n b kind .w1 cs g):
 ∃f,stepG P main g w=.go f w #[⟨.cell ⟨b,0,none⟩,false,true⟩]/\((c=0/\jh P n b kind Wd .we cs f)\/(c≠0/\jh P n b kind Wd (.w2 c) cs f)):=by
 obtain⟨cf,y,fr,frs,rfl,A,k,i,rfl⟩:=h;obtain⟨l,s,t,u⟩:=C.w1 b kind;have d:({y0 with c:=(c:Int)}:Sy).ok:=⟨by show(0:Int)<=2/\(2:Int)<=1000;decide,by show(0:Int)<=(c:Int)/\(c:Int)<=1000;omega⟩;obtain⟨e,a,o,p,q⟩:=ni (P:=P) (Wd:=Wd) (y:={y0 with c:=(c:Int)}) (v:=.fh 0) (x:=.int .u64 (fh c 0)) (.inl ⟨_,l⟩) d (k.iB t) (i.iB u) rfl;refine⟨_,vq k l (lF s) X.xc r.cw,?_⟩;by_cases j:c=0
 . exact .inl ⟨j,rfl,_,q cs,_,_,e,a,.inl ⟨rfl,by show(c:Int)=0;omega⟩,d,o,p,rfl⟩
 . exact .inr ⟨j,rfl,_,q cs,_,_,e,a,⟨rfl,rfl,j⟩,d,o,p,rfl⟩
include C X hW0 in
def X3(h:sB P n b kind .we cs g)(D:kind≠.early):∃E,stepG P main g w=.go E w #[⟨.mark .enable,false,true⟩]/\jh P n b kind Wd .wa cs E:=by
 obtain⟨c,y,fr,frs,e,k,q,l,rfl⟩:=h;rcases e with⟨rfl,e⟩|⟨rfl,e⟩
 . have r:=GO (y:=y) (a:=true) (by simpa using e)
   obtain⟨f,m⟩:=C.w2 b kind (Fl.of y);have i:=C.w3 b kind (Fl.of y);rw[r]at f m i;obtain⟨s,o,p,t,u⟩:=ni (P:=P) (Wd:=Wd) (v:=un) (x:=.tuple #[]) (.inl ⟨_,f⟩) k q l rfl;obtain⟨j,d,z,A,B⟩:=ni (P:=P) (Wd:=Wd) (c:=WC P n b kind (Fl.of y)) (v:=pt b 0) (x:=.pointer (some ⟨b,0,none⟩)) (.inr ⟨_,i⟩) k p t rfl;exact⟨_,fJ MB q f (by rw[m];exact D) X.en,rfl,_,(u cs).trans ((MH X hW0 (c:=WC P n b kind (Fl.of y)) (cs:=cs) i p).Bd.trans (B cs)),_,y,j,d,.inl ⟨rfl,e⟩,k,z,A,rfl⟩
 . have r:=GO (y:=y) (a:=false) (CV e)
   obtain⟨f,m⟩:=C.wc b kind (Fl.of y);have i:=C.wd b kind (Fl.of y);rw[r]at f m i;obtain⟨s,o,p,t,u⟩:=ni (P:=P) (Wd:=Wd) (v:=un) (x:=.tuple #[]) (.inl ⟨_,f⟩) k q l rfl;obtain⟨j,d,z,A,B⟩:=ni (P:=P) (Wd:=Wd) (c:=VC P n b kind (Fl.of y)) (v:=pt b 0) (x:=.pointer (some ⟨b,0,none⟩)) (.inr ⟨_,i⟩) k p t rfl;exact⟨_,fJ MB q f (by rw[m];exact D) X.en,rfl,_,(u cs).trans ((MH X hW0 (c:=VC P n b kind (Fl.of y)) (cs:=cs) i p).Bd.trans (B cs)),_,y,j,d,.inr ⟨rfl,e⟩,k,z,A,rfl⟩
include C X in
def VD{j rest}(h:sB P n b kind .wa (j::rest) g)(q:kind≠.early):∃t,stepG P main g w=.go t w #[⟨.mark (.acquire ⟨b,0,none⟩),false,true⟩]/\t.status=.running/\tY P Wd t (kT kind j rest (.tuple #[])):=by
 obtain⟨c,y,fr,frs,k,E,r,l,rfl⟩:=h;obtain⟨fn,body,f1,H,I,F⟩:=X.MG;rcases k with⟨rfl,k⟩|⟨rfl,k⟩
 . have u:=GO (y:=y) (a:=true) (by simpa using k)
   obtain⟨f,m⟩:=C.w4 b kind (Fl.of y);obtain⟨o,p,i⟩:=C.w5 b kind (Fl.of y);rw[u]at f m o p i;obtain⟨z,d,A,B,D⟩:=ni (P:=P) (Wd:=Wd) (v:=un) (x:=.tuple #[]) (.inl ⟨_,f⟩) E r l rfl;have e:na y (WB P n b kind (Fl.of y)).2 d:=B;rw[p]at e;obtain rfl:=e.nz;have hb:=mc (Wd:=Wd) (c:=j) (rest:=rest) (s:=(WB P n b kind (Fl.of y)).1) A o f1 F (by rw[i];exact q);rw[i]at hb;exact⟨_,gi (λG g h=>by cases h) r f (by rw[m];exact q) X.acq,rfl,(D (j::rest)).trans hb.Bd⟩
 . have u:=GO (y:=y) (a:=false) (CV k)
   obtain⟨f,m⟩:=C.we b kind (Fl.of y);obtain⟨o,p,i⟩:=C.wf b kind (Fl.of y);rw[u]at f m o p i;obtain⟨z,d,A,B,D⟩:=ni (P:=P) (Wd:=Wd) (v:=un) (x:=.tuple #[]) (.inl ⟨_,f⟩) E r l rfl;have e:na y (RQ P n b kind (Fl.of y)).2 d:=B;rw[p]at e;obtain rfl:=e.nz;have hb:=mc (Wd:=Wd) (c:=j) (rest:=rest) (s:=(RQ P n b kind (Fl.of y)).1) A o f1 F (by rw[i];exact q);rw[i]at hb;exact⟨_,gi (λG g h=>by cases h) r f (by rw[m];exact q) X.acq,rfl,(D (j::rest)).trans hb.Bd⟩
def Qr{c c' v a:Nat}(d:v<=1000)(b:a<=1000):fh c v=fh c' a↔(c=c'/\v=a):=by unfold fh;omega
include C X hW1 in
def X4{k c m}(l:sA b w c 0 m)(h:sB P n b kind (.w2 k) cs g):
 (c=k/\∃o w',stepG P main g w=.go o w' #[⟨.cell ⟨b,0,none⟩,false,true⟩,⟨.cell ⟨b,0,none⟩,true,true⟩]/\w'=w.setCell ⟨b,0,none⟩ (.int .u64 (fh k 1))/\sA b w' k 1 m/\jh P n b kind Wd .w3 cs o)\/
 (c≠k/\∃o,stepG P main g w=.go o w #[⟨.cell ⟨b,0,none⟩,false,true⟩]/\jh P n b kind Wd .w1 cs o):=by
 obtain⟨cf,y,fr,frs,⟨rfl,K,L⟩,p,z,q,rfl⟩:=h;have r:y.c≠0:=by rw[K];omega
 have D:=GO (y:=y) (a:=false) (CV r);obtain⟨s,E⟩:=C.w6 b kind (Fl.of y);rw[D]at s E
 have A:∀j:Nat,∀x,SR y (.fh j) x->x=.int .u64 (fh k j):=λj x F=>by have F:x=.int .u64 (fh y.c j):=F;rw[F,K]
 by_cases f:c=k
 . subst f
   refine .inl ⟨rfl,_,_,iN z s (lF E) X.yQ (A 0) (A 1) l.cw (l.fz 0),rfl,l.bc c 1,rfl,?_⟩;have i:=C.w8 b kind (Fl.of y);rw[D]at i;obtain⟨t,d,B,G,H⟩:=ni (P:=P) (Wd:=Wd) (v:=tt) (x:=.bool true) (.inl ⟨_,s⟩) p z q rfl;obtain⟨I,u,M,N,O⟩:=ni (P:=P) (Wd:=Wd) (c:=W3 P n b kind (Fl.of y)) (v:=pt b 1) (x:=.pointer (some ⟨b,1,none⟩)) (.inr ⟨_,i⟩) p B G rfl;exact⟨_,(H cs).trans ((RR X hW1 (c:=W3 P n b kind (Fl.of y)) (cs:=cs) i B).Bd.trans (O cs)),_,y,I,u,⟨rfl,r⟩,p,M,N,rfl⟩
 . have J:¬fh c 0=fh k 0:=λe=>f ((Qr (by omega) (by omega)).1 e).1
   refine .inr ⟨f,_,jf z s (lF E) X.yQ (A 0) (A 1) l.cw (l.fz 0) J,rfl,?_⟩;have i:=C.w7 b kind (Fl.of y);rw[D]at i;obtain⟨t,d,B,G,H⟩:=ni (P:=P) (Wd:=Wd) (v:=ff) (x:=.bool false) (.inl ⟨_,s⟩) p z q rfl;have Q:=B.keep [5];have R:=G.sz [[0]];refine⟨_,H cs,W1 P n b kind,y,t,d,rfl,p,?_,?_,rfl⟩
   . rw[<-i];exact Q
   . rw[<-i];exact R
include C X in
def X5(h:sB P n b kind .w3 cs g)(p:kind≠.early):∃j,stepG P main g w=.go j w #[⟨.mark (.write ⟨b,1,none⟩),false,true⟩]/\jh P n b kind Wd .w4 cs j:=by obtain⟨c,y,fr,frs,⟨rfl,k⟩,l,m,e,rfl⟩:=h;have q:=GO (y:=y) (a:=false) (CV k);obtain⟨f,o⟩:=C.w9 b kind (Fl.of y);rw[q]at f o;obtain⟨i,d,r,s,t⟩:=ni (P:=P) (Wd:=Wd) (v:=un) (x:=.tuple #[]) (.inl ⟨_,f⟩) l m e rfl;exact⟨_,gi (λu g h=>by cases h) m f (by rw[o];exact p) X.wr,rfl,_,t cs,_,y,i,d,⟨rfl,k⟩,l,r,s,rfl⟩
include C X in
def X6{c v m}(i:sA b w c v m)(D:m≠0)(h:sB P n b kind .w4 cs g)(t:kind≠.early):
 ∃o w',stepG P main g w=.go o w' (semEvents ⟨b,1,none⟩)/\w'=w.setCell ⟨b,1,none⟩ (.int .u32 (m-1:Nat))/\sA b w' c v (m-1)/\jh P n b kind Wd .w5 cs o:=by
 obtain⟨cf,y,fr,frs,⟨rfl,p⟩,q,r,j,rfl⟩:=h;have u:=GO (y:=y) (a:=false) (CV p);obtain⟨k,s⟩:=C.wa b kind (Fl.of y);rw[u]at k s;have d:=ua (main:=main) (cs:=frs++cs) (w:=w) (n:=(m:Int)) r k (by rw[s];exact t) X.GG i.cs (by omega) (i.fz _);have e:((m:Int)-1)=((m-1:Nat):Int):=by omega
 rw[e]at d;obtain⟨l,f,z,A,B⟩:=ni (P:=P) (Wd:=Wd) (v:=un) (x:=.tuple #[]) (.inl ⟨_,k⟩) q r j rfl;exact⟨_,_,d,rfl,i.GL (m-1),rfl,_,B cs,_,y,l,f,⟨rfl,p⟩,q,z,A,rfl⟩
include C X in
def VE{c v}(e:sA b w c v 0)(h:sB P n b kind .w4 cs g):stepG P main g w=.go {g with status:=.blocked} w #[]:=by obtain⟨cf,y,fr,frs,⟨rfl,f⟩,m,i,j,rfl⟩:=h;have k:=GO (y:=y) (a:=false) (CV f);obtain⟨d,l⟩:=C.wa b kind (Fl.of y);rw[k]at d l;exact Bi i d X.GG e.cs
include C X in
def X7{m}(r:sA b w 0 0 m)(h:sB P n b kind .w5 cs g):∃k,stepG P main g w=.go k w #[⟨.cell ⟨b,0,none⟩,false,true⟩]/\jh P n b kind Wd .we cs k:=by obtain⟨c,y,fr,frs,⟨rfl,l⟩,o,p,e,rfl⟩:=h;have s:=GO (y:=y) (a:=false) (CV l);obtain⟨f,q⟩:=C.wb b kind (Fl.of y);rw[s]at f q;have i:=vq (main:=main) (cs:=frs++cs) p f (lF q) X.xc r.cw;obtain⟨j,d,t,u,z⟩:=ni (P:=P) (Wd:=Wd) (v:=u64 0) (x:=.int .u64 0) (.inl ⟨_,f⟩) o p e rfl;exact⟨_,i,rfl,_,z cs,_,y,j,d,.inr ⟨rfl,l⟩,o,t,u,rfl⟩
end
structure nj(P:adY)(n:Ev):Prop where
 lock:∃fn body,P.funcs[n.lock]?=some fn/\fn.body=some body/\fn.ntmps=6/\fn.results=#[]
 unlock:∃fn body,P.funcs[n.unlock]?=some fn/\fn.body=some body/\fn.ntmps=6/\fn.results=#[]
section
variable{P:adY}{n:Ev}(C:ij P n)(X:ik P n)(F:nj P n){b o:Nat}{kind:adU}{Wd:adF}{cs:adK}{g:adP}{w:World}{main:Bool}
include F in
def sC:∃a,tY P Wd (G (Frame.enter P n.lock #[.pointer (some ⟨b,o,none⟩)] kind) cs) a/\pe P n b o kind .ld cs a:=by obtain⟨fn,body,c,d,e,f⟩:=F.lock;exact GM ⟨fn,body,c,d,e⟩
include F in
def qo:∃e,tY P Wd (G (Frame.enter P n.unlock #[.pointer (some ⟨b,o,none⟩)] kind) cs) e/\pe P n b o kind .Im cs e:=by
 obtain⟨fn,body,f,g,q,r⟩:=F.unlock
 have j:FR y0 (dX P n.unlock [pt b o] kind) (Frame.enter P n.unlock #[.pointer (some ⟨b,o,none⟩)] kind):=ug f g rfl λi a h=>by
  match i with
  |0=>simp at h;subst h;exact⟨_,rfl,rfl⟩
  |i+1=>simp at h
 obtain⟨m,d,c,k,l,p⟩:=mM (Wd:=Wd) (P:=P) GP 400 j (st:=[]) (frs:=[]) trivial;exact⟨_,⟨m,p cs⟩,_,y0,d,c,rfl,ub,k.keep [0,5],l.keep [],rfl⟩
include F in
def uh{c rest}(h:pe P n b o kind .back (c::rest) g)(e:kind≠.early):tY P Wd g (kT kind c rest (.tuple #[])):=by obtain⟨cf,y,fr,frs,rfl,l,i,a,rfl⟩:=h;obtain⟨fn,body,j,m,p,k⟩:=F.lock;have d:na y [] frs:=a;obtain rfl:=d.nz;exact(mc (Wd:=Wd) (c:=c) (rest:=rest) (s:=(BK n kind).1) (f:=n.lock) i (by simp[BK,kX]) j k e).Bd
include F in
def mO{c rest}(h:pe P n b o kind .EA (c::rest) g)(e:kind≠.early):tY P Wd g (kT kind c rest (.tuple #[])):=by obtain⟨cf,y,fr,frs,rfl,l,i,a,rfl⟩:=h;obtain⟨fn,body,j,m,p,k⟩:=F.unlock;have d:na y [] frs:=a;obtain rfl:=d.nz;exact(mc (Wd:=Wd) (c:=c) (rest:=rest) (s:=(Vp n kind).1) (f:=n.unlock) i (by simp[Vp,kX]) j k e).Bd
end
