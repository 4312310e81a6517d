import Derived.Conc.QuitsD
import Derived.Test.YtkcceaplmgdnfaaGreatDoorC8
set_option linter.all false
namespace Go.cz
open Go.Conc
inductive HE where
 |a0|a2|a4|ae
 |d1|d2|d4|d5|d6|d7
 |w0|w1|we|wa|w2 (c:Nat)|w3|w4|w5
structure rA  b  (w:World) (c v m:Nat):Prop where
 cw:w.cell? ⟨b,0,none⟩=some (.int .u64 (eH c v))
 cs:w.cell? ⟨b,1,none⟩=some (.int .u32 m)
 fz:∀i,w.frozen? ⟨b,i,none⟩=false
def rA.aV{b w c v m}(h:rA b w c v m)(c' a:Nat):rA b (w.setCell ⟨b,0,none⟩ (.int .u64 (eH c' a))) c' a m:=⟨j9 h.cw,by rw[dG (by simp)];exact h.cs,λi=>by rw[oA];exact h.fz i⟩
def rA.FG{b w c v m}(h:rA b w c v m)(a:Nat):rA b (w.setCell ⟨b,1,none⟩ (.int .u32 a)) c v a:=⟨by rw[dG (by simp)];exact h.cw,j9 h.cs,λi=>by rw[oA];exact h.fz i⟩
section
variable(P:adI)(n:Py)(b:Nat)(kind:adE)
def ZT(p:HE)(c:cT)(y:Sy):Prop:=
 match p with
 |.a0=>c=A0 P n b kind
 |.a2=>c=A2 P n b kind
 |.a4=>c=A4 P n b kind (Fl.of y)/\y.c=1
 |.ae=>y.c≠0/\((c=A5 P n b kind (Fl.of y)/\y.c=1)\/(c=A3 P n b kind (Fl.of y)/\y.c≠1))
 |.d1=>c=D1 P n b
 |.d2=>c=D2 P n b
 |.d4=>c=D4 P n b
 |.d5=>c=DE P n b (Fl.of y) 1/\y.c=0
 |.d6=>c=D6 P n b (Fl.of y)/\y.c=0
 |.d7=>c=D7 P n b (Fl.of y)/\y.c=0
 |.w0=>c=W0 P n b kind
 |.w1=>c=W1 P n b kind
 |.we=>(c=WE P n b kind (Fl.of y)/\y.c=0)\/(c=TD P n b kind (Fl.of y)/\y.c≠0)
 |.wa=>(c=WA P n b kind (Fl.of y)/\y.c=0)\/(c=TE P n b kind (Fl.of y)/\y.c≠0)
 |.w2 k=>c=WE P n b kind (Fl.of y)/\y.c=k/\k≠0
 |.w3=>c=TC P n b kind (Fl.of y)/\y.c≠0
 |.w4=>c=W4 P n b kind (Fl.of y)/\y.c≠0
 |.w5=>c=W5 P n b kind (Fl.of y)/\y.c≠0
def rB(p:HE)(cs:adu)(g:adz):Prop:=∃c y fr frs,ZT P n b kind p c y/\y.ok/\FR y c.1 fr/\my y c.2 frs/\g=G fr (frs++cs)
def iL(Wd:adp)(p:HE)(cs:adu)(a:adz):Prop:=a.status=.running/\∃c,sQ P Wd a c/\rB P n b kind p cs c
end
def rB.running{P n b kind p cs g}(h:rB P n b kind p cs g):g.status=.running/\g.offers=none:=by obtain⟨c,y,fr,frs,_,_,_,_,rfl⟩:=h;exact⟨rfl,rfl⟩
def Ah{s v}(h:(∃x,ba s=some x)\/(∃x,kL s=some x)):∃s',xw s v=some s':=by
 unfold xw;rcases h with⟨x,h⟩|⟨x,h⟩
 . unfold ba at h
   split at h
   . simp_all
   . cases h
 . unfold kL at h
   split at h
   . simp_all
   . cases h
section
variable{P:adI}{Wd:adp}{y:Sy}{c:cT}{v:SV}{x:Value}{fr:Frame}{frs:adu}
def mC(h:(∃x,ba c.1=some x)\/(∃x,kL c.1=some x))(f:y.ok)(g:FR y c.1 fr)(d:my y c.2 frs)(i:SR y v x):
 ∃b a,FR y (next P (Fl.of y) c v).1 b/\my y (next P (Fl.of y) c v).2 a/\∀cs,sQ P Wd (G (fr.finish x) (frs++cs)) (G b (a++cs)):=by
 obtain⟨n,e⟩:=Ah (v:=v) h;obtain⟨m,b,a,j,k,l⟩:=lU (Wd:=Wd) (Fl.Dl f) 400 (P:=P) (g.fin e i) d;unfold next
 rw[e];exact⟨b,a,j,k,λcs=>⟨m,l cs⟩⟩
def FI(h:(∃x,ba c.1=some x)\/(∃x,kL c.1=some x))(g:FR y c.1 fr)(d:my y c.2 frs)(i:c.1.env.all plain=true)(e:c.2.all (·.env.all plain)=true)(j:∀y,SR y v x):
 ∃b a,FR y0 (next P lz c v).1 b/\my y0 (next P lz c v).2 a/\∀cs,sQ P Wd (G (fr.finish x) (frs++cs)) (G b (a++cs)):=by
 obtain⟨p,f⟩:=Ah (v:=v) h;have k:lz.At y0:=⟨by decide,by decide,rfl,rfl,rfl,rfl,rfl,by decide⟩;obtain⟨m,b,a,l,n,o⟩:=lU (Wd:=Wd) k 400 (P:=P) ((g.gT i).fin f (j y0)) (d.gT e);unfold next
 rw[f];exact⟨b,a,l,n,λcs=>⟨m,o cs⟩⟩
end
def my.rz{y}:∀{st frs}  ls ,my y st frs->my y (Go.cz.rz st ls) frs
 |[],frs,ls,h=>by rw[h.mK];trivial
 |s::st,frs,[],h=>by obtain⟨f,a,rfl,b,c⟩:=h.cons_inv;exact⟨b.keep [],c.rz []⟩
 |s::st,frs,l::ls,h=>by obtain⟨f,a,rfl,b,c⟩:=h.cons_inv;exact⟨b.keep l,c.rz ls⟩
def f10{y a c}(b:decide (y.c=1)=a)(d:decide (y.c=0)=c):f0 (f1 (Fl.of y) a) c=Fl.of y:=by subst b;subst d;rfl
def Yv{y a}(b:decide (y.c=1)=a):f1 (Fl.of y) a=Fl.of y:=by subst b;rfl
def FJ{y a}(b:decide (y.c=0)=a):f0 (Fl.of y) a=Fl.of y:=by subst b;rfl
def kN{c}(h:v8 c=true):c.1.kind≠.early:=by
 unfold v8 at h
 simp_all
section
variable{P:adI}{n:Py}(C:gV P n)(X:iK P n){b:Nat}{kind:adE}{Wd:adp}{cs:adu}{g:adz}{w:World}{main:Bool}
variable(hW0:∀w,Wd w->∃v,w.cell? ⟨b,0,none⟩=some v)(hW1:∀w,Wd w->∃v,w.cell? ⟨b,1,none⟩=some v)
include X hW1 in
def Q8{y}{c:cT}{fr frs}(h:kL c.1=some (n.tS,n.tU,pt b 1))(a:FR y c.1 fr):sP P Wd (G fr (frs++cs)) (G (fr.finish (.pointer (some ⟨b,1,none⟩))) (frs++cs)):=by obtain⟨t,d,e,f⟩:=X.Yu;exact⟨rfl,λmain w g=>uj a h d e f (hW1 w g)⟩
include X hW0 in
def LO{y}{c:cT}{fr frs}(h:kL c.1=some (n.tG,n.tU,pt b 0))(a:FR y c.1 fr):sP P Wd (G fr (frs++cs)) (G (fr.finish (.pointer (some ⟨b,0,none⟩))) (frs++cs)):=by obtain⟨t,d,e,f⟩:=X.Yt;exact⟨rfl,λmain w g=>uj a h d e f (hW0 w g)⟩
def sV{f args dM y fn body}(b:P.funcs[f]?=some fn)(c:fn.body=some body)(d:args.length=dM.size)(e:∀(i:Nat) a,args[i]?=some a->∃x,dM[i]?=some x/\SR y a x):FR y (dJ P f args kind) (Frame.enter P f dM kind):=by
 refine⟨by simp[dJ,b,Frame.enter],by simp[dJ,b,c,Frame.enter],by simp[dJ,b,Frame.enter],by simp[dJ,b,Frame.enter,Dd.of],by simp[dJ,b,Frame.enter],rfl,by simp[dJ,b,Frame.enter,d],λt=>?_⟩;simp only[dJ,b,Frame.enter,abj,abF];rw[acE,zD];by_cases g:t<args.length
 . grind
 . rw[abY (by omega),abe (by omega),List.getElem?_replicate]
   split<;>trivial
include X in
def zu:∃e,sQ P Wd (G (Frame.enter P n.add #[.pointer (some ⟨b,0,none⟩),.int .i64 1] kind) cs) e/\rB P n b kind .a0 cs e:=by
 obtain⟨fn,body,f,g,q,r⟩:=X.R4
 have j:FR y0 (dJ P n.add [pt b 0,i64 1] kind) (Frame.enter P n.add #[.pointer (some ⟨b,0,none⟩),.int .i64 1] kind):=sV f g rfl λi a h=>by
  match i with
  |0=>simp at h;subst h;exact⟨_,rfl,rfl⟩
  |1=>simp at h;subst h;exact⟨_,rfl,rfl⟩
  |i+2=>simp at h
 have k:lz.At y0:=⟨by decide,by decide,rfl,rfl,rfl,rfl,rfl,by decide⟩;obtain⟨m,d,c,l,o,p⟩:=lU (Wd:=Wd) (P:=P) k 400 j (st:=[]) (frs:=[]) trivial;exact⟨_,⟨m,p cs⟩,_,y0,d,c,rfl,sT,l,o,rfl⟩
def FK:lz.At y0:=⟨by decide,by decide,rfl,rfl,rfl,rfl,rfl,by decide⟩
include X in
def pX(C:gV P n):∃e,sQ P Wd (G (Frame.enter P n.wait #[.pointer (some ⟨b,0,none⟩)] kind) cs) e/\rB P n b kind .w0 cs e:=by
 obtain⟨fn,body,f,g,p,q⟩:=X.LN
 have j:FR y0 (dJ P n.wait [pt b 0] kind) (Frame.enter P n.wait #[.pointer (some ⟨b,0,none⟩)] kind):=sV f g rfl λi a h=>by
  match i with
  |0=>simp at h;subst h;exact⟨_,rfl,rfl⟩
  |i+1=>simp at h
 obtain⟨m,d,c,k,l,o⟩:=lU (Wd:=Wd) (P:=P) FK 400 j (st:=[]) (frs:=[]) trivial;exact⟨_,⟨m,o cs⟩,_,y0,d,c,rfl,sT,k.keep [0],l.rz [],rfl⟩
include X hW0 in
def xB(C:gV P n):∃f,sQ P Wd (G (Frame.enter P n.done #[.pointer (some ⟨b,0,none⟩)] .deferred) cs) f/\rB P n b kind .d1 cs f:=by
 obtain⟨fn,body,l,o,A,B⟩:=X.LM
 have p:FR y0 (dJ P n.done [pt b 0] .deferred) (Frame.enter P n.done #[.pointer (some ⟨b,0,none⟩)] .deferred):=sV l o rfl λi a h=>by
  match i with
  |0=>simp at h;subst h;exact⟨_,rfl,rfl⟩
  |i+1=>simp at h
 obtain⟨m,q,g,j,r,s⟩:=lU (Wd:=Wd) (P:=P) FK 400 p (st:=[]) (frs:=[]) trivial;obtain⟨k,t,u⟩:=C.d0 b;obtain⟨e,d,w,y,z⟩:=FI (P:=P) (Wd:=Wd) (c:=D0 P n b) (v:=pt b 0) (x:=.pointer (some ⟨b,0,none⟩)) (.inr ⟨_,k⟩) j r t u (λ_=>rfl);exact⟨_,sQ.trans ⟨m,s cs⟩ (sQ.trans (LO X hW0 (cs:=cs) k j).Aa (z cs)),_,y0,e,d,rfl,sT,w,y,rfl⟩
include C X in
def Xa(h:rB P n b kind .a0 cs g)(j:kind≠.early):∃k,stepG P main g w=.go k w #[⟨.mark .disable,false,true⟩]/\iL P n b kind Wd .a2 cs k:=by
 obtain⟨c,y,fr,frs,rfl,I,l,f,rfl⟩:=h;obtain⟨m,q,r,t⟩:=C.a0 b kind;obtain⟨o,u,z,A⟩:=C.a1 b kind;refine⟨_,fa LG l m (by rw[t];exact j) X.jy,rfl,?_⟩;obtain⟨d,a,p,B,D⟩:=FI (P:=P) (Wd:=Wd) (v:=un) (x:=.tuple #[]) (.inl ⟨_,m⟩) l f q (by rw[r];rfl) (λ_=>rfl);obtain⟨i,e,E,F,H⟩:=FI (P:=P) (Wd:=Wd) (c:=A1 P n b kind) (v:=ff) (x:=.bool false) (.inl ⟨_,o⟩) p B u (by rw[z];rfl) (λ_=>rfl);have hb:sP P Wd (G d (a++cs)) (G (d.finish (.bool false)) (a++cs)):=⟨rfl,λmain w _=>ui (s:=(A1 P n b kind).1) p o (by rw[A];exact j) X.Pz⟩;exact⟨_,(D cs).trans (hb.Aa.trans (H cs)),_,y0,i,e,rfl,sT,E,F,rfl⟩
include C X hW1 in
def Xb{c v m:Nat}(o:rA b w c 0 m)(L:c<1000)(h:rB P n b kind .a2 cs g):
 ∃p w',stepG P main g w=.go p w' #[⟨.cell ⟨b,0,none⟩,false,true⟩,⟨.cell ⟨b,0,none⟩,true,true⟩]/\w'=w.setCell ⟨b,0,none⟩ (.int .u64 (eH (c+1:Nat) 0))/\rA b w' (c+1) 0 m/\(iL P n b kind Wd .a4 cs p\/iL P n b kind Wd .ae cs p):=by
 obtain⟨cf,y,fr,frs,rfl,M,z,q,rfl⟩:=h;obtain⟨A,E,F,G⟩:=C.a2 b kind
 have e:IntKind.u64.wrap (eH c 0+4294967296)=eH (c+1:Nat) 0:=by
  rw[kj (by unfold eH;omega) (by unfold eH;omega)];unfold eH;push_cast;omega
 have i:=pU (main:=main) (cs:=frs++cs) (w:=w) z A (kN E) X.sU (λx h=>h) o.cw (o.fz 0);rw[e]at i;have d:({y0 with c:=((c+1:Nat):Int)}:Sy).ok:=⟨by show(0:Int)<=2/\(2:Int)<=1000;decide,by show(0:Int)<=((c+1:Nat):Int)/\((c+1:Nat):Int)<=1000;omega⟩;have r:((c+1:Nat):Int)≠0:=by omega
 obtain⟨s,j,t,B,D⟩:=mC (P:=P) (Wd:=Wd) (y:={y0 with c:=((c+1:Nat):Int)}) (v:=.eH 0) (x:=.int .u64 (eH (c+1:Nat) 0)) (.inl ⟨_,A⟩) d (z.gT F) (q.gT G) rfl;refine⟨_,_,i,rfl,o.aV (c+1) 0,?_⟩;by_cases f:((c+1:Nat):Int)=1
 . left
   have H:=Yv (y:={y0 with c:=((c+1:Nat):Int)}) (a:=true) (by simpa using f);have k:=C.a3 b kind (Fl.of {y0 with c:=((c+1:Nat):Int)});rw[H]at k;obtain⟨u,l,I,J,K⟩:=mC (P:=P) (Wd:=Wd) (v:=pt b 1) (x:=.pointer (some ⟨b,1,none⟩)) (.inr ⟨_,k⟩) d t B rfl;exact⟨rfl,_,(D cs).trans ((Q8 X hW1 (cs:=cs) k t).Aa.trans (K cs)),_,_,u,l,⟨rfl,f⟩,d,I,J,rfl⟩
 . right
   exact⟨rfl,_,D cs,_,_,s,j,⟨r,.inr ⟨rfl,f⟩⟩,d,t,B,rfl⟩
end
section
variable{P:adI}{n:Py}(C:gV P n)(X:iK P n){b:Nat}{kind:adE}{Wd:adp}{cs:adu}{g:adz}{w:World}{main:Bool}
variable(hW0:∀w,Wd w->∃v,w.cell? ⟨b,0,none⟩=some v)(hW1:∀w,Wd w->∃v,w.cell? ⟨b,1,none⟩=some v)
def BP{y:Sy}(h:y.c≠0):decide (y.c=0)=false:=by grind
include C X in
def Xc(h:rB P n b kind .a4 cs g)(p:kind≠.early):∃k,stepG P main g w=.go k w #[⟨.mark (.read ⟨b,1,none⟩),false,true⟩]/\iL P n b kind Wd .ae cs k:=by
 obtain⟨c,y,fr,frs,⟨rfl,e⟩,l,m,f,rfl⟩:=h;have q:=Yv (y:=y) (a:=true) (by simpa using e);obtain⟨i,o⟩:=C.a4 b kind (Fl.of y);rw[q]at i o;obtain⟨j,d,r,s,t⟩:=mC (P:=P) (Wd:=Wd) (v:=un) (x:=.tuple #[]) (.inl ⟨_,i⟩) l m f rfl;exact⟨_,fN (λu g h=>by cases h) m i (by rw[o];exact p) X.rd,rfl,_,t cs,_,y,j,d,⟨by rw[e];decide,.inl ⟨rfl,e⟩⟩,l,r,s,rfl⟩
include C X in
def Xd {e rest} (h:rB P n b kind .ae (e :: rest) g) (t:kind ≠ .early):∃ d,stepG P main g w = .go d w #[⟨.mark .enable,false,true⟩]∧d.status = .running∧sQ P Wd d (kg kind e rest (.tuple #[])):=by
 obtain⟨c,y,fr,frs,⟨f,i⟩,E,u,j,rfl⟩:=h;obtain⟨fn,body,f1,F,H,v⟩:=X.R4
 have key:r7 c.1=some n.en->c.2=[]->c.1.kind=kind->c.1.fn=n.add->∃ d,stepG P main (G fr (frs ++ e :: rest)) w = .go d w #[⟨.mark .enable,false,true⟩]∧d.status = .running∧sQ P Wd d (kg kind e rest (.tuple #[])):=fun q x s z=>by
  rw[x] at j;obtain rfl:=j.mK;obtain⟨A,B⟩:=BO (main:=main) (cs:=[] ++ e :: rest) (w:=w) u q X.en
  have k:km ({ c.1 with defers:=[] }:pD) n.add=true:=by
   unfold km;unfold r7 at q;split at q
   . rename_i g cap as D hd;simp[D,z]
   . cases q
  refine⟨_,A,rfl,?_⟩;have:=lC (Wd:=Wd) (c:=e) (rest:=rest) B k f1 v (by show c.1.kind≠_;rw[s];exact t)
  rw[show ({ c.1 with defers:=[] }:pD).kind=kind from s] at this
  exact this.Aa
 rcases i with ⟨rfl,i⟩|⟨rfl,i⟩
 . have r:=f10 (y:=y) (a:=true) (c:=false) (by simpa using i) (BP f)
   obtain⟨l,m,o,p⟩:=C.a5 b kind (Fl.of y);rw[r] at l m o p;exact key l m o p
 . have r:=f10 (y:=y) (a:=false) (c:=false) (by simpa using i) (BP f)
   obtain⟨l,m,o,p⟩:=C.a6 b kind (Fl.of y);rw[r] at l m o p;exact key l m o p
include C X in
def Xe(h:rB P n b kind .d1 cs g):∃f,stepG P main g w=.go f w #[⟨.mark (.releaseMerge ⟨b,0,none⟩),false,true⟩]/\iL P n b kind Wd .d2 cs f:=by
 obtain⟨c,y,fr,frs,rfl,r,i,d,rfl⟩:=h;obtain⟨j,k,l,m⟩:=C.d1 b;obtain⟨e,a,o,p,q⟩:=FI (P:=P) (Wd:=Wd) (v:=un) (x:=.tuple #[]) (.inl ⟨_,j⟩) i d l m (λ_=>rfl);exact⟨_,fN (λs g h=>by cases h) i j (kN k) X.rel,rfl,_,q cs,_,y0,e,a,rfl,sT,o,p,rfl⟩
include C X in
def Xf(h:rB P n b kind .d2 cs g):∃j,stepG P main g w=.go j w #[⟨.mark .disable,false,true⟩]/\iL P n b kind Wd .d4 cs j:=by
 obtain⟨c,y,fr,frs,rfl,H,k,f,rfl⟩:=h;obtain⟨l,p,q,r⟩:=C.d2 b;obtain⟨m,t,u,z⟩:=C.d3 b;refine⟨_,fa LG k l (kN p) X.jy,rfl,?_⟩;obtain⟨d,a,o,A,B⟩:=FI (P:=P) (Wd:=Wd) (v:=un) (x:=.tuple #[]) (.inl ⟨_,l⟩) k f q r (λ_=>rfl);obtain⟨i,e,D,E,F⟩:=FI (P:=P) (Wd:=Wd) (c:=D3 P n b) (v:=ff) (x:=.bool false) (.inl ⟨_,m⟩) o A u z (λ_=>rfl);have hb:sP P Wd (G d (a++cs)) (G (d.finish (.bool false)) (a++cs)):=⟨rfl,λmain w _=>ui (s:=(D3 P n b).1) o m (kN t) X.Pz⟩;exact⟨_,(B cs).trans (hb.Aa.trans (F cs)),_,y0,i,e,rfl,sT,D,E,rfl⟩
def kO(P:adI)(a:FuncId)(tmps:ado)(todo:adx):Frame:=⟨a,tmps,todo,[],.returning,.deferred,none⟩
def cM(P:adI):Frame:={(default:Frame)with fn:=P.funcs.size,defers:=[],mode:=.panicking [goexitEntry]}
def uq{a fn tmps todo}(c:P.funcs[a]?=some fn)(d:fn.results=#[]):QuitsD P 2 0 (G (kO P a tmps todo) [cM P]):=by
 refine .ctl (g':=G (cM P) []) rfl (λw=>?_) (.ctl (g':={G (cM P) []with status:=.finished}) rfl (λw=>?_) ⟨rfl,rfl⟩)
 . simp[G,stepG,unwind,c,results,d,kO,cM,goexitEntry]
   rfl
 . have b:(cM P).catches P=false:=by
    simp[Frame.catches,cM];rfl
   simp[G,stepG,unwind,cM,goexitEntry]at b ⊢;simp[b]
def uu{d}:∀{m k a c},jm P (λ_=>True) m a c->QuitsD P k d c->QuitsD P (k+m) d a
 |0,k,a,c,h,b=>by obtain rfl:=h;exact b
 |m+1,k,a,c,h,b=>by obtain⟨i,⟨e,f⟩,g⟩:=h;exact .ctl e (λw=>f false w trivial) (uu g b)
include X in
def xC{c y fr frs a fn tmps todo}(o:P.funcs[a]?=some fn)(b:fn.results=#[])(p:y.ok)(j:FR y c.1 fr)(e:my y c.2 frs)
 (k:r7 c.1=some n.en) (q:km (mz P (Fl.of y) c).1 n.done=true) (r:(mz P (Fl.of y) c).2=[]) (l:(mz P (Fl.of y) c).1.kind=.deferred):∃m,QuitsD P m 1 (G fr (frs++[kO P a tmps todo,cM P])):=by
 obtain⟨_,f⟩:=BO (P:=P) (main:=false) (cs:=frs++[kO P a tmps todo,cM P]) (w:=default) j k X.en;obtain⟨m,g,d,s,t,u⟩:=lU (Wd:=λ_=>True) (P:=P) (Fl.Dl p) 400 f e
 have h:my y [] d:=by rw[<-r];exact t
 obtain rfl:=h.mK;obtain⟨fd,body,v,B,C,x⟩:=X.LM;have hb:=lC (Wd:=λ_=>True) (c:=kO P a tmps todo) (rest:=[cM P]) s q v x (by show(mz P (Fl.of y) c).1.kind≠_;rw[l];decide)
 have i:kg (sgo P (Fl.of y) 400 {c.1 with defers:=[]} c.2).1.kind (kO P a tmps todo) [cM P] (.tuple #[])=G (kO P a tmps todo) [cM P]:=by rw[show(sgo P (Fl.of y) 400 {c.1 with defers:=[]} c.2).1.kind=.deferred from l];rfl
 rw[i]at hb;have z:QuitsD P (2+1) 0 (G g [kO P a tmps todo,cM P]):=.ctl rfl (λw=>hb.2 false w trivial) (uq o b)
 have A:=uu (u [kO P a tmps todo,cM P]) z;exact⟨_,.said ⟨.mark .enable,false,true⟩ rfl rfl (λw=>(BO (P:=P) (main:=false) (cs:=frs++[kO P a tmps todo,cM P]) (w:=w) j k X.en).1) A⟩
def Gone(P:adI)(Wd:adp)(a:adz):Prop:=∃m,QuitsD P m 1 a
def BQ{m k a c}(h:jm P (λ_=>True) m a c)(b:QuitsD P k 1 c):Gone P Wd a:=⟨_,uu h b⟩
include C X in
def Xg{k v m o fn tmps todo}(N:P.funcs[o]?=some fn)(f:fn.results=#[])(G:rA b w (k+1) v m)(R:k<1000)(S:v<=1)(h:rB P n b kind .d4 [kO P o tmps todo,cM P] g):
 ∃H w',stepG P main g w=.go H w' #[⟨.cell ⟨b,0,none⟩,false,true⟩,⟨.cell ⟨b,0,none⟩,true,true⟩]/\w'=w.setCell ⟨b,0,none⟩ (.int .u64 (eH k v))/\rA b w' k v m/\((k=0/\v=1/\iL P n b kind Wd .d5 [kO P o tmps todo,cM P] H)\/(¬(k=0/\v=1)/\Gone P Wd H)):=by
 obtain⟨cf,y,fr,frs,rfl,T,E,i,rfl⟩:=h;obtain⟨F,O,I,J⟩:=C.d4 b
 have e:IntKind.u64.wrap (eH (k+1:Nat) v+18446744069414584320)=eH k v:=by
  have:eH (k+1:Nat) v+18446744069414584320=eH k v+18446744073709551616:=by unfold eH;push_cast;omega
  rw[this];simp[IntKind.wrap,IntKind.bits,IntKind.signed];unfold eH;omega
 have p:=pU (main:=main) (cs:=frs++[kO P o tmps todo,cM P]) (w:=w) E F (kN O) X.sU (λx h=>h) G.cw (G.fz 0)
 rw[e]at p;have a:({y0 with c:=(k:Int)}:Sy).ok:=⟨by show(0:Int)<=2/\(2:Int)<=1000;decide,by show(0:Int)<=(k:Int)/\(k:Int)<=1000;omega⟩
 refine⟨_,_,p,rfl,G.aV k v,?_⟩;have q:v=0\/v=1:=by omega
 rcases q with rfl|rfl
 . refine .inr ⟨by omega,?_⟩
   obtain⟨l,d,r,s,t⟩:=mC (P:=P) (Wd:=λ_=>True) (y:={y0 with c:=(k:Int)}) (v:=.eH 0) (x:=.int .u64 (eH k 0)) (.inl ⟨_,F⟩) a (E.gT I) (i.gT J) rfl
   have u:=C.d5 b (Fl.of {y0 with c:=(k:Int)}) (decide ((k:Int)=0))
   obtain⟨z,A,B⟩:=C.Yr b (Fl.of {y0 with c:=(k:Int)}) (decide ((k:Int)=0))
   rw[FJ rfl]at u z A B;obtain⟨Q,K⟩:=xC X N f a r s u z A B;obtain⟨j,L⟩:=t [kO P o tmps todo,cM P];exact BQ L K
 . by_cases D:k=0
   . refine .inl ⟨D,rfl,?_⟩
     obtain⟨l,d,r,s,t⟩:=mC (P:=P) (Wd:=Wd) (y:={y0 with c:=(k:Int)}) (v:=.eH 1) (x:=.int .u64 (eH k 1)) (.inl ⟨_,F⟩) a (E.gT I) (i.gT J) rfl
     exact⟨rfl,_,t _,_,_,l,d,⟨rfl,by show(k:Int)=0;omega⟩,a,r,s,rfl⟩
   . refine .inr ⟨by omega,?_⟩
     obtain⟨l,d,r,s,t⟩:=mC (P:=P) (Wd:=λ_=>True) (y:={y0 with c:=(k:Int)}) (v:=.eH 1) (x:=.int .u64 (eH k 1)) (.inl ⟨_,F⟩) a (E.gT I) (i.gT J) rfl
     have M:decide ((k:Int)=0)=false:=by simpa using D
     have u:=C.d6 b (Fl.of {y0 with c:=(k:Int)})
     obtain⟨z,A,B⟩:=C.Ys b (Fl.of {y0 with c:=(k:Int)})
     rw[FJ M]at u z A B;obtain⟨Q,K⟩:=xC X N f a r s u z A B;obtain⟨j,L⟩:=t [kO P o tmps todo,cM P];exact BQ L K
include C X in
def Xh{m}(q:rA b w 0 1 m)(h:rB P n b kind .d5 cs g):∃k,stepG P main g w=.go k w #[⟨.cell ⟨b,0,none⟩,false,true⟩]/\iL P n b kind Wd .d6 cs k:=by
 obtain⟨c,y,fr,frs,⟨rfl,e⟩,l,o,f,rfl⟩:=h;have r:=FJ (y:=y) (a:=true) (by simpa using e)
 obtain⟨i,p⟩:=C.d7 b (Fl.of y);rw[r]at i p;have s:SR y (.eH 1) (.int .u64 (eH 0 1)):=by show _=Value.int .u64 (eH y.c 1);rw[e]
 obtain⟨j,d,t,u,v⟩:=mC (P:=P) (Wd:=Wd) (.inl ⟨_,i⟩) l o f s;exact⟨_,uo o i (kN p) X.vP q.cw,rfl,_,v cs,_,y,j,d,⟨rfl,e⟩,l,t,u,rfl⟩
include C X in
def Xi{m}(e:rA b w 0 1 m)(h:rB P n b kind .d6 cs g):∃k w',stepG P main g w=.go k w' #[⟨.cell ⟨b,0,none⟩,true,true⟩]/\w'=w.setCell ⟨b,0,none⟩ (.int .u64 (eH 0 0))/\rA b w' 0 0 m/\iL P n b kind Wd .d7 cs k:=by
 obtain⟨c,y,fr,frs,⟨rfl,l⟩,o,p,f,rfl⟩:=h;have r:=FJ (y:=y) (a:=true) (by simpa using l);obtain⟨i,q⟩:=C.d8 b (Fl.of y);rw[r]at i q;obtain⟨j,d,s,t,u⟩:=mC (P:=P) (Wd:=Wd) (v:=un) (x:=.tuple #[]) (.inl ⟨_,i⟩) o p f rfl;exact⟨_,_,IM p i (kN q) X.IN e.cw (e.fz 0),rfl,e.aV 0 0,rfl,_,u cs,_,y,j,d,⟨rfl,l⟩,o,s,t,rfl⟩
include C X in
def Xj{v m k fn tmps todo}(E:P.funcs[k]?=some fn)(d:fn.results=#[])(l:rA b w 0 v m)(M:m<=1000)(h:rB P n b kind .d7 [kO P k tmps todo,cM P] g):
 ∃q w',stepG P main g w=.go q w' (semEvents ⟨b,1,none⟩)/\w'=w.setCell ⟨b,1,none⟩ (.int .u32 (m+1:Nat))/\rA b w' 0 v (m+1)/\Gone P Wd q:=by
 obtain⟨c,y,fr,frs,⟨rfl,F⟩,r,s,o,rfl⟩:=h;have f:=FJ (y:=y) (a:=true) (by simpa using F)
 obtain⟨p,t⟩:=C.d9 b (Fl.of y);rw[f]at p t;have i:=oy (main:=main) (cs:=frs++[kO P k tmps todo,cM P]) (w:=w) s p (kN t) X.oz l.cs (l.fz 1);have e:IntKind.u32.wrap ((m:Int)+1)=((m+1:Nat):Int):=by rw[IntKind.wrap_u32];omega
 rw[e]at i;obtain⟨G,u,H,I,J⟩:=mC (P:=P) (Wd:=λ_=>True) (v:=un) (x:=.tuple #[]) (.inl ⟨_,p⟩) r s o rfl
 have z:=C.da b (Fl.of y);obtain⟨A,B,D⟩:=C.db b (Fl.of y);rw[f]at z A B D;obtain⟨N,K⟩:=xC X E d r H I z A B D;obtain⟨j,L⟩:=J [kO P k tmps todo,cM P];exact⟨_,_,i,rfl,l.FG (m+1),BQ L K⟩
end
section
variable{P:adI}{n:Py}(C:gV P n)(X:iK P n){b:Nat}{kind:adE}{Wd:adp}{cs:adu}{g:adz}{w:World}{main:Bool}
variable(hW0:∀w,Wd w->∃v,w.cell? ⟨b,0,none⟩=some v)(hW1:∀w,Wd w->∃v,w.cell? ⟨b,1,none⟩=some v)
include C X in
def Xk(h:rB P n b kind .w0 cs g)(k:kind≠.early):∃f,stepG P main g w=.go f w #[⟨.mark .disable,false,true⟩]/\iL P n b kind Wd .w1 cs f:=by
 obtain⟨c,y,fr,frs,rfl,s,i,d,rfl⟩:=h;obtain⟨j,l,m,o⟩:=C.w0 b kind;obtain⟨e,a,p,q,r⟩:=FI (P:=P) (Wd:=Wd) (v:=un) (x:=.tuple #[]) (.inl ⟨_,j⟩) i d l (by rw[m];rfl) (λ_=>rfl);exact⟨_,fa LG i j (by rw[o];exact k) X.jy,rfl,_,r cs,_,y0,e,a,rfl,sT,p.keep [5],q.rz [[0]],rfl⟩
include C X in
def Xl{c m}(r:rA b w c 0 m)(z:c<=1000)(h:rB P n b kind .w1 cs g):
 ∃f,stepG P main g w=.go f w #[⟨.cell ⟨b,0,none⟩,false,true⟩]/\((c=0/\iL P n b kind Wd .we cs f)\/(c≠0/\iL P n b kind Wd (.w2 c) cs f)):=by
 obtain⟨cf,y,fr,frs,rfl,A,k,i,rfl⟩:=h;obtain⟨l,s,t,u⟩:=C.w1 b kind;have d:({y0 with c:=(c:Int)}:Sy).ok:=⟨by show(0:Int)<=2/\(2:Int)<=1000;decide,by show(0:Int)<=(c:Int)/\(c:Int)<=1000;omega⟩;obtain⟨e,a,o,p,q⟩:=mC (P:=P) (Wd:=Wd) (y:={y0 with c:=(c:Int)}) (v:=.eH 0) (x:=.int .u64 (eH c 0)) (.inl ⟨_,l⟩) d (k.gT t) (i.gT u) rfl;refine⟨_,uo k l (kN s) X.vP r.cw,?_⟩;by_cases j:c=0
 . exact .inl ⟨j,rfl,_,q cs,_,_,e,a,.inl ⟨rfl,by show(c:Int)=0;omega⟩,d,o,p,rfl⟩
 . exact .inr ⟨j,rfl,_,q cs,_,_,e,a,⟨rfl,rfl,j⟩,d,o,p,rfl⟩
include C X hW0 in
def Xm(h:rB P n b kind .we cs g)(D:kind≠.early):∃E,stepG P main g w=.go E w #[⟨.mark .enable,false,true⟩]/\iL P n b kind Wd .wa cs E:=by
 obtain⟨c,y,fr,frs,e,k,q,l,rfl⟩:=h;rcases e with⟨rfl,e⟩|⟨rfl,e⟩
 . have r:=FJ (y:=y) (a:=true) (by simpa using e)
   obtain⟨f,m⟩:=C.w2 b kind (Fl.of y);have i:=C.w3 b kind (Fl.of y);rw[r]at f m i;obtain⟨s,o,p,t,u⟩:=mC (P:=P) (Wd:=Wd) (v:=un) (x:=.tuple #[]) (.inl ⟨_,f⟩) k q l rfl;obtain⟨j,d,z,A,B⟩:=mC (P:=P) (Wd:=Wd) (c:=WC P n b kind (Fl.of y)) (v:=pt b 0) (x:=.pointer (some ⟨b,0,none⟩)) (.inr ⟨_,i⟩) k p t rfl;exact⟨_,fa LH q f (by rw[m];exact D) X.en,rfl,_,(u cs).trans ((LO X hW0 (c:=WC P n b kind (Fl.of y)) (cs:=cs) i p).Aa.trans (B cs)),_,y,j,d,.inl ⟨rfl,e⟩,k,z,A,rfl⟩
 . have r:=FJ (y:=y) (a:=false) (BP e)
   obtain⟨f,m⟩:=C.wc b kind (Fl.of y);have i:=C.wd b kind (Fl.of y);rw[r]at f m i;obtain⟨s,o,p,t,u⟩:=mC (P:=P) (Wd:=Wd) (v:=un) (x:=.tuple #[]) (.inl ⟨_,f⟩) k q l rfl;obtain⟨j,d,z,A,B⟩:=mC (P:=P) (Wd:=Wd) (c:=UO P n b kind (Fl.of y)) (v:=pt b 0) (x:=.pointer (some ⟨b,0,none⟩)) (.inr ⟨_,i⟩) k p t rfl;exact⟨_,fa LH q f (by rw[m];exact D) X.en,rfl,_,(u cs).trans ((LO X hW0 (c:=UO P n b kind (Fl.of y)) (cs:=cs) i p).Aa.trans (B cs)),_,y,j,d,.inr ⟨rfl,e⟩,k,z,A,rfl⟩
include C X in
def UQ{j rest}(h:rB P n b kind .wa (j::rest) g)(q:kind≠.early):∃t,stepG P main g w=.go t w #[⟨.mark (.acquire ⟨b,0,none⟩),false,true⟩]/\t.status=.running/\sQ P Wd t (kg kind j rest (.tuple #[])):=by
 obtain⟨c,y,fr,frs,k,E,r,l,rfl⟩:=h;obtain⟨fn,body,f1,H,I,F⟩:=X.LN;rcases k with⟨rfl,k⟩|⟨rfl,k⟩
 . have u:=FJ (y:=y) (a:=true) (by simpa using k)
   obtain⟨f,m⟩:=C.w4 b kind (Fl.of y);obtain⟨o,p,i⟩:=C.w5 b kind (Fl.of y);rw[u]at f m o p i;obtain⟨z,d,A,B,D⟩:=mC (P:=P) (Wd:=Wd) (v:=un) (x:=.tuple #[]) (.inl ⟨_,f⟩) E r l rfl;have e:my y (WB P n b kind (Fl.of y)).2 d:=B;rw[p]at e;obtain rfl:=e.mK;have hb:=lC (Wd:=Wd) (c:=j) (rest:=rest) (s:=(WB P n b kind (Fl.of y)).1) A o f1 F (by rw[i];exact q);rw[i]at hb;exact⟨_,fN (λG g h=>by cases h) r f (by rw[m];exact q) X.acq,rfl,(D (j::rest)).trans hb.Aa⟩
 . have u:=FJ (y:=y) (a:=false) (BP k)
   obtain⟨f,m⟩:=C.we b kind (Fl.of y);obtain⟨o,p,i⟩:=C.wf b kind (Fl.of y);rw[u]at f m o p i;obtain⟨z,d,A,B,D⟩:=mC (P:=P) (Wd:=Wd) (v:=un) (x:=.tuple #[]) (.inl ⟨_,f⟩) E r l rfl;have e:my y (Q7 P n b kind (Fl.of y)).2 d:=B;rw[p]at e;obtain rfl:=e.mK;have hb:=lC (Wd:=Wd) (c:=j) (rest:=rest) (s:=(Q7 P n b kind (Fl.of y)).1) A o f1 F (by rw[i];exact q);rw[i]at hb;exact⟨_,fN (λG g h=>by cases h) r f (by rw[m];exact q) X.acq,rfl,(D (j::rest)).trans hb.Aa⟩
def PA{c c' v a:Nat}(d:v<=1000)(b:a<=1000):eH c v=eH c' a↔(c=c'/\v=a):=by unfold eH;omega
include C X hW1 in
def Xn{k c m}(l:rA b w c 0 m)(h:rB P n b kind (.w2 k) cs g):
 (c=k/\∃o w',stepG P main g w=.go o w' #[⟨.cell ⟨b,0,none⟩,false,true⟩,⟨.cell ⟨b,0,none⟩,true,true⟩]/\w'=w.setCell ⟨b,0,none⟩ (.int .u64 (eH k 1))/\rA b w' k 1 m/\iL P n b kind Wd .w3 cs o)\/
 (c≠k/\∃o,stepG P main g w=.go o w #[⟨.cell ⟨b,0,none⟩,false,true⟩]/\iL P n b kind Wd .w1 cs o):=by
 obtain⟨cf,y,fr,frs,⟨rfl,K,L⟩,p,z,q,rfl⟩:=h;have r:y.c≠0:=by rw[K];omega
 have D:=FJ (y:=y) (a:=false) (BP r);obtain⟨s,E⟩:=C.w6 b kind (Fl.of y);rw[D]at s E
 have A:∀j:Nat,∀x,SR y (.eH j) x->x=.int .u64 (eH k j):=λj x F=>by have F:x=.int .u64 (eH y.c j):=F;rw[F,K]
 by_cases f:c=k
 . subst f
   refine .inl ⟨rfl,_,_,il z s (kN E) X.xA (A 0) (A 1) l.cw (l.fz 0),rfl,l.aV c 1,rfl,?_⟩;have i:=C.w8 b kind (Fl.of y);rw[D]at i;obtain⟨t,d,B,G,H⟩:=mC (P:=P) (Wd:=Wd) (v:=tt) (x:=.bool true) (.inl ⟨_,s⟩) p z q rfl;obtain⟨I,u,M,N,O⟩:=mC (P:=P) (Wd:=Wd) (c:=W3 P n b kind (Fl.of y)) (v:=pt b 1) (x:=.pointer (some ⟨b,1,none⟩)) (.inr ⟨_,i⟩) p B G rfl;exact⟨_,(H cs).trans ((Q8 X hW1 (c:=W3 P n b kind (Fl.of y)) (cs:=cs) i B).Aa.trans (O cs)),_,y,I,u,⟨rfl,r⟩,p,M,N,rfl⟩
 . have J:¬eH c 0=eH k 0:=λe=>f ((PA (by omega) (by omega)).1 e).1
   refine .inr ⟨f,_,iJ z s (kN E) X.xA (A 0) (A 1) l.cw (l.fz 0) J,rfl,?_⟩;have i:=C.w7 b kind (Fl.of y);rw[D]at i;obtain⟨t,d,B,G,H⟩:=mC (P:=P) (Wd:=Wd) (v:=ff) (x:=.bool false) (.inl ⟨_,s⟩) p z q rfl;have Q:=B.keep [5];have R:=G.rz [[0]];refine⟨_,H cs,W1 P n b kind,y,t,d,rfl,p,?_,?_,rfl⟩
   . rw[<-i];exact Q
   . rw[<-i];exact R
include C X in
def Xo(h:rB P n b kind .w3 cs g)(p:kind≠.early):∃j,stepG P main g w=.go j w #[⟨.mark (.write ⟨b,1,none⟩),false,true⟩]/\iL P n b kind Wd .w4 cs j:=by obtain⟨c,y,fr,frs,⟨rfl,k⟩,l,m,e,rfl⟩:=h;have q:=FJ (y:=y) (a:=false) (BP k);obtain⟨f,o⟩:=C.w9 b kind (Fl.of y);rw[q]at f o;obtain⟨i,d,r,s,t⟩:=mC (P:=P) (Wd:=Wd) (v:=un) (x:=.tuple #[]) (.inl ⟨_,f⟩) l m e rfl;exact⟨_,fN (λu g h=>by cases h) m f (by rw[o];exact p) X.wr,rfl,_,t cs,_,y,i,d,⟨rfl,k⟩,l,r,s,rfl⟩
include C X in
def Xp{c v m}(i:rA b w c v m)(D:m≠0)(h:rB P n b kind .w4 cs g)(t:kind≠.early):
 ∃o w',stepG P main g w=.go o w' (semEvents ⟨b,1,none⟩)/\w'=w.setCell ⟨b,1,none⟩ (.int .u32 (m-1:Nat))/\rA b w' c v (m-1)/\iL P n b kind Wd .w5 cs o:=by
 obtain⟨cf,y,fr,frs,⟨rfl,p⟩,q,r,j,rfl⟩:=h;have u:=FJ (y:=y) (a:=false) (BP p);obtain⟨k,s⟩:=C.wa b kind (Fl.of y);rw[u]at k s;have d:=sS (main:=main) (cs:=frs++cs) (w:=w) (n:=(m:Int)) r k (by rw[s];exact t) X.FC i.cs (by omega) (i.fz _);have e:((m:Int)-1)=((m-1:Nat):Int):=by omega
 rw[e]at d;obtain⟨l,f,z,A,B⟩:=mC (P:=P) (Wd:=Wd) (v:=un) (x:=.tuple #[]) (.inl ⟨_,k⟩) q r j rfl;exact⟨_,_,d,rfl,i.FG (m-1),rfl,_,B cs,_,y,l,f,⟨rfl,p⟩,q,z,A,rfl⟩
include C X in
def US{c v}(e:rA b w c v 0)(h:rB P n b kind .w4 cs g):stepG P main g w=.go {g with status:=.blocked} w #[]:=by obtain⟨cf,y,fr,frs,⟨rfl,f⟩,m,i,j,rfl⟩:=h;have k:=FJ (y:=y) (a:=false) (BP f);obtain⟨d,l⟩:=C.wa b kind (Fl.of y);rw[k]at d l;exact Af i d X.FC e.cs
include C X in
def Xq{m}(r:rA b w 0 0 m)(h:rB P n b kind .w5 cs g):∃k,stepG P main g w=.go k w #[⟨.cell ⟨b,0,none⟩,false,true⟩]/\iL P n b kind Wd .we cs k:=by obtain⟨c,y,fr,frs,⟨rfl,l⟩,o,p,e,rfl⟩:=h;have s:=FJ (y:=y) (a:=false) (BP l);obtain⟨f,q⟩:=C.wb b kind (Fl.of y);rw[s]at f q;have i:=uo (main:=main) (cs:=frs++cs) p f (kN q) X.vP r.cw;obtain⟨j,d,t,u,z⟩:=mC (P:=P) (Wd:=Wd) (v:=u64 0) (x:=.int .u64 0) (.inl ⟨_,f⟩) o p e rfl;exact⟨_,i,rfl,_,z cs,_,y,j,d,.inr ⟨rfl,l⟩,o,t,u,rfl⟩
end
structure mD(P:adI)(n:Di):Prop where
 lock:∃fn body,P.funcs[n.lock]?=some fn/\fn.body=some body/\fn.ntmps=6/\fn.results=#[]
 unlock:∃fn body,P.funcs[n.unlock]?=some fn/\fn.body=some body/\fn.ntmps=6/\fn.results=#[]
section
variable{P:adI}{n:Di}(C:gF P n)(X:gJ P n)(F:mD P n){b o:Nat}{kind:adE}{Wd:adp}{cs:adu}{g:adz}{w:World}{main:Bool}
include F in
def rC:∃a,sQ P Wd (G (Frame.enter P n.lock #[.pointer (some ⟨b,o,none⟩)] kind) cs) a/\oc P n b o kind .ld cs a:=by obtain⟨fn,body,c,d,e,f⟩:=F.lock;exact FH ⟨fn,body,c,d,e⟩
include F in
def pr:∃e,sQ P Wd (G (Frame.enter P n.unlock #[.pointer (some ⟨b,o,none⟩)] kind) cs) e/\oc P n b o kind .Hr cs e:=by
 obtain⟨fn,body,f,g,q,r⟩:=F.unlock
 have j:FR y0 (dJ P n.unlock [pt b o] kind) (Frame.enter P n.unlock #[.pointer (some ⟨b,o,none⟩)] kind):=sV f g rfl λi a h=>by
  match i with
  |0=>simp at h;subst h;exact⟨_,rfl,rfl⟩
  |i+1=>simp at h
 obtain⟨m,d,c,k,l,p⟩:=lU (Wd:=Wd) (P:=P) FK 400 j (st:=[]) (frs:=[]) trivial;exact⟨_,⟨m,p cs⟩,_,y0,d,c,rfl,sT,k.keep [0,5],l.keep [],rfl⟩
include F in
def sW{c rest}(h:oc P n b o kind .back (c::rest) g)(e:kind≠.early):sQ P Wd g (kg kind c rest (.tuple #[])):=by obtain⟨cf,y,fr,frs,rfl,l,i,a,rfl⟩:=h;obtain⟨fn,body,j,m,p,k⟩:=F.lock;have d:my y [] frs:=a;obtain rfl:=d.mK;exact(lC (Wd:=Wd) (c:=c) (rest:=rest) (s:=(BK n kind).1) (f:=n.lock) i (by simp[BK,km]) j k e).Aa
include F in
def lX{c rest}(h:oc P n b o kind .Dm (c::rest) g)(e:kind≠.early):sQ P Wd g (kg kind c rest (.tuple #[])):=by obtain⟨cf,y,fr,frs,rfl,l,i,a,rfl⟩:=h;obtain⟨fn,body,j,m,p,k⟩:=F.unlock;have d:my y [] frs:=a;obtain rfl:=d.mK;exact(lC (Wd:=Wd) (c:=c) (rest:=rest) (s:=(Uz n kind).1) (f:=n.unlock) i (by simp[Uz,km]) j k e).Aa
end
