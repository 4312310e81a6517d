import Derived.Conc.QuitsD
import Derived.Test.YtldmpfccgajobaaGreatDoorC17
set_option linter.all false
namespace Go.aR
open Go.Conc
inductive vu where
 |a0|a2|a4|ae
 |d1|d2|d4|d5|d6|d7
 |w0|w1|we|wa|w2 (c:Nat)|w3|w4|w5
structure qT(b:Nat)(w:World)(c v m:Nat):Prop where
 cw:w.cell? ⟨b,0,none⟩=some (.int .u64 (eI c v))
 cs:w.cell? ⟨b,1,none⟩=some (.int .u32 m)
 fz:∀i,w.frozen? ⟨b,i,none⟩=false
theorem qT.aL{b:Nat}{w:World}{c v m:Nat}(h:qT b w c v m)(c' a:Nat):qT b (w.setCell ⟨b,0,none⟩ (.int .u64 (eI c' a))) c' a m:=⟨ko h.cw,by rw[eM (by simp)];exact h.cs,λi=>by rw[oJ];exact h.fz i⟩
theorem qT.Ec{b:Nat}{w:World}{c v m:Nat}(h:qT b w c v m)(a:Nat):qT b (w.setCell ⟨b,1,none⟩ (.int .u32 a)) c v a:=⟨by rw[eM (by simp)];exact h.cw,ko h.cs,λi=>by rw[oJ];exact h.fz i⟩
section
variable(P:Program)(n:Iq)(b:Nat)(kind:CallKind)
def Vv(p:vu)(c:cQ)(y:Sy):Prop:=
 match p with
 |.a0=>c=A0 P n b kind
 |.a2=>c=A2 P n b kind
 |.a4=>c=A4 P n b kind (Fl.of y)/\y.c=1
 |.ae=>y.c≠0/\((c=A5 P n b kind (Fl.of y)/\y.c=1)\/(c=A3 P n b kind (Fl.of y)/\y.c≠1))
 |.d1=>c=D1 P n b
 |.d2=>c=D2 P n b
 |.d4=>c=D4 P n b
 |.d5=>c=DE P n b (Fl.of y) 1/\y.c=0
 |.d6=>c=D6 P n b (Fl.of y)/\y.c=0
 |.d7=>c=D7 P n b (Fl.of y)/\y.c=0
 |.w0=>c=W0 P n b kind
 |.w1=>c=W1 P n b kind
 |.we=>(c=WE P n b kind (Fl.of y)/\y.c=0)\/(c=PW P n b kind (Fl.of y)/\y.c≠0)
 |.wa=>(c=WA P n b kind (Fl.of y)/\y.c=0)\/(c=PX P n b kind (Fl.of y)/\y.c≠0)
 |.w2 k=>c=WE P n b kind (Fl.of y)/\y.c=k/\k≠0
 |.w3=>c=PV P n b kind (Fl.of y)/\y.c≠0
 |.w4=>c=W4 P n b kind (Fl.of y)/\y.c≠0
 |.w5=>c=W5 P n b kind (Fl.of y)/\y.c≠0
def qU(p:vu)(cs:List Frame)(g:Goroutine):Prop:=∃c y fr frs,Vv P n b kind p c y/\y.ok/\FR y c.1 fr/\mI y c.2 frs/\g=G fr (frs++cs)
def iL(Wd:World->Prop)(p:vu)(cs:List Frame)(a:Goroutine):Prop:=a.status=.running/\∃c,sB P Wd a c/\qU P n b kind p cs c
end
theorem qU.running{P:Program}{n:Iq}{b:Nat}{kind:CallKind}{p:vu}{cs:List Frame}{g:Goroutine}(h:qU P n b kind p cs g):g.status=.running/\g.offers=none:=by obtain⟨c,y,fr,frs,_,_,_,_,rfl⟩:=h;exact⟨rfl,rfl⟩
theorem ze{s:jR}{v:SV}(h:(∃x,bb s=some x)\/(∃x,kY s=some x)):∃s',ww s v=some s':=by
 unfold ww;rcases h with⟨x,h⟩|⟨x,h⟩
 . unfold bb at h
   split at h
   . rename_i ops i rest k b a;rw[a];exact⟨_,rfl⟩
   . cases h
 . unfold kY at h
   split at h
   . rename_i ops i rest k b a;rw[a];exact⟨_,rfl⟩
   . cases h
section
variable{P:Program}{Wd:World->Prop}{y:Sy}{c:cQ}{v:SV}{x:Value}{fr:Frame}{frs:List Frame}
theorem mK(h:(∃x,bb c.1=some x)\/(∃x,kY c.1=some x))(f:y.ok)(g:FR y c.1 fr)(d:mI y c.2 frs)(i:SR y v x):
 ∃b a,FR y (next P (Fl.of y) c v).1 b/\mI y (next P (Fl.of y) c v).2 a/\∀cs,sB P Wd (G (fr.finish x) (frs++cs)) (G b (a++cs)):=by
 obtain⟨n,e⟩:=ze (v:=v) h;obtain⟨m,b,a,j,k,l⟩:=mp (Wd:=Wd) (Fl.Cf f) 400 (P:=P) (g.fin e i) d;unfold next
 rw[e];exact⟨b,a,j,k,λcs=>⟨m,l cs⟩⟩
theorem Ee(h:(∃x,bb c.1=some x)\/(∃x,kY c.1=some x))(g:FR y c.1 fr)(d:mI y c.2 frs)(i:c.1.env.all plain=true)(e:c.2.all (·.env.all plain)=true)(j:∀y,SR y v x):
 ∃b a,FR y0 (next P lO c v).1 b/\mI y0 (next P lO c v).2 a/\∀cs,sB P Wd (G (fr.finish x) (frs++cs)) (G b (a++cs)):=by
 obtain⟨p,f⟩:=ze (v:=v) h;have k:lO.At y0:=⟨by decide,by decide,rfl,rfl,rfl,rfl,rfl,by decide⟩;obtain⟨m,b,a,l,n,o⟩:=mp (Wd:=Wd) k 400 (P:=P) ((g.ij i).fin f (j y0)) (d.ij e);unfold next
 rw[f];exact⟨b,a,l,n,λcs=>⟨m,o cs⟩⟩
end
theorem mI.qS{y:Sy}:∀{st:List jR}{frs:List Frame}(ls:List (List Nat)),mI y st frs->mI y (Go.aR.qS st ls) frs
 |[],frs,ls,h=>by rw[h.lF];trivial
 |s::st,frs,[],h=>by obtain⟨f,a,rfl,b,c⟩:=h.cons_inv;exact⟨b.keep [],c.qS []⟩
 |s::st,frs,l::ls,h=>by obtain⟨f,a,rfl,b,c⟩:=h.cons_inv;exact⟨b.keep l,c.qS ls⟩
theorem f10{y:Sy}{a c:Bool}(b:decide (y.c=1)=a)(d:decide (y.c=0)=c):f0 (f1 (Fl.of y) a) c=Fl.of y:=by subst b;subst d;rfl
theorem Ue{y:Sy}{a:Bool}(b:decide (y.c=1)=a):f1 (Fl.of y) a=Fl.of y:=by subst b;rfl
theorem Ef{y:Sy}{a:Bool}(b:decide (y.c=0)=a):f0 (Fl.of y) a=Fl.of y:=by subst b;rfl
theorem lc{c:cQ}(h:vt c=true):c.1.kind≠.early:=by
 unfold vt at h;have:c.1.kind=.normal:=by simpa using h
 rw[this];decide
section
variable{P:Program}{n:Iq}(C:jS P n)(X:lw P n){b:Nat}{kind:CallKind}{Wd:World->Prop}{cs:List Frame}{g:Goroutine}{w:World}{main:Bool}
variable(hW0:∀w,Wd w->∃v,w.cell? ⟨b,0,none⟩=some v)(hW1:∀w,Wd w->∃v,w.cell? ⟨b,1,none⟩=some v)
include X hW1 in
theorem N5{y:Sy}{c:cQ}{fr:Frame}{frs:List Frame}(h:kY c.1=some (n.tS,n.tU,pt b 1))(a:FR y c.1 fr):rC P Wd (G fr (frs++cs)) (G (fr.finish (.pointer (some ⟨b,1,none⟩))) (frs++cs)):=by obtain⟨t,d,e,f⟩:=X.Ud;exact⟨rfl,λmain w g=>tR a h d e f (hW1 w g)⟩
include X hW0 in
theorem JG{y:Sy}{c:cQ}{fr:Frame}{frs:List Frame}(h:kY c.1=some (n.tG,n.tU,pt b 0))(a:FR y c.1 fr):rC P Wd (G fr (frs++cs)) (G (fr.finish (.pointer (some ⟨b,0,none⟩))) (frs++cs)):=by obtain⟨t,d,e,f⟩:=X.Uc;exact⟨rfl,λmain w g=>tR a h d e f (hW0 w g)⟩
theorem sG{f:FuncId}{args:List SV}{dR:Array Value}{y:Sy}{fn:Func}{body:Code}(b:P.funcs[f]?=some fn)(d:fn.body=some body)(e:args.length=dR.size)(g:∀(i:Nat) a,args[i]?=some a->∃x,dR[i]?=some x/\SR y a x):FR y (dP P f args kind) (Frame.enter P f dR kind):=by
 refine⟨by simp[dP,b,Frame.enter],by simp[dP,b,d,Frame.enter],by simp[dP,b,Frame.enter],by simp[dP,b,Frame.enter,B8.of],by simp[dP,b,Frame.enter],rfl,by simp[dP,b,Frame.enter,e],λt=>?_⟩;simp only[dP,b,Frame.enter,Option.map_some,Option.getD_some];rw[Array.getD_eq_getD_getElem?,List.getD_eq_getElem?_getD];by_cases c:t<args.length
 . rw[Array.getElem?_append_left (by omega),List.getElem?_append_left c]
   obtain⟨x,h,j⟩:=g t _ (List.getElem?_eq_getElem c);rw[List.getElem?_eq_getElem c,h];exact j
 . rw[Array.getElem?_append_right (by omega),List.getElem?_append_right (by omega),List.getElem?_replicate]
   split<;>trivial
include X in
theorem x8:∃e,sB P Wd (G (Frame.enter P n.add #[.pointer (some ⟨b,0,none⟩),.int .i64 1] kind) cs) e/\qU P n b kind .a0 cs e:=by
 obtain⟨fn,body,f,g,q,r⟩:=X.OK
 have j:FR y0 (dP P n.add [pt b 0,i64 1] kind) (Frame.enter P n.add #[.pointer (some ⟨b,0,none⟩),.int .i64 1] kind):=sG f g rfl λi a h=>by
  match i with
  |0=>simp at h;subst h;exact⟨_,rfl,rfl⟩
  |1=>simp at h;subst h;exact⟨_,rfl,rfl⟩
  |i+2=>simp at h
 have k:lO.At y0:=⟨by decide,by decide,rfl,rfl,rfl,rfl,rfl,by decide⟩;obtain⟨m,d,c,l,o,p⟩:=mp (Wd:=Wd) (P:=P) k 400 j (st:=[]) (frs:=[]) trivial;exact⟨_,⟨m,p cs⟩,_,y0,d,c,rfl,sE,l,o,rfl⟩
theorem Eg:lO.At y0:=⟨by decide,by decide,rfl,rfl,rfl,rfl,rfl,by decide⟩
include X in
theorem wD(C:jS P n):∃e,sB P Wd (G (Frame.enter P n.wait #[.pointer (some ⟨b,0,none⟩)] kind) cs) e/\qU P n b kind .w0 cs e:=by
 obtain⟨fn,body,f,g,p,q⟩:=X.JF
 have j:FR y0 (dP P n.wait [pt b 0] kind) (Frame.enter P n.wait #[.pointer (some ⟨b,0,none⟩)] kind):=sG f g rfl λi a h=>by
  match i with
  |0=>simp at h;subst h;exact⟨_,rfl,rfl⟩
  |i+1=>simp at h
 obtain⟨m,d,c,k,l,o⟩:=mp (Wd:=Wd) (P:=P) Eg 400 j (st:=[]) (frs:=[]) trivial;exact⟨_,⟨m,o cs⟩,_,y0,d,c,rfl,sE,k.keep [0],l.qS [],rfl⟩
include X hW0 in
theorem wE(C:jS P n):∃f,sB P Wd (G (Frame.enter P n.done #[.pointer (some ⟨b,0,none⟩)] .deferred) cs) f/\qU P n b kind .d1 cs f:=by
 obtain⟨fn,body,l,o,A,B⟩:=X.JE
 have p:FR y0 (dP P n.done [pt b 0] .deferred) (Frame.enter P n.done #[.pointer (some ⟨b,0,none⟩)] .deferred):=sG l o rfl λi a h=>by
  match i with
  |0=>simp at h;subst h;exact⟨_,rfl,rfl⟩
  |i+1=>simp at h
 obtain⟨m,q,g,j,r,s⟩:=mp (Wd:=Wd) (P:=P) Eg 400 p (st:=[]) (frs:=[]) trivial;obtain⟨k,t,u⟩:=C.d0 b;obtain⟨e,d,w,y,z⟩:=Ee (P:=P) (Wd:=Wd) (c:=D0 P n b) (v:=pt b 0) (x:=.pointer (some ⟨b,0,none⟩)) (.inr ⟨_,k⟩) j r t u (λ_=>rfl);exact⟨_,sB.trans ⟨m,s cs⟩ (sB.trans (JG X hW0 (cs:=cs) k j).yX (z cs)),_,y0,e,d,rfl,sE,w,y,rfl⟩
include C X in
theorem SE(h:qU P n b kind .a0 cs g)(j:kind≠.early):∃k,stepG P main g w=.go k w #[⟨.mark .disable,false,true⟩]/\iL P n b kind Wd .a2 cs k:=by
 obtain⟨c,y,fr,frs,rfl,I,l,f,rfl⟩:=h;obtain⟨m,q,r,t⟩:=C.a0 b kind;obtain⟨o,u,z,A⟩:=C.a1 b kind;refine⟨_,fD Jz l m (by rw[t];exact j) X.jF,rfl,?_⟩;obtain⟨d,a,p,B,D⟩:=Ee (P:=P) (Wd:=Wd) (v:=un) (x:=.tuple #[]) (.inl ⟨_,m⟩) l f q (by rw[r];rfl) (λ_=>rfl);obtain⟨i,e,E,F,H⟩:=Ee (P:=P) (Wd:=Wd) (c:=A1 P n b kind) (v:=ff) (x:=.bool false) (.inl ⟨_,o⟩) p B u (by rw[z];rfl) (λ_=>rfl);have hb:rC P Wd (G d (a++cs)) (G (d.finish (.bool false)) (a++cs)):=⟨rfl,λmain w _=>tQ (s:=(A1 P n b kind).1) p o (by rw[A];exact j) X.MM⟩;exact⟨_,(D cs).trans (hb.yX.trans (H cs)),_,y0,i,e,rfl,sE,E,F,rfl⟩
include C X hW1 in
theorem SF{c v m:Nat}(o:qT b w c 0 m)(L:c<1000)(h:qU P n b kind .a2 cs g):
 ∃p w',stepG P main g w=.go p w' #[⟨.cell ⟨b,0,none⟩,false,true⟩,⟨.cell ⟨b,0,none⟩,true,true⟩]/\w'=w.setCell ⟨b,0,none⟩ (.int .u64 (eI (c+1:Nat) 0))/\qT b w' (c+1) 0 m/\(iL P n b kind Wd .a4 cs p\/iL P n b kind Wd .ae cs p):=by
 obtain⟨cf,y,fr,frs,rfl,M,z,q,rfl⟩:=h;obtain⟨A,E,F,G⟩:=C.a2 b kind
 have e:IntKind.u64.wrap (eI c 0+4294967296)=eI (c+1:Nat) 0:=by
  rw[kH (by unfold eI;omega) (by unfold eI;omega)];unfold eI;push_cast;omega
 have i:=pR (main:=main) (cs:=frs++cs) (w:=w) z A (lc E) X.sF (λx h=>h) o.cw (o.fz 0);rw[e]at i;have d:({y0 with c:=((c+1:Nat):Int)}:Sy).ok:=⟨by show(0:Int)<=2/\(2:Int)<=1000;decide,by show(0:Int)<=((c+1:Nat):Int)/\((c+1:Nat):Int)<=1000;omega⟩;have r:((c+1:Nat):Int)≠0:=by omega
 obtain⟨s,j,t,B,D⟩:=mK (P:=P) (Wd:=Wd) (y:={y0 with c:=((c+1:Nat):Int)}) (v:=.eI 0) (x:=.int .u64 (eI (c+1:Nat) 0)) (.inl ⟨_,A⟩) d (z.ij F) (q.ij G) rfl;refine⟨_,_,i,rfl,o.aL (c+1) 0,?_⟩;by_cases f:((c+1:Nat):Int)=1
 . left
   have H:=Ue (y:={y0 with c:=((c+1:Nat):Int)}) (a:=true) (by simpa using f);have k:=C.a3 b kind (Fl.of {y0 with c:=((c+1:Nat):Int)});rw[H]at k;obtain⟨u,l,I,J,K⟩:=mK (P:=P) (Wd:=Wd) (v:=pt b 1) (x:=.pointer (some ⟨b,1,none⟩)) (.inr ⟨_,k⟩) d t B rfl;exact⟨rfl,_,(D cs).trans ((N5 X hW1 (cs:=cs) k t).yX.trans (K cs)),_,_,u,l,⟨rfl,f⟩,d,I,J,rfl⟩
 . right
   exact⟨rfl,_,D cs,_,_,s,j,⟨r,.inr ⟨rfl,f⟩⟩,d,t,B,rfl⟩
end
section
variable{P:Program}{n:Iq}(C:jS P n)(X:lw P n){b:Nat}{kind:CallKind}{Wd:World->Prop}{cs:List Frame}{g:Goroutine}{w:World}{main:Bool}
variable(hW0:∀w,Wd w->∃v,w.cell? ⟨b,0,none⟩=some v)(hW1:∀w,Wd w->∃v,w.cell? ⟨b,1,none⟩=some v)
theorem AG{y:Sy}(h:y.c≠0):decide (y.c=0)=false:=by simpa using h
include C X in
theorem SG(h:qU P n b kind .a4 cs g)(p:kind≠.early):∃k,stepG P main g w=.go k w #[⟨.mark (.read ⟨b,1,none⟩),false,true⟩]/\iL P n b kind Wd .ae cs k:=by
 obtain⟨c,y,fr,frs,⟨rfl,e⟩,l,m,f,rfl⟩:=h;have q:=Ue (y:=y) (a:=true) (by simpa using e);obtain⟨i,o⟩:=C.a4 b kind (Fl.of y);rw[q]at i o;obtain⟨j,d,r,s,t⟩:=mK (P:=P) (Wd:=Wd) (v:=un) (x:=.tuple #[]) (.inl ⟨_,i⟩) l m f rfl;exact⟨_,fW (λu g h=>by cases h) m i (by rw[o];exact p) X.rd,rfl,_,t cs,_,y,j,d,⟨by rw[e];decide,.inl ⟨rfl,e⟩⟩,l,r,s,rfl⟩
include C X in
theorem SH {e:Frame} {rest:List Frame} (h:qU P n b kind .ae (e :: rest) g) (t:kind ≠ .early):∃ d,stepG P main g w = .go d w #[⟨.mark .enable,false,true⟩]∧d.status = .running∧sB P Wd d (kV kind e rest (.tuple #[])):=by
 obtain⟨c,y,fr,frs,⟨f,i⟩,E,u,j,rfl⟩:=h;obtain⟨fn,body,f1,F,H,v⟩:=X.OK
 have key:rE c.1=some n.en->c.2=[]->c.1.kind=kind->c.1.fn=n.add->∃ d,stepG P main (G fr (frs ++ e :: rest)) w = .go d w #[⟨.mark .enable,false,true⟩]∧d.status = .running∧sB P Wd d (kV kind e rest (.tuple #[])):=fun q x s z=>by
  rw[x] at j;obtain rfl:=j.lF;obtain⟨A,B⟩:=AF (main:=main) (cs:=[] ++ e :: rest) (w:=w) u q X.en
  have k:kJ ({ c.1 with defers:=[] }:jR) n.add=true:=by
   unfold kJ;unfold rE at q;split at q
   . rename_i g cap as D hd;simp[D,z]
   . cases q
  refine⟨_,A,rfl,?_⟩;have:=lP (Wd:=Wd) (c:=e) (rest:=rest) B k f1 v (by show c.1.kind≠_;rw[s];exact t)
  rw[show ({ c.1 with defers:=[] }:jR).kind=kind from s] at this
  exact this.yX
 rcases i with ⟨rfl,i⟩|⟨rfl,i⟩
 . have r:=f10 (y:=y) (a:=true) (c:=false) (by simpa using i) (AG f)
   obtain⟨l,m,o,p⟩:=C.a5 b kind (Fl.of y);rw[r] at l m o p;exact key l m o p
 . have r:=f10 (y:=y) (a:=false) (c:=false) (by simpa using i) (AG f)
   obtain⟨l,m,o,p⟩:=C.a6 b kind (Fl.of y);rw[r] at l m o p;exact key l m o p
include C X in
theorem SI(h:qU P n b kind .d1 cs g):∃f,stepG P main g w=.go f w #[⟨.mark (.releaseMerge ⟨b,0,none⟩),false,true⟩]/\iL P n b kind Wd .d2 cs f:=by
 obtain⟨c,y,fr,frs,rfl,r,i,d,rfl⟩:=h;obtain⟨j,k,l,m⟩:=C.d1 b;obtain⟨e,a,o,p,q⟩:=Ee (P:=P) (Wd:=Wd) (v:=un) (x:=.tuple #[]) (.inl ⟨_,j⟩) i d l m (λ_=>rfl);exact⟨_,fW (λs g h=>by cases h) i j (lc k) X.rel,rfl,_,q cs,_,y0,e,a,rfl,sE,o,p,rfl⟩
include C X in
theorem SJ(h:qU P n b kind .d2 cs g):∃j,stepG P main g w=.go j w #[⟨.mark .disable,false,true⟩]/\iL P n b kind Wd .d4 cs j:=by
 obtain⟨c,y,fr,frs,rfl,H,k,f,rfl⟩:=h;obtain⟨l,p,q,r⟩:=C.d2 b;obtain⟨m,t,u,z⟩:=C.d3 b;refine⟨_,fD Jz k l (lc p) X.jF,rfl,?_⟩;obtain⟨d,a,o,A,B⟩:=Ee (P:=P) (Wd:=Wd) (v:=un) (x:=.tuple #[]) (.inl ⟨_,l⟩) k f q r (λ_=>rfl);obtain⟨i,e,D,E,F⟩:=Ee (P:=P) (Wd:=Wd) (c:=D3 P n b) (v:=ff) (x:=.bool false) (.inl ⟨_,m⟩) o A u z (λ_=>rfl);have hb:rC P Wd (G d (a++cs)) (G (d.finish (.bool false)) (a++cs)):=⟨rfl,λmain w _=>tQ (s:=(D3 P n b).1) o m (lc t) X.MM⟩;exact⟨_,(B cs).trans (hb.yX.trans (F cs)),_,y0,i,e,rfl,sE,D,E,rfl⟩
def lf(P:Program)(a:FuncId)(tmps:Array Value)(todo:List Item):Frame:=⟨a,tmps,todo,[],.returning,.deferred,none⟩
def dl(P:Program):Frame:={(default:Frame)with fn:=P.funcs.size,defers:=[],mode:=.panicking [goexitEntry]}
theorem tX{a:FuncId}{fn:Func}{tmps:Array Value}{todo:List Item}(c:P.funcs[a]?=some fn)(d:fn.results=#[]):QuitsD P 2 0 (G (lf P a tmps todo) [dl P]):=by
 refine .ctl (g':=G (dl P) []) rfl (λw=>?_) (.ctl (g':={G (dl P) []with status:=.finished}) rfl (λw=>?_) ⟨rfl,rfl⟩)
 . simp[G,stepG,unwind,c,results,d,lf,dl,goexitEntry]
   rfl
 . have b:(dl P).catches P=false:=by
    simp[Frame.catches,dl];rfl
   simp[G,stepG,unwind,dl,goexitEntry]at b ⊢;simp[b]
theorem tY{d:Nat}:∀{m k:Nat}{a c:Goroutine},kI P (λ_=>True) m a c->QuitsD P k d c->QuitsD P (k+m) d a
 |0,k,a,c,h,b=>by obtain rfl:=h;exact b
 |m+1,k,a,c,h,b=>by obtain⟨i,⟨e,f⟩,g⟩:=h;exact .ctl e (λw=>f false w trivial) (tY g b)
include X in
theorem wF{c:cQ}{y:Sy}{fr:Frame}{frs:List Frame}{a:FuncId}{fn:Func}{tmps:Array Value}{todo:List Item}(o:P.funcs[a]?=some fn)(b:fn.results=#[])(p:y.ok)(j:FR y c.1 fr)(e:mI y c.2 frs)
 (k:rE c.1=some n.en) (q:kJ (mJ P (Fl.of y) c).1 n.done=true) (r:(mJ P (Fl.of y) c).2=[]) (l:(mJ P (Fl.of y) c).1.kind=.deferred):∃m,QuitsD P m 1 (G fr (frs++[lf P a tmps todo,dl P])):=by
 obtain⟨_,f⟩:=AF (P:=P) (main:=false) (cs:=frs++[lf P a tmps todo,dl P]) (w:=default) j k X.en;obtain⟨m,g,d,s,t,u⟩:=mp (Wd:=λ_=>True) (P:=P) (Fl.Cf p) 400 f e
 have h:mI y [] d:=by rw[<-r];exact t
 obtain rfl:=h.lF;obtain⟨fd,body,v,B,C,x⟩:=X.JE;have hb:=lP (Wd:=λ_=>True) (c:=lf P a tmps todo) (rest:=[dl P]) s q v x (by show(mJ P (Fl.of y) c).1.kind≠_;rw[l];decide)
 have i:kV (sgo P (Fl.of y) 400 {c.1 with defers:=[]} c.2).1.kind (lf P a tmps todo) [dl P] (.tuple #[])=G (lf P a tmps todo) [dl P]:=by rw[show(sgo P (Fl.of y) 400 {c.1 with defers:=[]} c.2).1.kind=.deferred from l];rfl
 rw[i]at hb;have z:QuitsD P (2+1) 0 (G g [lf P a tmps todo,dl P]):=.ctl rfl (λw=>hb.2 false w trivial) (tX o b)
 have A:=tY (u [lf P a tmps todo,dl P]) z;exact⟨_,.said ⟨.mark .enable,false,true⟩ rfl rfl (λw=>(AF (P:=P) (main:=false) (cs:=frs++[lf P a tmps todo,dl P]) (w:=w) j k X.en).1) A⟩
def Gone(P:Program)(Wd:World->Prop)(a:Goroutine):Prop:=∃m,QuitsD P m 1 a
theorem AH{m k:Nat}{a c:Goroutine}(h:kI P (λ_=>True) m a c)(b:QuitsD P k 1 c):Gone P Wd a:=⟨_,tY h b⟩
include C X in
theorem SK{k v m:Nat}{o:FuncId}{fn:Func}{tmps:Array Value}{todo:List Item}(N:P.funcs[o]?=some fn)(f:fn.results=#[])(G:qT b w (k+1) v m)(R:k<1000)(S:v<=1)(h:qU P n b kind .d4 [lf P o tmps todo,dl P] g):
 ∃H w',stepG P main g w=.go H w' #[⟨.cell ⟨b,0,none⟩,false,true⟩,⟨.cell ⟨b,0,none⟩,true,true⟩]/\w'=w.setCell ⟨b,0,none⟩ (.int .u64 (eI k v))/\qT b w' k v m/\((k=0/\v=1/\iL P n b kind Wd .d5 [lf P o tmps todo,dl P] H)\/(¬(k=0/\v=1)/\Gone P Wd H)):=by
 obtain⟨cf,y,fr,frs,rfl,T,E,i,rfl⟩:=h;obtain⟨F,O,I,J⟩:=C.d4 b
 have e:IntKind.u64.wrap (eI (k+1:Nat) v+18446744069414584320)=eI k v:=by
  have:eI (k+1:Nat) v+18446744069414584320=eI k v+18446744073709551616:=by unfold eI;push_cast;omega
  rw[this];simp[IntKind.wrap,IntKind.bits,IntKind.signed];unfold eI;omega
 have p:=pR (main:=main) (cs:=frs++[lf P o tmps todo,dl P]) (w:=w) E F (lc O) X.sF (λx h=>h) G.cw (G.fz 0)
 rw[e]at p;have a:({y0 with c:=(k:Int)}:Sy).ok:=⟨by show(0:Int)<=2/\(2:Int)<=1000;decide,by show(0:Int)<=(k:Int)/\(k:Int)<=1000;omega⟩
 refine⟨_,_,p,rfl,G.aL k v,?_⟩;have q:v=0\/v=1:=by omega
 rcases q with rfl|rfl
 . refine .inr ⟨by omega,?_⟩
   obtain⟨l,d,r,s,t⟩:=mK (P:=P) (Wd:=λ_=>True) (y:={y0 with c:=(k:Int)}) (v:=.eI 0) (x:=.int .u64 (eI k 0)) (.inl ⟨_,F⟩) a (E.ij I) (i.ij J) rfl
   have u:=C.d5 b (Fl.of {y0 with c:=(k:Int)}) (decide ((k:Int)=0))
   obtain⟨z,A,B⟩:=C.Ua b (Fl.of {y0 with c:=(k:Int)}) (decide ((k:Int)=0))
   rw[Ef rfl]at u z A B;obtain⟨Q,K⟩:=wF X N f a r s u z A B;obtain⟨j,L⟩:=t [lf P o tmps todo,dl P];exact AH L K
 . by_cases D:k=0
   . refine .inl ⟨D,rfl,?_⟩
     obtain⟨l,d,r,s,t⟩:=mK (P:=P) (Wd:=Wd) (y:={y0 with c:=(k:Int)}) (v:=.eI 1) (x:=.int .u64 (eI k 1)) (.inl ⟨_,F⟩) a (E.ij I) (i.ij J) rfl
     exact⟨rfl,_,t _,_,_,l,d,⟨rfl,by show(k:Int)=0;omega⟩,a,r,s,rfl⟩
   . refine .inr ⟨by omega,?_⟩
     obtain⟨l,d,r,s,t⟩:=mK (P:=P) (Wd:=λ_=>True) (y:={y0 with c:=(k:Int)}) (v:=.eI 1) (x:=.int .u64 (eI k 1)) (.inl ⟨_,F⟩) a (E.ij I) (i.ij J) rfl
     have M:decide ((k:Int)=0)=false:=by simpa using D
     have u:=C.d6 b (Fl.of {y0 with c:=(k:Int)})
     obtain⟨z,A,B⟩:=C.Ub b (Fl.of {y0 with c:=(k:Int)})
     rw[Ef M]at u z A B;obtain⟨Q,K⟩:=wF X N f a r s u z A B;obtain⟨j,L⟩:=t [lf P o tmps todo,dl P];exact AH L K
include C X in
theorem SL{m:Nat}(q:qT b w 0 1 m)(h:qU P n b kind .d5 cs g):∃k,stepG P main g w=.go k w #[⟨.cell ⟨b,0,none⟩,false,true⟩]/\iL P n b kind Wd .d6 cs k:=by
 obtain⟨c,y,fr,frs,⟨rfl,e⟩,l,o,f,rfl⟩:=h;have r:=Ef (y:=y) (a:=true) (by simpa using e)
 obtain⟨i,p⟩:=C.d7 b (Fl.of y);rw[r]at i p;have s:SR y (.eI 1) (.int .u64 (eI 0 1)):=by show _=Value.int .u64 (eI y.c 1);rw[e]
 obtain⟨j,d,t,u,v⟩:=mK (P:=P) (Wd:=Wd) (.inl ⟨_,i⟩) l o f s;exact⟨_,tW o i (lc p) X.vg q.cw,rfl,_,v cs,_,y,j,d,⟨rfl,e⟩,l,t,u,rfl⟩
include C X in
theorem SM{m:Nat}(e:qT b w 0 1 m)(h:qU P n b kind .d6 cs g):∃k w',stepG P main g w=.go k w' #[⟨.cell ⟨b,0,none⟩,true,true⟩]/\w'=w.setCell ⟨b,0,none⟩ (.int .u64 (eI 0 0))/\qT b w' 0 0 m/\iL P n b kind Wd .d7 cs k:=by
 obtain⟨c,y,fr,frs,⟨rfl,l⟩,o,p,f,rfl⟩:=h;have r:=Ef (y:=y) (a:=true) (by simpa using l);obtain⟨i,q⟩:=C.d8 b (Fl.of y);rw[r]at i q;obtain⟨j,d,s,t,u⟩:=mK (P:=P) (Wd:=Wd) (v:=un) (x:=.tuple #[]) (.inl ⟨_,i⟩) o p f rfl;exact⟨_,_,GT p i (lc q) X.GU e.cw (e.fz 0),rfl,e.aL 0 0,rfl,_,u cs,_,y,j,d,⟨rfl,l⟩,o,s,t,rfl⟩
include C X in
theorem SN{v m:Nat}{k:FuncId}{fn:Func}{tmps:Array Value}{todo:List Item}(E:P.funcs[k]?=some fn)(d:fn.results=#[])(l:qT b w 0 v m)(M:m<=1000)(h:qU P n b kind .d7 [lf P k tmps todo,dl P] g):
 ∃q w',stepG P main g w=.go q w' (semEvents ⟨b,1,none⟩)/\w'=w.setCell ⟨b,1,none⟩ (.int .u32 (m+1:Nat))/\qT b w' 0 v (m+1)/\Gone P Wd q:=by
 obtain⟨c,y,fr,frs,⟨rfl,F⟩,r,s,o,rfl⟩:=h;have f:=Ef (y:=y) (a:=true) (by simpa using F)
 obtain⟨p,t⟩:=C.d9 b (Fl.of y);rw[f]at p t;have i:=oH (main:=main) (cs:=frs++[lf P k tmps todo,dl P]) (w:=w) s p (lc t) X.oI l.cs (l.fz 1);have e:IntKind.u32.wrap ((m:Int)+1)=((m+1:Nat):Int):=by rw[IntKind.wrap_u32];omega
 rw[e]at i;obtain⟨G,u,H,I,J⟩:=mK (P:=P) (Wd:=λ_=>True) (v:=un) (x:=.tuple #[]) (.inl ⟨_,p⟩) r s o rfl
 have z:=C.da b (Fl.of y);obtain⟨A,B,D⟩:=C.db b (Fl.of y);rw[f]at z A B D;obtain⟨N,K⟩:=wF X E d r H I z A B D;obtain⟨j,L⟩:=J [lf P k tmps todo,dl P];exact⟨_,_,i,rfl,l.Ec (m+1),AH L K⟩
end
section
variable{P:Program}{n:Iq}(C:jS P n)(X:lw P n){b:Nat}{kind:CallKind}{Wd:World->Prop}{cs:List Frame}{g:Goroutine}{w:World}{main:Bool}
variable(hW0:∀w,Wd w->∃v,w.cell? ⟨b,0,none⟩=some v)(hW1:∀w,Wd w->∃v,w.cell? ⟨b,1,none⟩=some v)
include C X in
theorem SO(h:qU P n b kind .w0 cs g)(k:kind≠.early):∃f,stepG P main g w=.go f w #[⟨.mark .disable,false,true⟩]/\iL P n b kind Wd .w1 cs f:=by
 obtain⟨c,y,fr,frs,rfl,s,i,d,rfl⟩:=h;obtain⟨j,l,m,o⟩:=C.w0 b kind;obtain⟨e,a,p,q,r⟩:=Ee (P:=P) (Wd:=Wd) (v:=un) (x:=.tuple #[]) (.inl ⟨_,j⟩) i d l (by rw[m];rfl) (λ_=>rfl);exact⟨_,fD Jz i j (by rw[o];exact k) X.jF,rfl,_,r cs,_,y0,e,a,rfl,sE,p.keep [5],q.qS [[0]],rfl⟩
include C X in
theorem SP{c m:Nat}(r:qT b w c 0 m)(z:c<=1000)(h:qU P n b kind .w1 cs g):
 ∃f,stepG P main g w=.go f w #[⟨.cell ⟨b,0,none⟩,false,true⟩]/\((c=0/\iL P n b kind Wd .we cs f)\/(c≠0/\iL P n b kind Wd (.w2 c) cs f)):=by
 obtain⟨cf,y,fr,frs,rfl,A,k,i,rfl⟩:=h;obtain⟨l,s,t,u⟩:=C.w1 b kind;have d:({y0 with c:=(c:Int)}:Sy).ok:=⟨by show(0:Int)<=2/\(2:Int)<=1000;decide,by show(0:Int)<=(c:Int)/\(c:Int)<=1000;omega⟩;obtain⟨e,a,o,p,q⟩:=mK (P:=P) (Wd:=Wd) (y:={y0 with c:=(c:Int)}) (v:=.eI 0) (x:=.int .u64 (eI c 0)) (.inl ⟨_,l⟩) d (k.ij t) (i.ij u) rfl;refine⟨_,tW k l (lc s) X.vg r.cw,?_⟩;by_cases j:c=0
 . exact .inl ⟨j,rfl,_,q cs,_,_,e,a,.inl ⟨rfl,by show(c:Int)=0;omega⟩,d,o,p,rfl⟩
 . exact .inr ⟨j,rfl,_,q cs,_,_,e,a,⟨rfl,rfl,j⟩,d,o,p,rfl⟩
include C X hW0 in
theorem SS(h:qU P n b kind .we cs g)(D:kind≠.early):∃E,stepG P main g w=.go E w #[⟨.mark .enable,false,true⟩]/\iL P n b kind Wd .wa cs E:=by
 obtain⟨c,y,fr,frs,e,k,q,l,rfl⟩:=h;rcases e with⟨rfl,e⟩|⟨rfl,e⟩
 . have r:=Ef (y:=y) (a:=true) (by simpa using e)
   obtain⟨f,m⟩:=C.w2 b kind (Fl.of y);have i:=C.w3 b kind (Fl.of y);rw[r]at f m i;obtain⟨s,o,p,t,u⟩:=mK (P:=P) (Wd:=Wd) (v:=un) (x:=.tuple #[]) (.inl ⟨_,f⟩) k q l rfl;obtain⟨j,d,z,A,B⟩:=mK (P:=P) (Wd:=Wd) (c:=WC P n b kind (Fl.of y)) (v:=pt b 0) (x:=.pointer (some ⟨b,0,none⟩)) (.inr ⟨_,i⟩) k p t rfl;exact⟨_,fD JA q f (by rw[m];exact D) X.en,rfl,_,(u cs).trans ((JG X hW0 (c:=WC P n b kind (Fl.of y)) (cs:=cs) i p).yX.trans (B cs)),_,y,j,d,.inl ⟨rfl,e⟩,k,z,A,rfl⟩
 . have r:=Ef (y:=y) (a:=false) (AG e)
   obtain⟨f,m⟩:=C.wc b kind (Fl.of y);have i:=C.wd b kind (Fl.of y);rw[r]at f m i;obtain⟨s,o,p,t,u⟩:=mK (P:=P) (Wd:=Wd) (v:=un) (x:=.tuple #[]) (.inl ⟨_,f⟩) k q l rfl;obtain⟨j,d,z,A,B⟩:=mK (P:=P) (Wd:=Wd) (c:=QT P n b kind (Fl.of y)) (v:=pt b 0) (x:=.pointer (some ⟨b,0,none⟩)) (.inr ⟨_,i⟩) k p t rfl;exact⟨_,fD JA q f (by rw[m];exact D) X.en,rfl,_,(u cs).trans ((JG X hW0 (c:=QT P n b kind (Fl.of y)) (cs:=cs) i p).yX.trans (B cs)),_,y,j,d,.inr ⟨rfl,e⟩,k,z,A,rfl⟩
include C X in
theorem ST{j:Frame}{rest:List Frame}(h:qU P n b kind .wa (j::rest) g)(q:kind≠.early):∃t,stepG P main g w=.go t w #[⟨.mark (.acquire ⟨b,0,none⟩),false,true⟩]/\t.status=.running/\sB P Wd t (kV kind j rest (.tuple #[])):=by
 obtain⟨c,y,fr,frs,k,E,r,l,rfl⟩:=h;obtain⟨fn,body,f1,H,I,F⟩:=X.JF;rcases k with⟨rfl,k⟩|⟨rfl,k⟩
 . have u:=Ef (y:=y) (a:=true) (by simpa using k)
   obtain⟨f,m⟩:=C.w4 b kind (Fl.of y);obtain⟨o,p,i⟩:=C.w5 b kind (Fl.of y);rw[u]at f m o p i;obtain⟨z,d,A,B,D⟩:=mK (P:=P) (Wd:=Wd) (v:=un) (x:=.tuple #[]) (.inl ⟨_,f⟩) E r l rfl;have e:mI y (WB P n b kind (Fl.of y)).2 d:=B;rw[p]at e;obtain rfl:=e.lF;have hb:=lP (Wd:=Wd) (c:=j) (rest:=rest) (s:=(WB P n b kind (Fl.of y)).1) A o f1 F (by rw[i];exact q);rw[i]at hb;exact⟨_,fW (λG g h=>by cases h) r f (by rw[m];exact q) X.acq,rfl,(D (j::rest)).trans hb.yX⟩
 . have u:=Ef (y:=y) (a:=false) (AG k)
   obtain⟨f,m⟩:=C.we b kind (Fl.of y);obtain⟨o,p,i⟩:=C.wf b kind (Fl.of y);rw[u]at f m o p i;obtain⟨z,d,A,B,D⟩:=mK (P:=P) (Wd:=Wd) (v:=un) (x:=.tuple #[]) (.inl ⟨_,f⟩) E r l rfl;have e:mI y (N4 P n b kind (Fl.of y)).2 d:=B;rw[p]at e;obtain rfl:=e.lF;have hb:=lP (Wd:=Wd) (c:=j) (rest:=rest) (s:=(N4 P n b kind (Fl.of y)).1) A o f1 F (by rw[i];exact q);rw[i]at hb;exact⟨_,fW (λG g h=>by cases h) r f (by rw[m];exact q) X.acq,rfl,(D (j::rest)).trans hb.yX⟩
theorem MN{c c' v a:Nat}(d:v<=1000)(b:a<=1000):eI c v=eI c' a↔(c=c'/\v=a):=by unfold eI;omega
include C X hW1 in
theorem SU{k c m:Nat}(l:qT b w c 0 m)(h:qU P n b kind (.w2 k) cs g):
 (c=k/\∃o w',stepG P main g w=.go o w' #[⟨.cell ⟨b,0,none⟩,false,true⟩,⟨.cell ⟨b,0,none⟩,true,true⟩]/\w'=w.setCell ⟨b,0,none⟩ (.int .u64 (eI k 1))/\qT b w' k 1 m/\iL P n b kind Wd .w3 cs o)\/
 (c≠k/\∃o,stepG P main g w=.go o w #[⟨.cell ⟨b,0,none⟩,false,true⟩]/\iL P n b kind Wd .w1 cs o):=by
 obtain⟨cf,y,fr,frs,⟨rfl,K,L⟩,p,z,q,rfl⟩:=h;have r:y.c≠0:=by rw[K];omega
 have D:=Ef (y:=y) (a:=false) (AG r);obtain⟨s,E⟩:=C.w6 b kind (Fl.of y);rw[D]at s E
 have A:∀j:Nat,∀x,SR y (.eI j) x->x=.int .u64 (eI k j):=λj x F=>by have F:x=.int .u64 (eI y.c j):=F;rw[F,K]
 by_cases f:c=k
 . subst f
   refine .inl ⟨rfl,_,_,iq z s (lc E) X.wC (A 0) (A 1) l.cw (l.fz 0),rfl,l.aL c 1,rfl,?_⟩;have i:=C.w8 b kind (Fl.of y);rw[D]at i;obtain⟨t,d,B,G,H⟩:=mK (P:=P) (Wd:=Wd) (v:=tt) (x:=.bool true) (.inl ⟨_,s⟩) p z q rfl;obtain⟨I,u,M,N,O⟩:=mK (P:=P) (Wd:=Wd) (c:=W3 P n b kind (Fl.of y)) (v:=pt b 1) (x:=.pointer (some ⟨b,1,none⟩)) (.inr ⟨_,i⟩) p B G rfl;exact⟨_,(H cs).trans ((N5 X hW1 (c:=W3 P n b kind (Fl.of y)) (cs:=cs) i B).yX.trans (O cs)),_,y,I,u,⟨rfl,r⟩,p,M,N,rfl⟩
 . have J:¬eI c 0=eI k 0:=λe=>f ((MN (by omega) (by omega)).1 e).1
   refine .inr ⟨f,_,iK z s (lc E) X.wC (A 0) (A 1) l.cw (l.fz 0) J,rfl,?_⟩;have i:=C.w7 b kind (Fl.of y);rw[D]at i;obtain⟨t,d,B,G,H⟩:=mK (P:=P) (Wd:=Wd) (v:=ff) (x:=.bool false) (.inl ⟨_,s⟩) p z q rfl;have Q:=B.keep [5];have R:=G.qS [[0]];refine⟨_,H cs,W1 P n b kind,y,t,d,rfl,p,?_,?_,rfl⟩
   . rw[<-i];exact Q
   . rw[<-i];exact R
include C X in
theorem SX(h:qU P n b kind .w3 cs g)(p:kind≠.early):∃j,stepG P main g w=.go j w #[⟨.mark (.write ⟨b,1,none⟩),false,true⟩]/\iL P n b kind Wd .w4 cs j:=by obtain⟨c,y,fr,frs,⟨rfl,k⟩,l,m,e,rfl⟩:=h;have q:=Ef (y:=y) (a:=false) (AG k);obtain⟨f,o⟩:=C.w9 b kind (Fl.of y);rw[q]at f o;obtain⟨i,d,r,s,t⟩:=mK (P:=P) (Wd:=Wd) (v:=un) (x:=.tuple #[]) (.inl ⟨_,f⟩) l m e rfl;exact⟨_,fW (λu g h=>by cases h) m f (by rw[o];exact p) X.wr,rfl,_,t cs,_,y,i,d,⟨rfl,k⟩,l,r,s,rfl⟩
include C X in
theorem SY{c v m:Nat}(i:qT b w c v m)(D:m≠0)(h:qU P n b kind .w4 cs g)(t:kind≠.early):
 ∃o w',stepG P main g w=.go o w' (semEvents ⟨b,1,none⟩)/\w'=w.setCell ⟨b,1,none⟩ (.int .u32 (m-1:Nat))/\qT b w' c v (m-1)/\iL P n b kind Wd .w5 cs o:=by
 obtain⟨cf,y,fr,frs,⟨rfl,p⟩,q,r,j,rfl⟩:=h;have u:=Ef (y:=y) (a:=false) (AG p);obtain⟨k,s⟩:=C.wa b kind (Fl.of y);rw[u]at k s;have d:=sC (main:=main) (cs:=frs++cs) (w:=w) (n:=(m:Int)) r k (by rw[s];exact t) X.D5 i.cs (by omega) (i.fz _);have e:((m:Int)-1)=((m-1:Nat):Int):=by omega
 rw[e]at d;obtain⟨l,f,z,A,B⟩:=mK (P:=P) (Wd:=Wd) (v:=un) (x:=.tuple #[]) (.inl ⟨_,k⟩) q r j rfl;exact⟨_,_,d,rfl,i.Ec (m-1),rfl,_,B cs,_,y,l,f,⟨rfl,p⟩,q,z,A,rfl⟩
include C X in
theorem QU{c v:Nat}(e:qT b w c v 0)(h:qU P n b kind .w4 cs g):stepG P main g w=.go {g with status:=.blocked} w #[]:=by obtain⟨cf,y,fr,frs,⟨rfl,f⟩,m,i,j,rfl⟩:=h;have k:=Ef (y:=y) (a:=false) (AG f);obtain⟨d,l⟩:=C.wa b kind (Fl.of y);rw[k]at d l;exact y9 i d X.D5 e.cs
include C X in
theorem SZ{m:Nat}(r:qT b w 0 0 m)(h:qU P n b kind .w5 cs g):∃k,stepG P main g w=.go k w #[⟨.cell ⟨b,0,none⟩,false,true⟩]/\iL P n b kind Wd .we cs k:=by obtain⟨c,y,fr,frs,⟨rfl,l⟩,o,p,e,rfl⟩:=h;have s:=Ef (y:=y) (a:=false) (AG l);obtain⟨f,q⟩:=C.wb b kind (Fl.of y);rw[s]at f q;have i:=tW (main:=main) (cs:=frs++cs) p f (lc q) X.vg r.cw;obtain⟨j,d,t,u,z⟩:=mK (P:=P) (Wd:=Wd) (v:=u64 0) (x:=.int .u64 0) (.inl ⟨_,f⟩) o p e rfl;exact⟨_,i,rfl,_,z cs,_,y,j,d,.inr ⟨rfl,l⟩,o,t,u,rfl⟩
end
structure rH(P:Program)(n:zd):Prop where
 lock:∃fn body,P.funcs[n.lock]?=some fn/\fn.body=some body/\fn.ntmps=6/\fn.results=#[]
 unlock:∃fn body,P.funcs[n.unlock]?=some fn/\fn.body=some body/\fn.ntmps=6/\fn.results=#[]
section
variable{P:Program}{n:zd}(C:jf P n)(X:jg P n)(F:rH P n){b o:Nat}{kind:CallKind}{Wd:World->Prop}{cs:List Frame}{g:Goroutine}{w:World}{main:Bool}
include F in
theorem qV:∃a,sB P Wd (G (Frame.enter P n.lock #[.pointer (some ⟨b,o,none⟩)] kind) cs) a/\oq P n b o kind .ld cs a:=by obtain⟨fn,body,c,d,e,f⟩:=F.lock;exact Ed ⟨fn,body,c,d,e⟩
include F in
theorem po:∃e,sB P Wd (G (Frame.enter P n.unlock #[.pointer (some ⟨b,o,none⟩)] kind) cs) e/\oq P n b o kind .Fq cs e:=by
 obtain⟨fn,body,f,g,q,r⟩:=F.unlock
 have j:FR y0 (dP P n.unlock [pt b o] kind) (Frame.enter P n.unlock #[.pointer (some ⟨b,o,none⟩)] kind):=sG f g rfl λi a h=>by
  match i with
  |0=>simp at h;subst h;exact⟨_,rfl,rfl⟩
  |i+1=>simp at h
 obtain⟨m,d,c,k,l,p⟩:=mp (Wd:=Wd) (P:=P) Eg 400 j (st:=[]) (frs:=[]) trivial;exact⟨_,⟨m,p cs⟩,_,y0,d,c,rfl,sE,k.keep [0,5],l.keep [],rfl⟩
include F in
theorem sH{c:Frame}{rest:List Frame}(h:oq P n b o kind .back (c::rest) g)(e:kind≠.early):sB P Wd g (kV kind c rest (.tuple #[])):=by obtain⟨cf,y,fr,frs,rfl,l,i,a,rfl⟩:=h;obtain⟨fn,body,j,m,p,k⟩:=F.lock;have d:mI y [] frs:=a;obtain rfl:=d.lF;exact(lP (Wd:=Wd) (c:=c) (rest:=rest) (s:=(BK n kind).1) (f:=n.lock) i (by simp[BK,kJ]) j k e).yX
include F in
theorem pT{c:Frame}{rest:List Frame}(h:oq P n b o kind .Cg (c::rest) g)(e:kind≠.early):sB P Wd g (kV kind c rest (.tuple #[])):=by obtain⟨cf,y,fr,frs,rfl,l,i,a,rfl⟩:=h;obtain⟨fn,body,j,m,p,k⟩:=F.unlock;have d:mI y [] frs:=a;obtain rfl:=d.lF;exact(lP (Wd:=Wd) (c:=c) (rest:=rest) (s:=(QH n kind).1) (f:=n.unlock) i (by simp[QH,kJ]) j k e).yX
end
end Go.aR
